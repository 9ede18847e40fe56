/- A part of the proof that the law FnExactRowOk answers true for every input: contracts of functions that it reaches, or its plain law. -/
import Derived.Test.YthpgglegdhjihaaDoorProg
import Derived.KernelRfl
import Derived.RangeFuncNested
import Derived.RangeFuncBound
import Derived.RangeFuncCalls
import Derived.RangeFuncLeaves
import Derived.Shelf.Abstract
import Derived.Shelf.RegionOpen
import Derived.WalkKit
import Derived.OwnWalkIn
import Derived.TacticsInMore
import Derived.LoopNIn
import Derived.LoopIn
import Derived.Shelf.Strings.BuilderF
import Derived.Lib.FrozenHead2
import Derived.Lib.OthersKept
import Derived.Lib.ItoaNum
import Derived.Lib.Repeat
import Derived.Shelf.Strings.Builder1
import Derived.Shelf.Strings.Builder2
import Derived.Shelf.Strings.BuilderK
import Derived.Shelf.Strings.Builder2Cap
import Derived.Shelf.Strconv.Itoa0
import Derived.Shelf.Strconv.Itoa1
import Derived.Shelf.LaysM
import Derived.Shelf.Strconv.Itoa2
import Derived.Shelf.Strconv.Itoa3
import Derived.Shelf.Strings.Search1
import Derived.Shelf.Strings.Search2
import Derived.Shelf.Strings.Cut
import Derived.Shelf.Strings.Shaped
import Derived.Shelf.Strings.Prefix
import Derived.Shelf.Bits.Mul64
import Derived.Shelf.Strings.Repeat
import Derived.Lib.LaidTab
import Derived.Lib.AppendIntMem
import Derived.Test.YthpgglegdhjihaaDoorRows
import Derived.ProofKit
import Derived.OpenShut
import Derived.ShutString
import Derived.ChangeOld
import Derived.Below
import Derived.SizedLaws
import Derived.Carry
import Derived.Test.YthpgglegdhjihaaDoorCards
import Derived.Test.YthpgglegdhjihaaDoorTie
import Derived.LaidMore
import Derived.Stop.Joined
import Derived.Stop.LaidErr
import Derived.SevenTiedAt
import Derived.Lib.Strings
import Derived.Test.YthpgglegdhjihaaDoorCFnExactRowOkx0
import Derived.Test.YthpgglegdhjihaaDoorCFnExactRowOkx2
import Derived.Test.YthpgglegdhjihaaDoorCFnExactRowOkx3
namespace Go.Proofs.YthpgglegdhjihaaDoor.Q
end Go.Proofs.YthpgglegdhjihaaDoor.Q
namespace Go.Proofs.YthpgglegdhjihaaDoor.R
end Go.Proofs.YthpgglegdhjihaaDoor.R
namespace Go.Proofs.YthpgglegdhjihaaDoorW.PrintLast
end Go.Proofs.YthpgglegdhjihaaDoorW.PrintLast
namespace Go.Proofs.YthpgglegdhjihaaDoorW.PrintMore
end Go.Proofs.YthpgglegdhjihaaDoorW.PrintMore
namespace Go.Proofs.YthpgglegdhjihaaDoorW.PrintWords
end Go.Proofs.YthpgglegdhjihaaDoorW.PrintWords
section
/-! Rf: the seat's tables. -/
set_option autoImplicit false
namespace Go.Proofs.YthpgglegdhjihaaDoor.R
open Go.Rf
noncomputable def tabs : Tabs where
  ty := [(3, ⟨false, [.int .i64], [], 8⟩),
    (4, ⟨false, [.bool], [], 1⟩),
    (5, ⟨false, [.int .u8], [], 1⟩),
    (9, ⟨false, [.str], [], 16⟩),
    (22, ⟨false, [.sl (.int .i64)], [], 24⟩),
    (24, ⟨true, [.bool, .sl (.int .i64)], [(0, 1, false), (1, 1, false)], 32⟩),
    (26, ⟨true, [.bool, .sl (.int .i64), .int .i64], [(0, 2, true), (2, 1, false)], 40⟩),
    (28, ⟨true, [.int .i64, .int .i64], [(0, 1, false), (1, 1, false)], 16⟩),
    (30, ⟨true, [.int .i64, .bool, .bool, .sl (.int .i64), .int .i64, .int .i64, .int .i64, .int .i64, .str], [(0, 1, false), (1, 1, false), (2, 3, true), (5, 1, false), (6, 2, true), (8, 1, false)], 96⟩),
    (33, ⟨true, [.bool, .sl (.int .i64)], [(0, 1, false), (1, 1, false)], 32⟩),
    (35, ⟨true, [.bool, .sl (.int .i64), .int .i64], [(0, 2, true), (2, 1, false)], 40⟩),
    (36, ⟨true, [.int .i64, .int .i64], [(0, 1, false), (1, 1, false)], 16⟩),
    (38, ⟨true, [.int .i64, .bool, .bool, .sl (.int .i64), .int .i64, .int .i64, .int .i64, .int .i64, .str], [(0, 1, false), (1, 1, false), (2, 3, true), (5, 1, false), (6, 2, true), (8, 1, false)], 96⟩),
    (43, ⟨true, [.int .i64, .int .i64, .int .i64], [(0, 1, false), (1, 1, false), (2, 1, false)], 24⟩),
    (45, ⟨true, [.int .i64, .int .i64, .int .i64], [(0, 1, false), (1, 1, false), (2, 1, false)], 24⟩),
    (52, ⟨false, [.sl (.int .u8)], [], 24⟩),
    (58, ⟨false, [.sl (.pair (.int .i64) (.pair (.int .i64) (.pair (.int .i64) .unit)))], [], 24⟩),
    (59, ⟨false, [.sl (.pair (.int .i64) (.pair .bool (.pair .bool (.pair (.sl (.int .i64)) (.pair (.int .i64) (.pair (.int .i64) (.pair (.int .i64) (.pair (.int .i64) (.pair .str .unit)))))))))], [], 24⟩),
    (63, ⟨false, [.sl (.pair (.int .i64) (.pair (.int .i64) (.pair (.int .i64) .unit)))], [], 24⟩),
    (65, ⟨false, [.sl (.pair (.int .i64) (.pair .bool (.pair .bool (.pair (.sl (.int .i64)) (.pair (.int .i64) (.pair (.int .i64) (.pair (.int .i64) (.pair (.int .i64) (.pair .str .unit)))))))))], [], 24⟩),
    (80, ⟨false, [.sl (.int .i64)], [], 24⟩)]
  el := [(22, 3), (52, 5), (58, 43), (59, 30), (63, 45), (65, 38)]
  ifcs := []
  known := [3, 4, 7, 8, 9, 10, 11, 12, 13, 14, 15, 18, 22, 25, 26, 27, 28, 29, 30, 31, 32, 33, 34, 35, 36, 37, 38, 39, 40, 41, 42, 43, 44, 45, 46, 60, 61, 62, 63, 64, 65, 66, 67, 68, 69, 70, 71, 72, 73, 74, 85, 86, 87, 88, 89, 90, 91, 92, 93, 94, 95, 96, 97, 111, 112, 113]
  spec := [(3, ⟨[.agg [.v (.int .i64), .v .bool, .v .bool, .v (.sl (.int .i64)), .v (.int .i64), .v (.int .i64), .v (.int .i64), .v (.int .i64), .v .str]], [.c (.v .bool)]⟩),
    (4, ⟨[.agg [.v (.int .i64), .v .bool, .v .bool, .v (.sl (.int .i64)), .v (.int .i64), .v (.int .i64), .v (.int .i64), .v (.int .i64), .v .str], .agg [.v (.int .i64), .v (.int .i64), .v (.int .i64)]], [.c (.v .bool)]⟩),
    (7, ⟨[.c (.v (.sl (.pair (.int .i64) (.pair (.int .i64) (.pair (.int .i64) .unit))))), .c (.v (.sl (.pair (.int .i64) (.pair .bool (.pair .bool (.pair (.sl (.int .i64)) (.pair (.int .i64) (.pair (.int .i64) (.pair (.int .i64) (.pair (.int .i64) (.pair .str .unit)))))))))))], [.c (.v .bool)]⟩),
    (8, ⟨[.agg [.v (.int .i64), .v .bool, .v .bool, .v (.sl (.int .i64)), .v (.int .i64), .v (.int .i64), .v (.int .i64), .v (.int .i64), .v .str], .c (.v (.int .i64))], [.c (.v (.int .i64))]⟩),
    (9, ⟨[.agg [.v (.int .i64), .v .bool, .v .bool, .v (.sl (.int .i64)), .v (.int .i64), .v (.int .i64), .v (.int .i64), .v (.int .i64), .v .str]], [.c (.v .bool)]⟩),
    (10, ⟨[.agg [.v (.int .i64), .v .bool, .v .bool, .v (.sl (.int .i64)), .v (.int .i64), .v (.int .i64), .v (.int .i64), .v (.int .i64), .v .str]], [.agg [.v (.int .i64), .v .bool, .v .bool, .v (.sl (.int .i64)), .v (.int .i64), .v (.int .i64), .v (.int .i64), .v (.int .i64), .v .str]]⟩),
    (11, ⟨[.agg [.v (.int .i64), .v .bool, .v .bool, .v (.sl (.int .i64)), .v (.int .i64), .v (.int .i64), .v (.int .i64), .v (.int .i64), .v .str]], [.c (.v .bool)]⟩),
    (12, ⟨[.agg [.v (.int .i64), .v .bool, .v .bool, .v (.sl (.int .i64)), .v (.int .i64), .v (.int .i64), .v (.int .i64), .v (.int .i64), .v .str], .agg [.v (.int .i64), .v .bool, .v .bool, .v (.sl (.int .i64)), .v (.int .i64), .v (.int .i64), .v (.int .i64), .v (.int .i64), .v .str]], [.c (.v .bool)]⟩),
    (13, ⟨[.agg [.v (.int .i64), .v .bool, .v .bool, .v (.sl (.int .i64)), .v (.int .i64), .v (.int .i64), .v (.int .i64), .v (.int .i64), .v .str], .agg [.v (.int .i64), .v (.int .i64), .v (.int .i64)]], [.c (.v .bool)]⟩),
    (14, ⟨[.agg [.v (.int .i64), .v (.int .i64), .v (.int .i64)]], [.agg [.v (.int .i64), .v (.int .i64), .v (.int .i64)]]⟩),
    (15, ⟨[.agg [.v (.int .i64), .v .bool, .v .bool, .v (.sl (.int .i64)), .v (.int .i64), .v (.int .i64), .v (.int .i64), .v (.int .i64), .v .str], .agg [.v (.int .i64), .v (.int .i64), .v (.int .i64)]], [.c (.v .bool)]⟩),
    (18, ⟨[.agg [.v (.int .i64), .v (.int .i64), .v (.int .i64)], .agg [.v (.int .i64), .v (.int .i64), .v (.int .i64)]], [.c (.v .bool)]⟩),
    (22, ⟨[.agg [.v (.int .i64), .v (.int .i64), .v (.int .i64)]], [.c (.v .bool)]⟩),
    (25, ⟨[.c (.v (.sl (.pair (.int .i64) (.pair (.int .i64) (.pair (.int .i64) .unit))))), .c (.v (.int .i64))], [.c (.v (.int .i64))]⟩),
    (26, ⟨[.c (.v (.sl (.pair (.int .i64) (.pair .bool (.pair .bool (.pair (.sl (.int .i64)) (.pair (.int .i64) (.pair (.int .i64) (.pair (.int .i64) (.pair (.int .i64) (.pair .str .unit))))))))))), .c (.v (.int .i64))], [.c (.v (.int .i64))]⟩),
    (27, ⟨[.c (.v (.sl (.pair (.int .i64) (.pair (.int .i64) (.pair (.int .i64) .unit))))), .c (.v (.sl (.pair (.int .i64) (.pair .bool (.pair .bool (.pair (.sl (.int .i64)) (.pair (.int .i64) (.pair (.int .i64) (.pair (.int .i64) (.pair (.int .i64) (.pair .str .unit)))))))))))], [.c (.v .bool)]⟩),
    (28, ⟨[.c (.v (.sl (.pair (.int .i64) (.pair (.int .i64) (.pair (.int .i64) .unit)))))], [.c (.v (.sl (.pair (.int .i64) (.pair (.int .i64) (.pair (.int .i64) .unit)))))]⟩),
    (29, ⟨[.c (.v (.sl (.pair (.int .i64) (.pair .bool (.pair .bool (.pair (.sl (.int .i64)) (.pair (.int .i64) (.pair (.int .i64) (.pair (.int .i64) (.pair (.int .i64) (.pair .str .unit)))))))))))], [.c (.v (.sl (.pair (.int .i64) (.pair .bool (.pair .bool (.pair (.sl (.int .i64)) (.pair (.int .i64) (.pair (.int .i64) (.pair (.int .i64) (.pair (.int .i64) (.pair .str .unit)))))))))))]⟩),
    (30, ⟨[.c (.v (.sl (.pair (.int .i64) (.pair (.int .i64) (.pair (.int .i64) .unit))))), .c (.v (.sl (.pair (.int .i64) (.pair .bool (.pair .bool (.pair (.sl (.int .i64)) (.pair (.int .i64) (.pair (.int .i64) (.pair (.int .i64) (.pair (.int .i64) (.pair .str .unit)))))))))))], [.c (.v .bool)]⟩),
    (31, ⟨[.c (.v (.sl (.pair (.int .i64) (.pair (.int .i64) (.pair (.int .i64) .unit))))), .c (.v (.sl (.pair (.int .i64) (.pair (.int .i64) (.pair (.int .i64) .unit)))))], [.c (.v .bool)]⟩),
    (32, ⟨[.c (.v (.sl (.pair (.int .i64) (.pair .bool (.pair .bool (.pair (.sl (.int .i64)) (.pair (.int .i64) (.pair (.int .i64) (.pair (.int .i64) (.pair (.int .i64) (.pair .str .unit))))))))))), .c (.v (.sl (.pair (.int .i64) (.pair .bool (.pair .bool (.pair (.sl (.int .i64)) (.pair (.int .i64) (.pair (.int .i64) (.pair (.int .i64) (.pair (.int .i64) (.pair .str .unit)))))))))))], [.c (.v .bool)]⟩),
    (33, ⟨[.agg [.v .bool, .v (.sl (.int .i64)), .v (.int .i64)], .c (.v (.int .i64))], [.c (.v (.int .i64))]⟩),
    (34, ⟨[.agg [.v (.int .i64), .v .bool, .v .bool, .v (.sl (.int .i64)), .v (.int .i64), .v (.int .i64), .v (.int .i64), .v (.int .i64), .v .str]], [.c (.v .bool)]⟩),
    (35, ⟨[.agg [.v .bool, .v (.sl (.int .i64)), .v (.int .i64)]], [.agg [.v .bool, .v (.sl (.int .i64)), .v (.int .i64)]]⟩),
    (36, ⟨[.agg [.v (.int .i64), .v (.int .i64)]], [.agg [.v (.int .i64), .v (.int .i64)]]⟩),
    (37, ⟨[.agg [.v .bool, .v (.sl (.int .i64)), .v (.int .i64)]], [.c (.v .bool)]⟩),
    (38, ⟨[.c (.v (.int .i64))], [.c (.v .bool)]⟩),
    (39, ⟨[.agg [.v (.int .i64), .v (.int .i64)]], [.c (.v .bool)]⟩),
    (40, ⟨[.c (.v (.int .i64)), .c (.v (.int .i64)), .c (.v (.int .i64))], [.c (.v .bool)]⟩),
    (41, ⟨[.agg [.v .bool, .v (.sl (.int .i64)), .v (.int .i64)]], [.c (.v .bool)]⟩),
    (42, ⟨[.agg [.v .bool, .v (.sl (.int .i64)), .v (.int .i64)], .agg [.v .bool, .v (.sl (.int .i64)), .v (.int .i64)]], [.c (.v .bool)]⟩),
    (43, ⟨[.agg [.v (.int .i64), .v (.int .i64)], .agg [.v (.int .i64), .v (.int .i64)]], [.c (.v .bool)]⟩),
    (44, ⟨[.agg [.v (.int .i64), .v (.int .i64), .v (.int .i64)]], [.c (.v .bool)]⟩),
    (45, ⟨[.agg [.v (.int .i64), .v .bool, .v .bool, .v (.sl (.int .i64)), .v (.int .i64), .v (.int .i64), .v (.int .i64), .v (.int .i64), .v .str], .agg [.v (.int .i64), .v (.int .i64), .v (.int .i64)]], [.c (.v .bool)]⟩),
    (46, ⟨[.c (.v (.sl (.int .i64)))], [.c (.v (.int .i64))]⟩),
    (60, ⟨[.c (.v (.sl (.pair (.int .i64) (.pair (.int .i64) (.pair (.int .i64) .unit))))), .c (.v (.sl (.pair (.int .i64) (.pair .bool (.pair .bool (.pair (.sl (.int .i64)) (.pair (.int .i64) (.pair (.int .i64) (.pair (.int .i64) (.pair (.int .i64) (.pair .str .unit)))))))))))], [.c (.v .bool)]⟩),
    (61, ⟨[.c (.v (.sl (.pair (.int .i64) (.pair (.int .i64) (.pair (.int .i64) .unit)))))], [.c (.v .bool)]⟩),
    (63, ⟨[.agg [.v .bool, .v (.sl (.int .i64))], .c (.v (.int .i64))], [.c (.v (.int .i64))]⟩),
    (64, ⟨[.c (.v (.int .i64)), .c (.v (.int .i64)), .c (.v (.int .i64))], [.c (.v .bool)]⟩),
    (65, ⟨[.agg [.v (.int .i64), .v .bool, .v .bool, .v (.sl (.int .i64)), .v (.int .i64), .v (.int .i64), .v (.int .i64), .v (.int .i64), .v .str]], [.c (.v .bool)]⟩),
    (66, ⟨[.agg [.v .bool, .v (.sl (.int .i64)), .v (.int .i64)]], [.c (.v .bool)]⟩),
    (67, ⟨[.c (.v (.int .i64))], [.c (.v .bool)]⟩),
    (68, ⟨[.agg [.v (.int .i64), .v (.int .i64)]], [.c (.v .bool)]⟩),
    (69, ⟨[.c (.v .str)], [.c (.v .bool)]⟩),
    (70, ⟨[.agg [.v .bool, .v (.sl (.int .i64))]], [.agg [.v .bool, .v (.sl (.int .i64))]]⟩),
    (71, ⟨[.agg [.v .bool, .v (.sl (.int .i64))]], [.c (.v .bool)]⟩),
    (72, ⟨[.agg [.v .bool, .v (.sl (.int .i64))], .agg [.v .bool, .v (.sl (.int .i64))]], [.c (.v .bool)]⟩),
    (73, ⟨[.c (.v (.sl (.int .i64)))], [.c (.v (.int .i64))]⟩),
    (74, ⟨[.c (.v (.sl (.int .i64)))], [.c (.v .str)]⟩),
    (85, ⟨[.c (.v (.int .i64))], [.c (.v .str)]⟩),
    (86, ⟨[.c (.v (.sl (.pair (.int .i64) (.pair (.int .i64) (.pair (.int .i64) .unit)))))], [.c (.v .bool)]⟩),
    (87, ⟨[.c (.v (.sl (.pair (.int .i64) (.pair .bool (.pair .bool (.pair (.sl (.int .i64)) (.pair (.int .i64) (.pair (.int .i64) (.pair (.int .i64) (.pair (.int .i64) (.pair .str .unit)))))))))))], [.c (.v .bool)]⟩),
    (89, ⟨[.agg [.v (.int .i64), .v (.int .i64), .v (.int .i64)]], [.c (.v .bool)]⟩),
    (90, ⟨[.c (.v (.sl (.int .i64))), .c (.v (.int .i64))], [.c (.v (.int .i64))]⟩),
    (91, ⟨[.agg [.v .bool, .v (.sl (.int .i64)), .v (.int .i64)]], [.c (.v .bool)]⟩),
    (92, ⟨[.agg [.v .bool, .v (.sl (.int .i64))]], [.c (.v .bool)]⟩),
    (93, ⟨[.c (.v (.sl (.int .i64)))], [.c (.v (.sl (.int .i64)))]⟩),
    (95, ⟨[.c (.v (.int .i64))], [.c (.v .bool)]⟩),
    (96, ⟨[.c (.v (.sl (.int .i64))), .c (.v (.sl (.int .i64)))], [.c (.v .bool)]⟩),
    (97, ⟨[.c (.v (.sl (.int .i64)))], [.c (.v .str)]⟩),
    (113, ⟨[.c (.v (.int .i64)), .c (.v (.int .i64))], [.c (.v .str)]⟩),
    (16062, ⟨[.c (.v (.sl (.pair (.int .i64) (.pair .bool (.pair .bool (.pair (.sl (.int .i64)) (.pair (.int .i64) (.pair (.int .i64) (.pair (.int .i64) (.pair (.int .i64) (.pair .str .unit))))))))))), .c (.v (.sl (.pair (.int .i64) (.pair (.int .i64) (.pair (.int .i64) .unit))))), .clo 15 []], [.c (.v .bool)]⟩),
    (90088, ⟨[.c (.v (.sl (.pair (.int .i64) (.pair (.int .i64) (.pair (.int .i64) .unit))))), .clo 89 []], [.c (.v .bool)]⟩),
    (90111, ⟨[.c (.v (.sl (.pair (.int .i64) (.pair (.int .i64) (.pair (.int .i64) .unit))))), .clo 89 []], [.c (.v (.int .i64))]⟩),
    (96094, ⟨[.c (.v (.sl (.int .i64))), .clo 95 []], [.c (.v .bool)]⟩),
    (96112, ⟨[.c (.v (.sl (.int .i64))), .clo 95 []], [.c (.v (.int .i64))]⟩)]
  cut := [(11, [(17, [(1, .box [.v (.int .i64), .v .bool, .v .bool, .v (.sl (.int .i64)), .v (.int .i64), .v (.int .i64), .v (.int .i64), .v (.int .i64), .v .str]), (3, .box [.v (.int .i64), .v .bool, .v .bool, .v (.sl (.int .i64)), .v (.int .i64), .v (.int .i64), .v (.int .i64), .v (.int .i64), .v .str]), (4, .c (.v .bool)), (43, .c (.v (.int .i64))), (44, .c (.v (.int .i64)))]), (21, [(3, .box [.v (.int .i64), .v .bool, .v .bool, .v (.sl (.int .i64)), .v (.int .i64), .v (.int .i64), .v (.int .i64), .v (.int .i64), .v .str]), (4, .c (.v .bool))])]),
    (26, [(5, [(0, .c (.v (.sl (.pair (.int .i64) (.pair .bool (.pair .bool (.pair (.sl (.int .i64)) (.pair (.int .i64) (.pair (.int .i64) (.pair (.int .i64) (.pair (.int .i64) (.pair .str .unit)))))))))))), (1, .c (.v (.int .i64))), (5, .c (.v (.int .i64)))])]),
    (28, [(3, [(0, .c (.v (.sl (.pair (.int .i64) (.pair (.int .i64) (.pair (.int .i64) .unit)))))), (3, .c (.o (.pair (.int .i64) (.pair (.int .i64) (.pair (.int .i64) .unit))) 45 true)), (4, .c (.v (.int .i64)))])]),
    (29, [(3, [(0, .c (.v (.sl (.pair (.int .i64) (.pair .bool (.pair .bool (.pair (.sl (.int .i64)) (.pair (.int .i64) (.pair (.int .i64) (.pair (.int .i64) (.pair (.int .i64) (.pair .str .unit)))))))))))), (3, .c (.o (.pair (.int .i64) (.pair .bool (.pair .bool (.pair (.sl (.int .i64)) (.pair (.int .i64) (.pair (.int .i64) (.pair (.int .i64) (.pair (.int .i64) (.pair .str .unit))))))))) 38 true)), (4, .c (.v (.int .i64)))])]),
    (31, [(4, [(0, .c (.v (.sl (.pair (.int .i64) (.pair (.int .i64) (.pair (.int .i64) .unit)))))), (1, .c (.v (.sl (.pair (.int .i64) (.pair (.int .i64) (.pair (.int .i64) .unit)))))), (5, .c (.v (.int .i64)))])]),
    (32, [(4, [(0, .c (.v (.sl (.pair (.int .i64) (.pair .bool (.pair .bool (.pair (.sl (.int .i64)) (.pair (.int .i64) (.pair (.int .i64) (.pair (.int .i64) (.pair (.int .i64) (.pair .str .unit)))))))))))), (1, .c (.v (.sl (.pair (.int .i64) (.pair .bool (.pair .bool (.pair (.sl (.int .i64)) (.pair (.int .i64) (.pair (.int .i64) (.pair (.int .i64) (.pair (.int .i64) (.pair .str .unit)))))))))))), (5, .c (.v (.int .i64)))])]),
    (60, [(4, [(0, .c (.v (.sl (.pair (.int .i64) (.pair (.int .i64) (.pair (.int .i64) .unit)))))), (1, .c (.v (.sl (.pair (.int .i64) (.pair .bool (.pair .bool (.pair (.sl (.int .i64)) (.pair (.int .i64) (.pair (.int .i64) (.pair (.int .i64) (.pair (.int .i64) (.pair .str .unit)))))))))))), (5, .c (.v (.int .i64)))])]),
    (69, [(2, [(0, .c (.v .str)), (3, .c (.v (.int .i64)))])]),
    (86, [(2, [(0, .c (.v (.sl (.pair (.int .i64) (.pair (.int .i64) (.pair (.int .i64) .unit)))))), (3, .c (.v (.int .i64)))])]),
    (87, [(2, [(0, .c (.v (.sl (.pair (.int .i64) (.pair .bool (.pair .bool (.pair (.sl (.int .i64)) (.pair (.int .i64) (.pair (.int .i64) (.pair (.int .i64) (.pair (.int .i64) (.pair .str .unit)))))))))))), (3, .c (.v (.int .i64)))])]),
    (92, [(4, [(1, .box [.v .bool, .v (.sl (.int .i64))]), (3, .c (.v (.int .i64)))])]),
    (93, [(3, [(0, .c (.v (.sl (.int .i64)))), (3, .c (.o (.int .i64) 3 true)), (4, .c (.v (.int .i64)))])]),
    (96, [(4, [(0, .c (.v (.sl (.int .i64)))), (1, .c (.v (.sl (.int .i64)))), (5, .c (.v (.int .i64)))])]),
    (97, [(5, [(0, .c (.v (.sl (.int .i64)))), (3, .c (.v .str)), (4, .c (.v (.int .i64)))])]),
    (113, [(2, [(1, .c (.v (.int .i64))), (5, .c (.v .str))])]),
    (16062, [(4, [(1, .c (.v (.sl (.pair (.int .i64) (.pair (.int .i64) (.pair (.int .i64) .unit)))))), (2, .clo 15 []), (15, .c (.v (.sl (.pair (.int .i64) (.pair .bool (.pair .bool (.pair (.sl (.int .i64)) (.pair (.int .i64) (.pair (.int .i64) (.pair (.int .i64) (.pair (.int .i64) (.pair .str .unit)))))))))))), (16, .c (.v (.int .i64))), (17, .c (.v (.int .i64)))])]),
    (90111, [(2, [(0, .c (.v (.sl (.pair (.int .i64) (.pair (.int .i64) (.pair (.int .i64) .unit)))))), (1, .clo 89 []), (7, .c (.v (.int .i64))), (8, .c (.v (.int .i64)))])]),
    (96112, [(2, [(0, .c (.v (.sl (.int .i64)))), (1, .clo 95 []), (7, .c (.v (.int .i64))), (8, .c (.v (.int .i64)))])])]
  eqs := [(36, [.int .i64, .int .i64])]
theorem tabs_ok : tabs.ok Tryd.prog = true := by kernel_rfl
noncomputable def extR : (f : Nat) → Option ((specOf tabs.spec f).In → Option (specOf tabs.spec f).Out) := fun f => match f with
  | 74 => some textR
  | _ => none
/-- the variable that holds strconv's powers of ten, and its cells -/
def powG : Nat := 4
def powCells : Array Value := (Lib.pow10Tab.map fun z => Value.int .u64 z).toArray
def objsR : Nat → Option (Array Value) := fun g => if g = powG then some powCells else none
noncomputable def cx : Go.Rf.Cx := tabs.cx Tryd.prog extR (fun _ => none) objsR
theorem good : Go.Rf.Good cx := Go.Rf.Tabs.good tabs_ok
end Go.Proofs.YthpgglegdhjihaaDoor.R
end

section
/-! Rf: the functions, and what each answers. -/
set_option autoImplicit false
set_option linter.unusedVariables false
namespace Go.Proofs.YthpgglegdhjihaaDoor.R
open Go.Rf
/-! loop.example/jetton/laws.FnExactValueOk -/
noncomputable def F3 (k : Nat) (a0_0 : Int) (a0_1 : Bool) (a0_2 : Bool) (a0_3 : List Int) (a0_4 : Int) (a0_5 : Int) (a0_6 : Int) (a0_7 : Int) (a0_8 : ByteArray) : Option ((Bool × Unit) × ((Unit × Unit × Unit × Unit × Unit × Unit × Unit × Unit × Unit × Unit) × Unit)) := callF cx k 3 ((a0_0, a0_1, a0_2, a0_3, a0_4, a0_5, a0_6, a0_7, a0_8, ()), ())
/-! loop.example/jetton/laws.FnExactValueFits -/
noncomputable def F4 (k : Nat) (a0_0 : Int) (a0_1 : Bool) (a0_2 : Bool) (a0_3 : List Int) (a0_4 : Int) (a0_5 : Int) (a0_6 : Int) (a0_7 : Int) (a0_8 : ByteArray) (a1_0 : Int) (a1_1 : Int) (a1_2 : Int) : Option ((Bool × Unit) × ((Unit × Unit × Unit × Unit × Unit × Unit × Unit × Unit × Unit × Unit) × (Unit × Unit × Unit × Unit) × Unit)) := callF cx k 4 ((a0_0, a0_1, a0_2, a0_3, a0_4, a0_5, a0_6, a0_7, a0_8, ()), (a1_0, a1_1, a1_2, ()), ())
/-! loop.example/jetton/laws.FnExactRowOk -/
noncomputable def F7 (k : Nat) (a0 : List (Int × Int × Int × Unit)) (a1 : List (Int × Bool × Bool × (List Int) × Int × Int × Int × Int × ByteArray × Unit)) : Option ((Bool × Unit) × (Unit × Unit × Unit)) := callF cx k 7 (a0, a1, ())
/-! loop.example/jetton/laws.szValue -/
noncomputable def F8 (k : Nat) (a0_0 : Int) (a0_1 : Bool) (a0_2 : Bool) (a0_3 : List Int) (a0_4 : Int) (a0_5 : Int) (a0_6 : Int) (a0_7 : Int) (a0_8 : ByteArray) (a1 : Int) : Option ((Int × Unit) × ((Unit × Unit × Unit × Unit × Unit × Unit × Unit × Unit × Unit × Unit) × Unit × Unit)) := callF cx k 8 ((a0_0, a0_1, a0_2, a0_3, a0_4, a0_5, a0_6, a0_7, a0_8, ()), a1, ())
/-! loop.example/jetton/spec.ValueOk -/
noncomputable def F9 (k : Nat) (a0_0 : Int) (a0_1 : Bool) (a0_2 : Bool) (a0_3 : List Int) (a0_4 : Int) (a0_5 : Int) (a0_6 : Int) (a0_7 : Int) (a0_8 : ByteArray) : Option ((Bool × Unit) × ((Unit × Unit × Unit × Unit × Unit × Unit × Unit × Unit × Unit × Unit) × Unit)) := callF cx k 9 ((a0_0, a0_1, a0_2, a0_3, a0_4, a0_5, a0_6, a0_7, a0_8, ()), ())
/-! loop.example/jetton/laws.toValue -/
noncomputable def F10 (k : Nat) (a0_0 : Int) (a0_1 : Bool) (a0_2 : Bool) (a0_3 : List Int) (a0_4 : Int) (a0_5 : Int) (a0_6 : Int) (a0_7 : Int) (a0_8 : ByteArray) : Option (((Int × Bool × Bool × (List Int) × Int × Int × Int × Int × ByteArray × Unit) × Unit) × ((Unit × Unit × Unit × Unit × Unit × Unit × Unit × Unit × Unit × Unit) × Unit)) := callF cx k 10 ((a0_0, a0_1, a0_2, a0_3, a0_4, a0_5, a0_6, a0_7, a0_8, ()), ())
/-! loop.example/jetton/impl.ValueOk -/
noncomputable def F11 (k : Nat) (a0_0 : Int) (a0_1 : Bool) (a0_2 : Bool) (a0_3 : List Int) (a0_4 : Int) (a0_5 : Int) (a0_6 : Int) (a0_7 : Int) (a0_8 : ByteArray) : Option ((Bool × Unit) × ((Unit × Unit × Unit × Unit × Unit × Unit × Unit × Unit × Unit × Unit) × Unit)) := callF cx k 11 ((a0_0, a0_1, a0_2, a0_3, a0_4, a0_5, a0_6, a0_7, a0_8, ()), ())
noncomputable def F11c21 (k : Nat) (x3_0 : Int) (x3_1 : Bool) (x3_2 : Bool) (x3_3 : List Int) (x3_4 : Int) (x3_5 : Int) (x3_6 : Int) (x3_7 : Int) (x3_8 : ByteArray) (x4 : Bool) : Option ((Bool × Unit) × ((Unit × Unit × Unit × Unit × Unit × Unit × Unit × Unit × Unit × Unit) × Unit)) := cutF cx 11 21 Tryd.f11 k ((x3_0, x3_1, x3_2, x3_3, x3_4, x3_5, x3_6, x3_7, x3_8, ()), x4, ())
noncomputable def F11c17 (k : Nat) (x1_0 : Int) (x1_1 : Bool) (x1_2 : Bool) (x1_3 : List Int) (x1_4 : Int) (x1_5 : Int) (x1_6 : Int) (x1_7 : Int) (x1_8 : ByteArray) (x3_0 : Int) (x3_1 : Bool) (x3_2 : Bool) (x3_3 : List Int) (x3_4 : Int) (x3_5 : Int) (x3_6 : Int) (x3_7 : Int) (x3_8 : ByteArray) (x4 : Bool) (x43 : Int) (x44 : Int) : Option ((Bool × Unit) × ((Unit × Unit × Unit × Unit × Unit × Unit × Unit × Unit × Unit × Unit) × Unit)) := cutF cx 11 17 Tryd.f11 k ((x1_0, x1_1, x1_2, x1_3, x1_4, x1_5, x1_6, x1_7, x1_8, ()), (x3_0, x3_1, x3_2, x3_3, x3_4, x3_5, x3_6, x3_7, x3_8, ()), x4, x43, x44, ())
/-! loop.example/jetton/laws.eqValue -/
noncomputable def F12 (k : Nat) (a0_0 : Int) (a0_1 : Bool) (a0_2 : Bool) (a0_3 : List Int) (a0_4 : Int) (a0_5 : Int) (a0_6 : Int) (a0_7 : Int) (a0_8 : ByteArray) (a1_0 : Int) (a1_1 : Bool) (a1_2 : Bool) (a1_3 : List Int) (a1_4 : Int) (a1_5 : Int) (a1_6 : Int) (a1_7 : Int) (a1_8 : ByteArray) : Option ((Bool × Unit) × ((Unit × Unit × Unit × Unit × Unit × Unit × Unit × Unit × Unit × Unit) × (Unit × Unit × Unit × Unit × Unit × Unit × Unit × Unit × Unit × Unit) × Unit)) := callF cx k 12 ((a0_0, a0_1, a0_2, a0_3, a0_4, a0_5, a0_6, a0_7, a0_8, ()), (a1_0, a1_1, a1_2, a1_3, a1_4, a1_5, a1_6, a1_7, a1_8, ()), ())
/-! loop.example/jetton/spec.ValueFits -/
noncomputable def F13 (k : Nat) (a0_0 : Int) (a0_1 : Bool) (a0_2 : Bool) (a0_3 : List Int) (a0_4 : Int) (a0_5 : Int) (a0_6 : Int) (a0_7 : Int) (a0_8 : ByteArray) (a1_0 : Int) (a1_1 : Int) (a1_2 : Int) : Option ((Bool × Unit) × ((Unit × Unit × Unit × Unit × Unit × Unit × Unit × Unit × Unit × Unit) × (Unit × Unit × Unit × Unit) × Unit)) := callF cx k 13 ((a0_0, a0_1, a0_2, a0_3, a0_4, a0_5, a0_6, a0_7, a0_8, ()), (a1_0, a1_1, a1_2, ()), ())
/-! loop.example/jetton/laws.toType -/
noncomputable def F14 (k : Nat) (a0_0 : Int) (a0_1 : Int) (a0_2 : Int) : Option (((Int × Int × Int × Unit) × Unit) × ((Unit × Unit × Unit × Unit) × Unit)) := callF cx k 14 ((a0_0, a0_1, a0_2, ()), ())
/-! loop.example/jetton/impl.ValueFits -/
noncomputable def F15 (k : Nat) (a0_0 : Int) (a0_1 : Bool) (a0_2 : Bool) (a0_3 : List Int) (a0_4 : Int) (a0_5 : Int) (a0_6 : Int) (a0_7 : Int) (a0_8 : ByteArray) (a1_0 : Int) (a1_1 : Int) (a1_2 : Int) : Option ((Bool × Unit) × ((Unit × Unit × Unit × Unit × Unit × Unit × Unit × Unit × Unit × Unit) × (Unit × Unit × Unit × Unit) × Unit)) := callF cx k 15 ((a0_0, a0_1, a0_2, a0_3, a0_4, a0_5, a0_6, a0_7, a0_8, ()), (a1_0, a1_1, a1_2, ()), ())
/-! loop.example/jetton/laws.eqType -/
noncomputable def F18 (k : Nat) (a0_0 : Int) (a0_1 : Int) (a0_2 : Int) (a1_0 : Int) (a1_1 : Int) (a1_2 : Int) : Option ((Bool × Unit) × ((Unit × Unit × Unit × Unit) × (Unit × Unit × Unit × Unit) × Unit)) := callF cx k 18 ((a0_0, a0_1, a0_2, ()), (a1_0, a1_1, a1_2, ()), ())
/-! loop.example/jetton/impl.TypeOk -/
noncomputable def F22 (k : Nat) (a0_0 : Int) (a0_1 : Int) (a0_2 : Int) : Option ((Bool × Unit) × ((Unit × Unit × Unit × Unit) × Unit)) := callF cx k 22 ((a0_0, a0_1, a0_2, ()), ())
/-! loop.example/jetton/laws.szTypeS -/
noncomputable def F25 (k : Nat) (a0 : List (Int × Int × Int × Unit)) (a1 : Int) : Option ((Int × Unit) × (Unit × Unit × Unit)) := callF cx k 25 (a0, a1, ())
/-! loop.example/jetton/laws.szValueS -/
noncomputable def F26 (k : Nat) (a0 : List (Int × Bool × Bool × (List Int) × Int × Int × Int × Int × ByteArray × Unit)) (a1 : Int) : Option ((Int × Unit) × (Unit × Unit × Unit)) := callF cx k 26 (a0, a1, ())
noncomputable def F26c5 (k : Nat) (x0 : List (Int × Bool × Bool × (List Int) × Int × Int × Int × Int × ByteArray × Unit)) (x1 : Int) (x5 : Int) : Option ((Int × Unit) × (Unit × Unit × Unit)) := cutF cx 26 5 Tryd.f26 k (x0, x1, x5, ())
/-! loop.example/jetton/spec.RowOk -/
noncomputable def F27 (k : Nat) (a0 : List (Int × Int × Int × Unit)) (a1 : List (Int × Bool × Bool × (List Int) × Int × Int × Int × Int × ByteArray × Unit)) : Option ((Bool × Unit) × (Unit × Unit × Unit)) := callF cx k 27 (a0, a1, ())
/-! loop.example/jetton/laws.toTypeS -/
noncomputable def F28 (k : Nat) (a0 : List (Int × Int × Int × Unit)) : Option (((List (Int × Int × Int × Unit)) × Unit) × (Unit × Unit)) := callF cx k 28 (a0, ())
noncomputable def F28c3 (k : Nat) (x0 : List (Int × Int × Int × Unit)) (x3 : List (Int × Int × Int × Unit)) (x4 : Int) : Option (((List (Int × Int × Int × Unit)) × Unit) × (Unit × Unit)) := cutF cx 28 3 Tryd.f28 k (x0, x3, x4, ())
/-! loop.example/jetton/laws.toValueS -/
noncomputable def F29 (k : Nat) (a0 : List (Int × Bool × Bool × (List Int) × Int × Int × Int × Int × ByteArray × Unit)) : Option (((List (Int × Bool × Bool × (List Int) × Int × Int × Int × Int × ByteArray × Unit)) × Unit) × (Unit × Unit)) := callF cx k 29 (a0, ())
noncomputable def F29c3 (k : Nat) (x0 : List (Int × Bool × Bool × (List Int) × Int × Int × Int × Int × ByteArray × Unit)) (x3 : List (Int × Bool × Bool × (List Int) × Int × Int × Int × Int × ByteArray × Unit)) (x4 : Int) : Option (((List (Int × Bool × Bool × (List Int) × Int × Int × Int × Int × ByteArray × Unit)) × Unit) × (Unit × Unit)) := cutF cx 29 3 Tryd.f29 k (x0, x3, x4, ())
/-! loop.example/jetton/impl.RowOk -/
noncomputable def F30 (k : Nat) (a0 : List (Int × Int × Int × Unit)) (a1 : List (Int × Bool × Bool × (List Int) × Int × Int × Int × Int × ByteArray × Unit)) : Option ((Bool × Unit) × (Unit × Unit × Unit)) := callF cx k 30 (a0, a1, ())
/-! loop.example/jetton/laws.eqTypeS -/
noncomputable def F31 (k : Nat) (a0 : List (Int × Int × Int × Unit)) (a1 : List (Int × Int × Int × Unit)) : Option ((Bool × Unit) × (Unit × Unit × Unit)) := callF cx k 31 (a0, a1, ())
noncomputable def F31c4 (k : Nat) (x0 : List (Int × Int × Int × Unit)) (x1 : List (Int × Int × Int × Unit)) (x5 : Int) : Option ((Bool × Unit) × (Unit × Unit × Unit)) := cutF cx 31 4 Tryd.f31 k (x0, x1, x5, ())
/-! loop.example/jetton/laws.eqValueS -/
noncomputable def F32 (k : Nat) (a0 : List (Int × Bool × Bool × (List Int) × Int × Int × Int × Int × ByteArray × Unit)) (a1 : List (Int × Bool × Bool × (List Int) × Int × Int × Int × Int × ByteArray × Unit)) : Option ((Bool × Unit) × (Unit × Unit × Unit)) := callF cx k 32 (a0, a1, ())
noncomputable def F32c4 (k : Nat) (x0 : List (Int × Bool × Bool × (List Int) × Int × Int × Int × Int × ByteArray × Unit)) (x1 : List (Int × Bool × Bool × (List Int) × Int × Int × Int × Int × ByteArray × Unit)) (x5 : Int) : Option ((Bool × Unit) × (Unit × Unit × Unit)) := cutF cx 32 4 Tryd.f32 k (x0, x1, x5, ())
/-! loop.example/jetton/laws.szDec -/
noncomputable def F33 (k : Nat) (a0_0 : Bool) (a0_1 : List Int) (a0_2 : Int) (a1 : Int) : Option ((Int × Unit) × ((Unit × Unit × Unit × Unit) × Unit × Unit)) := callF cx k 33 ((a0_0, a0_1, a0_2, ()), a1, ())
/-! loop.example/jetton/spec.l4Ok -/
noncomputable def F34 (k : Nat) (a0_0 : Int) (a0_1 : Bool) (a0_2 : Bool) (a0_3 : List Int) (a0_4 : Int) (a0_5 : Int) (a0_6 : Int) (a0_7 : Int) (a0_8 : ByteArray) : Option ((Bool × Unit) × ((Unit × Unit × Unit × Unit × Unit × Unit × Unit × Unit × Unit × Unit) × Unit)) := callF cx k 34 ((a0_0, a0_1, a0_2, a0_3, a0_4, a0_5, a0_6, a0_7, a0_8, ()), ())
/-! loop.example/jetton/laws.toDec -/
noncomputable def F35 (k : Nat) (a0_0 : Bool) (a0_1 : List Int) (a0_2 : Int) : Option (((Bool × (List Int) × Int × Unit) × Unit) × ((Unit × Unit × Unit × Unit) × Unit)) := callF cx k 35 ((a0_0, a0_1, a0_2, ()), ())
/-! loop.example/jetton/laws.toSpan -/
noncomputable def F36 (k : Nat) (a0_0 : Int) (a0_1 : Int) : Option (((Int × Int × Unit) × Unit) × ((Unit × Unit × Unit) × Unit)) := callF cx k 36 ((a0_0, a0_1, ()), ())
/-! loop.example/jetton/impl.DecOk -/
noncomputable def F37 (k : Nat) (a0_0 : Bool) (a0_1 : List Int) (a0_2 : Int) : Option ((Bool × Unit) × ((Unit × Unit × Unit × Unit) × Unit)) := callF cx k 37 ((a0_0, a0_1, a0_2, ()), ())
/-! loop.example/jetton/impl.isDay -/
noncomputable def F38 (k : Nat) (a0 : Int) : Option ((Bool × Unit) × (Unit × Unit)) := callF cx k 38 (a0, ())
/-! loop.example/jetton/impl.SpanOk -/
noncomputable def F39 (k : Nat) (a0_0 : Int) (a0_1 : Int) : Option ((Bool × Unit) × ((Unit × Unit × Unit) × Unit)) := callF cx k 39 ((a0_0, a0_1, ()), ())
/-! loop.example/jetton/impl.in -/
noncomputable def F40 (k : Nat) (a0 : Int) (a1 : Int) (a2 : Int) : Option ((Bool × Unit) × (Unit × Unit × Unit × Unit)) := callF cx k 40 (a0, a1, a2, ())
/-! (loop.example/jetton/impl.Dec).zero -/
noncomputable def F41 (k : Nat) (a0_0 : Bool) (a0_1 : List Int) (a0_2 : Int) : Option ((Bool × Unit) × ((Unit × Unit × Unit × Unit) × Unit)) := callF cx k 41 ((a0_0, a0_1, a0_2, ()), ())
/-! loop.example/jetton/laws.eqDec -/
noncomputable def F42 (k : Nat) (a0_0 : Bool) (a0_1 : List Int) (a0_2 : Int) (a1_0 : Bool) (a1_1 : List Int) (a1_2 : Int) : Option ((Bool × Unit) × ((Unit × Unit × Unit × Unit) × (Unit × Unit × Unit × Unit) × Unit)) := callF cx k 42 ((a0_0, a0_1, a0_2, ()), (a1_0, a1_1, a1_2, ()), ())
/-! loop.example/jetton/laws.eqSpan -/
noncomputable def F43 (k : Nat) (a0_0 : Int) (a0_1 : Int) (a1_0 : Int) (a1_1 : Int) : Option ((Bool × Unit) × ((Unit × Unit × Unit) × (Unit × Unit × Unit) × Unit)) := callF cx k 43 ((a0_0, a0_1, ()), (a1_0, a1_1, ()), ())
/-! loop.example/jetton/spec.l4TypeOk -/
noncomputable def F44 (k : Nat) (a0_0 : Int) (a0_1 : Int) (a0_2 : Int) : Option ((Bool × Unit) × ((Unit × Unit × Unit × Unit) × Unit)) := callF cx k 44 ((a0_0, a0_1, a0_2, ()), ())
/-! loop.example/jetton/spec.l4Fits -/
noncomputable def F45 (k : Nat) (a0_0 : Int) (a0_1 : Bool) (a0_2 : Bool) (a0_3 : List Int) (a0_4 : Int) (a0_5 : Int) (a0_6 : Int) (a0_7 : Int) (a0_8 : ByteArray) (a1_0 : Int) (a1_1 : Int) (a1_2 : Int) : Option ((Bool × Unit) × ((Unit × Unit × Unit × Unit × Unit × Unit × Unit × Unit × Unit × Unit) × (Unit × Unit × Unit × Unit) × Unit)) := callF cx k 45 ((a0_0, a0_1, a0_2, a0_3, a0_4, a0_5, a0_6, a0_7, a0_8, ()), (a1_0, a1_1, a1_2, ()), ())
/-! (loop.example/jetton/impl.limbs).digits -/
noncomputable def F46 (k : Nat) (a0 : List Int) : Option ((Int × Unit) × (Unit × Unit)) := callF cx k 46 (a0, ())
/-! loop.example/jetton/spec.l6Ok -/
noncomputable def F60 (k : Nat) (a0 : List (Int × Int × Int × Unit)) (a1 : List (Int × Bool × Bool × (List Int) × Int × Int × Int × Int × ByteArray × Unit)) : Option ((Bool × Unit) × (Unit × Unit × Unit)) := callF cx k 60 (a0, a1, ())
noncomputable def F60c4 (k : Nat) (x0 : List (Int × Int × Int × Unit)) (x1 : List (Int × Bool × Bool × (List Int) × Int × Int × Int × Int × ByteArray × Unit)) (x5 : Int) : Option ((Bool × Unit) × (Unit × Unit × Unit)) := cutF cx 60 4 Tryd.f60 k (x0, x1, x5, ())
/-! loop.example/jetton/impl.typesOk -/
noncomputable def F61 (k : Nat) (a0 : List (Int × Int × Int × Unit)) : Option ((Bool × Unit) × (Unit × Unit)) := callF cx k 61 (a0, ())
/-! loop.example/jetton/laws.szBig -/
noncomputable def F63 (k : Nat) (a0_0 : Bool) (a0_1 : List Int) (a1 : Int) : Option ((Int × Unit) × ((Unit × Unit × Unit) × Unit × Unit)) := callF cx k 63 ((a0_0, a0_1, ()), a1, ())
/-! loop.example/jetton/spec.l1In -/
noncomputable def F64 (k : Nat) (a0 : Int) (a1 : Int) (a2 : Int) : Option ((Bool × Unit) × (Unit × Unit × Unit × Unit)) := callF cx k 64 (a0, a1, a2, ())
/-! loop.example/jetton/spec.l4Bare -/
noncomputable def F65 (k : Nat) (a0_0 : Int) (a0_1 : Bool) (a0_2 : Bool) (a0_3 : List Int) (a0_4 : Int) (a0_5 : Int) (a0_6 : Int) (a0_7 : Int) (a0_8 : ByteArray) : Option ((Bool × Unit) × ((Unit × Unit × Unit × Unit × Unit × Unit × Unit × Unit × Unit × Unit) × Unit)) := callF cx k 65 ((a0_0, a0_1, a0_2, a0_3, a0_4, a0_5, a0_6, a0_7, a0_8, ()), ())
/-! loop.example/jetton/spec.l2Ok -/
noncomputable def F66 (k : Nat) (a0_0 : Bool) (a0_1 : List Int) (a0_2 : Int) : Option ((Bool × Unit) × ((Unit × Unit × Unit × Unit) × Unit)) := callF cx k 66 ((a0_0, a0_1, a0_2, ()), ())
/-! loop.example/jetton/spec.l3Is -/
noncomputable def F67 (k : Nat) (a0 : Int) : Option ((Bool × Unit) × (Unit × Unit)) := callF cx k 67 (a0, ())
/-! loop.example/jetton/spec.l3SpanOk -/
noncomputable def F68 (k : Nat) (a0_0 : Int) (a0_1 : Int) : Option ((Bool × Unit) × ((Unit × Unit × Unit) × Unit)) := callF cx k 68 ((a0_0, a0_1, ()), ())
/-! loop.example/jetton/spec.l4Text -/
noncomputable def F69 (k : Nat) (a0 : ByteArray) : Option ((Bool × Unit) × (Unit × Unit)) := callF cx k 69 (a0, ())
noncomputable def F69c2 (k : Nat) (x0 : ByteArray) (x3 : Int) : Option ((Bool × Unit) × (Unit × Unit)) := cutF cx 69 2 Tryd.f69 k (x0, x3, ())
/-! loop.example/jetton/laws.toBig -/
noncomputable def F70 (k : Nat) (a0_0 : Bool) (a0_1 : List Int) : Option (((Bool × (List Int) × Unit) × Unit) × ((Unit × Unit × Unit) × Unit)) := callF cx k 70 ((a0_0, a0_1, ()), ())
/-! loop.example/jetton/impl.BigOk -/
noncomputable def F71 (k : Nat) (a0_0 : Bool) (a0_1 : List Int) : Option ((Bool × Unit) × ((Unit × Unit × Unit) × Unit)) := callF cx k 71 ((a0_0, a0_1, ()), ())
/-! loop.example/jetton/laws.eqBig -/
noncomputable def F72 (k : Nat) (a0_0 : Bool) (a0_1 : List Int) (a1_0 : Bool) (a1_1 : List Int) : Option ((Bool × Unit) × ((Unit × Unit × Unit) × (Unit × Unit × Unit) × Unit)) := callF cx k 72 ((a0_0, a0_1, ()), (a1_0, a1_1, ()), ())
/-! loop.example/jetton/spec.l1Long -/
noncomputable def F73 (k : Nat) (a0 : List Int) : Option ((Int × Unit) × (Unit × Unit)) := callF cx k 73 (a0, ())
/-! (loop.example/jetton/impl.limbs).text -/
noncomputable def F74 (k : Nat) (a0 : List Int) : Option ((ByteArray × Unit) × (Unit × Unit)) := callF cx k 74 (a0, ())
/-! loop.example/jetton/spec.l1Dec -/
noncomputable def F85 (k : Nat) (a0 : Int) : Option ((ByteArray × Unit) × (Unit × Unit)) := callF cx k 85 (a0, ())
/-! loop.example/jetton/spec.l6TypesOk -/
noncomputable def F86 (k : Nat) (a0 : List (Int × Int × Int × Unit)) : Option ((Bool × Unit) × (Unit × Unit)) := callF cx k 86 (a0, ())
noncomputable def F86c2 (k : Nat) (x0 : List (Int × Int × Int × Unit)) (x3 : Int) : Option ((Bool × Unit) × (Unit × Unit)) := cutF cx 86 2 Tryd.f86 k (x0, x3, ())
/-! loop.example/jetton/spec.l5RowOk -/
noncomputable def F87 (k : Nat) (a0 : List (Int × Bool × Bool × (List Int) × Int × Int × Int × Int × ByteArray × Unit)) : Option ((Bool × Unit) × (Unit × Unit)) := callF cx k 87 (a0, ())
noncomputable def F87c2 (k : Nat) (x0 : List (Int × Bool × Bool × (List Int) × Int × Int × Int × Int × ByteArray × Unit)) (x3 : Int) : Option ((Bool × Unit) × (Unit × Unit)) := cutF cx 87 2 Tryd.f87 k (x0, x3, ())
/-! loop.example/jetton/impl.typesOk$1 -/
noncomputable def F89 (k : Nat) (a0_0 : Int) (a0_1 : Int) (a0_2 : Int) : Option ((Bool × Unit) × ((Unit × Unit × Unit × Unit) × Unit)) := callF cx k 89 ((a0_0, a0_1, a0_2, ()), ())
/-! loop.example/jetton/laws.szIntS -/
noncomputable def F90 (k : Nat) (a0 : List Int) (a1 : Int) : Option ((Int × Unit) × (Unit × Unit × Unit)) := callF cx k 90 (a0, a1, ())
/-! loop.example/jetton/spec.l4Zero -/
noncomputable def F91 (k : Nat) (a0_0 : Bool) (a0_1 : List Int) (a0_2 : Int) : Option ((Bool × Unit) × ((Unit × Unit × Unit × Unit) × Unit)) := callF cx k 91 ((a0_0, a0_1, a0_2, ()), ())
/-! loop.example/jetton/spec.l1Ok -/
noncomputable def F92 (k : Nat) (a0_0 : Bool) (a0_1 : List Int) : Option ((Bool × Unit) × ((Unit × Unit × Unit) × Unit)) := callF cx k 92 ((a0_0, a0_1, ()), ())
noncomputable def F92c4 (k : Nat) (x1_0 : Bool) (x1_1 : List Int) (x3 : Int) : Option ((Bool × Unit) × ((Unit × Unit × Unit) × Unit)) := cutF cx 92 4 Tryd.f92 k ((x1_0, x1_1, ()), x3, ())
/-! loop.example/jetton/laws.toIntS -/
noncomputable def F93 (k : Nat) (a0 : List Int) : Option (((List Int) × Unit) × (Unit × Unit)) := callF cx k 93 (a0, ())
noncomputable def F93c3 (k : Nat) (x0 : List Int) (x3 : List Int) (x4 : Int) : Option (((List Int) × Unit) × (Unit × Unit)) := cutF cx 93 3 Tryd.f93 k (x0, x3, x4, ())
/-! loop.example/jetton/impl.BigOk$1 -/
noncomputable def F95 (k : Nat) (a0 : Int) : Option ((Bool × Unit) × (Unit × Unit)) := callF cx k 95 (a0, ())
/-! loop.example/jetton/laws.eqIntS -/
noncomputable def F96 (k : Nat) (a0 : List Int) (a1 : List Int) : Option ((Bool × Unit) × (Unit × Unit × Unit)) := callF cx k 96 (a0, a1, ())
noncomputable def F96c4 (k : Nat) (x0 : List Int) (x1 : List Int) (x5 : Int) : Option ((Bool × Unit) × (Unit × Unit × Unit)) := cutF cx 96 4 Tryd.f96 k (x0, x1, x5, ())
/-! loop.example/jetton/spec.l1Figures -/
noncomputable def F97 (k : Nat) (a0 : List Int) : Option ((ByteArray × Unit) × (Unit × Unit)) := callF cx k 97 (a0, ())
noncomputable def F97c5 (k : Nat) (x0 : List Int) (x3 : ByteArray) (x4 : Int) : Option ((ByteArray × Unit) × (Unit × Unit)) := cutF cx 97 5 Tryd.f97 k (x0, x3, x4, ())
/-! loop.example/jetton/spec.l1Wide -/
noncomputable def F113 (k : Nat) (a0 : Int) (a1 : Int) : Option ((ByteArray × Unit) × (Unit × Unit × Unit)) := callF cx k 113 (a0, a1, ())
noncomputable def F113c2 (k : Nat) (x1 : Int) (x5 : ByteArray) : Option ((ByteArray × Unit) × (Unit × Unit × Unit)) := cutF cx 113 2 Tryd.f113 k (x1, x5, ())
/-! slices.EqualFunc[[]loop.example/jetton/impl.Value,[]loop.example/jetton/impl.Type,loop.example/jetton/impl.Value,loop.example/jetton/impl.Type] -/
noncomputable def F16062 (k : Nat) (a0 : List (Int × Bool × Bool × (List Int) × Int × Int × Int × Int × ByteArray × Unit)) (a1 : List (Int × Int × Int × Unit)) : Option ((Bool × Unit) × (Unit × Unit × Unit × Unit)) := callF cx k 16062 (a0, a1, (()), ())
noncomputable def F16062c4 (k : Nat) (x1 : List (Int × Int × Int × Unit)) (x15 : List (Int × Bool × Bool × (List Int) × Int × Int × Int × Int × ByteArray × Unit)) (x16 : Int) (x17 : Int) : Option ((Bool × Unit) × (Unit × Unit × Unit × Unit)) := cutF cx 16062 4 Tryd.f62 k (x1, (()), x15, x16, x17, ())
/-! slices.ContainsFunc[[]loop.example/jetton/impl.Type,loop.example/jetton/impl.Type] -/
noncomputable def F90088 (k : Nat) (a0 : List (Int × Int × Int × Unit)) : Option ((Bool × Unit) × (Unit × Unit × Unit)) := callF cx k 90088 (a0, (()), ())
/-! slices.IndexFunc[[]loop.example/jetton/impl.Type,loop.example/jetton/impl.Type] -/
noncomputable def F90111 (k : Nat) (a0 : List (Int × Int × Int × Unit)) : Option ((Int × Unit) × (Unit × Unit × Unit)) := callF cx k 90111 (a0, (()), ())
noncomputable def F90111c2 (k : Nat) (x0 : List (Int × Int × Int × Unit)) (x7 : Int) (x8 : Int) : Option ((Int × Unit) × (Unit × Unit × Unit)) := cutF cx 90111 2 Tryd.f111 k (x0, (()), x7, x8, ())
/-! slices.ContainsFunc[[]int,int] -/
noncomputable def F96094 (k : Nat) (a0 : List Int) : Option ((Bool × Unit) × (Unit × Unit × Unit)) := callF cx k 96094 (a0, (()), ())
/-! slices.IndexFunc[[]int,int] -/
noncomputable def F96112 (k : Nat) (a0 : List Int) : Option ((Int × Unit) × (Unit × Unit × Unit)) := callF cx k 96112 (a0, (()), ())
noncomputable def F96112c2 (k : Nat) (x0 : List Int) (x7 : Int) (x8 : Int) : Option ((Int × Unit) × (Unit × Unit × Unit)) := cutF cx 96112 2 Tryd.f112 k (x0, (()), x7, x8, ())
theorem F3_eq (k : Nat) (a0_0 : Int) (a0_1 : Bool) (a0_2 : Bool) (a0_3 : List Int) (a0_4 : Int) (a0_5 : Int) (a0_6 : Int) (a0_7 : Int) (a0_8 : ByteArray) : F3 (k + 2) a0_0 a0_1 a0_2 a0_3 a0_4 a0_5 a0_6 a0_7 a0_8 =
    (F8 k a0_0 a0_1 a0_2 a0_3 a0_4 a0_5 a0_6 a0_7 a0_8 (1048576 : Int)).bind fun r1 => if (decide (r1.1.1 < (0 : Int))) = true then some ((true, ()), (((), (), (), (), (), (), (), (), (), ()), ())) else (F10 k a0_0 a0_1 a0_2 a0_3 a0_4 a0_5 a0_6 a0_7 a0_8).bind fun r2 => (F9 k r2.1.1.1 r2.1.1.2.1 r2.1.1.2.2.1 r2.1.1.2.2.2.1 r2.1.1.2.2.2.2.1 r2.1.1.2.2.2.2.2.1 r2.1.1.2.2.2.2.2.2.1 r2.1.1.2.2.2.2.2.2.2.1 r2.1.1.2.2.2.2.2.2.2.2.1).bind fun r3 => (F10 k a0_0 a0_1 a0_2 a0_3 a0_4 a0_5 a0_6 a0_7 a0_8).bind fun r4 => (F11 k r4.1.1.1 r4.1.1.2.1 r4.1.1.2.2.1 r4.1.1.2.2.2.1 r4.1.1.2.2.2.2.1 r4.1.1.2.2.2.2.2.1 r4.1.1.2.2.2.2.2.2.1 r4.1.1.2.2.2.2.2.2.2.1 r4.1.1.2.2.2.2.2.2.2.2.1).bind fun r5 => if (!(r5.1.1 == r3.1.1)) = true then some ((false, ()), (((), (), (), (), (), (), (), (), (), ()), ())) else (F10 k a0_0 a0_1 a0_2 a0_3 a0_4 a0_5 a0_6 a0_7 a0_8).bind fun r6 => (F12 k r4.1.1.1 r4.1.1.2.1 r4.1.1.2.2.1 r4.1.1.2.2.2.1 r4.1.1.2.2.2.2.1 r4.1.1.2.2.2.2.2.1 r4.1.1.2.2.2.2.2.2.1 r4.1.1.2.2.2.2.2.2.2.1 r4.1.1.2.2.2.2.2.2.2.2.1 r6.1.1.1 r6.1.1.2.1 r6.1.1.2.2.1 r6.1.1.2.2.2.1 r6.1.1.2.2.2.2.1 r6.1.1.2.2.2.2.2.1 r6.1.1.2.2.2.2.2.2.1 r6.1.1.2.2.2.2.2.2.2.1 r6.1.1.2.2.2.2.2.2.2.2.1).bind fun r7 => if (!r7.1.1) = true then some ((false, ()), (((), (), (), (), (), (), (), (), (), ()), ())) else some ((true, ()), (((), (), (), (), (), (), (), (), (), ()), ())) := by kernel_rfl
theorem F4_eq (k : Nat) (a0_0 : Int) (a0_1 : Bool) (a0_2 : Bool) (a0_3 : List Int) (a0_4 : Int) (a0_5 : Int) (a0_6 : Int) (a0_7 : Int) (a0_8 : ByteArray) (a1_0 : Int) (a1_1 : Int) (a1_2 : Int) : F4 (k + 2) a0_0 a0_1 a0_2 a0_3 a0_4 a0_5 a0_6 a0_7 a0_8 a1_0 a1_1 a1_2 =
    (F8 k a0_0 a0_1 a0_2 a0_3 a0_4 a0_5 a0_6 a0_7 a0_8 (1048576 : Int)).bind fun r1 => if (decide (r1.1.1 < (0 : Int))) = true then some ((true, ()), (((), (), (), (), (), (), (), (), (), ()), ((), (), (), ()), ())) else (F10 k a0_0 a0_1 a0_2 a0_3 a0_4 a0_5 a0_6 a0_7 a0_8).bind fun r2 => (F14 k a1_0 a1_1 a1_2).bind fun r3 => (F13 k r2.1.1.1 r2.1.1.2.1 r2.1.1.2.2.1 r2.1.1.2.2.2.1 r2.1.1.2.2.2.2.1 r2.1.1.2.2.2.2.2.1 r2.1.1.2.2.2.2.2.2.1 r2.1.1.2.2.2.2.2.2.2.1 r2.1.1.2.2.2.2.2.2.2.2.1 r3.1.1.1 r3.1.1.2.1 r3.1.1.2.2.1).bind fun r4 => (F10 k a0_0 a0_1 a0_2 a0_3 a0_4 a0_5 a0_6 a0_7 a0_8).bind fun r5 => (F14 k a1_0 a1_1 a1_2).bind fun r6 => (F15 k r5.1.1.1 r5.1.1.2.1 r5.1.1.2.2.1 r5.1.1.2.2.2.1 r5.1.1.2.2.2.2.1 r5.1.1.2.2.2.2.2.1 r5.1.1.2.2.2.2.2.2.1 r5.1.1.2.2.2.2.2.2.2.1 r5.1.1.2.2.2.2.2.2.2.2.1 r6.1.1.1 r6.1.1.2.1 r6.1.1.2.2.1).bind fun r7 => if (!(r7.1.1 == r4.1.1)) = true then some ((false, ()), (((), (), (), (), (), (), (), (), (), ()), ((), (), (), ()), ())) else (F10 k a0_0 a0_1 a0_2 a0_3 a0_4 a0_5 a0_6 a0_7 a0_8).bind fun r8 => (F12 k r5.1.1.1 r5.1.1.2.1 r5.1.1.2.2.1 r5.1.1.2.2.2.1 r5.1.1.2.2.2.2.1 r5.1.1.2.2.2.2.2.1 r5.1.1.2.2.2.2.2.2.1 r5.1.1.2.2.2.2.2.2.2.1 r5.1.1.2.2.2.2.2.2.2.2.1 r8.1.1.1 r8.1.1.2.1 r8.1.1.2.2.1 r8.1.1.2.2.2.1 r8.1.1.2.2.2.2.1 r8.1.1.2.2.2.2.2.1 r8.1.1.2.2.2.2.2.2.1 r8.1.1.2.2.2.2.2.2.2.1 r8.1.1.2.2.2.2.2.2.2.2.1).bind fun r9 => if (!r9.1.1) = true then some ((false, ()), (((), (), (), (), (), (), (), (), (), ()), ((), (), (), ()), ())) else some ((true, ()), (((), (), (), (), (), (), (), (), (), ()), ((), (), (), ()), ())) := by kernel_rfl
theorem F7_eq (k : Nat) (a0 : List (Int × Int × Int × Unit)) (a1 : List (Int × Bool × Bool × (List Int) × Int × Int × Int × Int × ByteArray × Unit)) : F7 (k + 2) a0 a1 =
    (F25 k a0 (1048576 : Int)).bind fun r1 => if (decide (r1.1.1 < (0 : Int))) = true then some ((true, ()), ((), (), ())) else (F26 k a1 r1.1.1).bind fun r2 => if (decide (r2.1.1 < (0 : Int))) = true then some ((true, ()), ((), (), ())) else (F28 k a0).bind fun r3 => (F29 k a1).bind fun r4 => (F27 k r3.1.1 r4.1.1).bind fun r5 => (F28 k a0).bind fun r6 => (F29 k a1).bind fun r7 => (F30 k r6.1.1 r7.1.1).bind fun r8 => if (!(r8.1.1 == r5.1.1)) = true then some ((false, ()), ((), (), ())) else (F28 k a0).bind fun r9 => (F31 k r6.1.1 r9.1.1).bind fun r10 => if (!r10.1.1) = true then some ((false, ()), ((), (), ())) else (F29 k a1).bind fun r11 => (F32 k r7.1.1 r11.1.1).bind fun r12 => if (!r12.1.1) = true then some ((false, ()), ((), (), ())) else some ((true, ()), ((), (), ())) := by kernel_rfl
theorem F8_eq (k : Nat) (a0_0 : Int) (a0_1 : Bool) (a0_2 : Bool) (a0_3 : List Int) (a0_4 : Int) (a0_5 : Int) (a0_6 : Int) (a0_7 : Int) (a0_8 : ByteArray) (a1 : Int) : F8 (k + 2) a0_0 a0_1 a0_2 a0_3 a0_4 a0_5 a0_6 a0_7 a0_8 a1 =
    (F33 k a0_2 a0_3 a0_4 a1).bind fun r1 => if (decide (r1.1.1 < (0 : Int))) = true then some (((-1 : Int), ()), (((), (), (), (), (), (), (), (), (), ()), (), ())) else if (decide ((IntKind.i64.wrap (r1.1.1 - (a0_8.size : Int))) < (0 : Int))) = true then some (((-1 : Int), ()), (((), (), (), (), (), (), (), (), (), ()), (), ())) else some (((IntKind.i64.wrap (r1.1.1 - (a0_8.size : Int))), ()), (((), (), (), (), (), (), (), (), (), ()), (), ())) := by kernel_rfl
theorem F9_eq (k : Nat) (a0_0 : Int) (a0_1 : Bool) (a0_2 : Bool) (a0_3 : List Int) (a0_4 : Int) (a0_5 : Int) (a0_6 : Int) (a0_7 : Int) (a0_8 : ByteArray) : F9 (k + 2) a0_0 a0_1 a0_2 a0_3 a0_4 a0_5 a0_6 a0_7 a0_8 =
    (F34 k a0_0 a0_1 a0_2 a0_3 a0_4 a0_5 a0_6 a0_7 a0_8).bind fun r1 => some ((r1.1.1, ()), (((), (), (), (), (), (), (), (), (), ()), ())) := by kernel_rfl
theorem F10_eq (k : Nat) (a0_0 : Int) (a0_1 : Bool) (a0_2 : Bool) (a0_3 : List Int) (a0_4 : Int) (a0_5 : Int) (a0_6 : Int) (a0_7 : Int) (a0_8 : ByteArray) : F10 (k + 2) a0_0 a0_1 a0_2 a0_3 a0_4 a0_5 a0_6 a0_7 a0_8 =
    (F35 k a0_2 a0_3 a0_4).bind fun r1 => (F36 k a0_6 a0_7).bind fun r2 => some (((a0_0, a0_1, r1.1.1.1, r1.1.1.2.1, r1.1.1.2.2.1, a0_5, r2.1.1.1, r2.1.1.2.1, a0_8, ()), ()), (((), (), (), (), (), (), (), (), (), ()), ())) := by kernel_rfl
theorem F11_eq (k : Nat) (a0_0 : Int) (a0_1 : Bool) (a0_2 : Bool) (a0_3 : List Int) (a0_4 : Int) (a0_5 : Int) (a0_6 : Int) (a0_7 : Int) (a0_8 : ByteArray) : F11 (k + 2) a0_0 a0_1 a0_2 a0_3 a0_4 a0_5 a0_6 a0_7 a0_8 =
    if (a0_0 == (0 : Int)) = true then F11c21 k a0_0 a0_1 a0_2 a0_3 a0_4 a0_5 a0_6 a0_7 a0_8 true else if (a0_0 == (1 : Int)) = true then F11c21 k a0_0 false a0_2 a0_3 a0_4 a0_5 a0_6 a0_7 a0_8 true else if (a0_0 == (2 : Int)) = true then (F37 k a0_2 a0_3 a0_4).bind fun r1 => F11c21 k a0_0 a0_1 false ([] : List Int) (0 : Int) a0_5 a0_6 a0_7 a0_8 r1.1.1 else if (a0_0 == (3 : Int)) = true then (F38 k a0_5).bind fun r2 => F11c21 k a0_0 a0_1 a0_2 a0_3 a0_4 (0 : Int) a0_6 a0_7 a0_8 r2.1.1 else if (a0_0 == (4 : Int)) = true then (F39 k a0_6 a0_7).bind fun r3 => F11c21 k a0_0 a0_1 a0_2 a0_3 a0_4 a0_5 (0 : Int) (0 : Int) a0_8 r3.1.1 else if (a0_0 == (5 : Int)) = true then F11c17 k a0_0 a0_1 a0_2 a0_3 a0_4 a0_5 a0_6 a0_7 a0_8 a0_0 a0_1 a0_2 a0_3 a0_4 a0_5 a0_6 a0_7 (⟨#[]⟩ : ByteArray) (decide ((a0_8.size : Int) ≤ (12 : Int))) (a0_8.size : Int) (0 : Int) else F11c21 k a0_0 a0_1 a0_2 a0_3 a0_4 a0_5 a0_6 a0_7 a0_8 false := by kernel_rfl
theorem F11c21_eq (k : Nat) (x3_0 : Int) (x3_1 : Bool) (x3_2 : Bool) (x3_3 : List Int) (x3_4 : Int) (x3_5 : Int) (x3_6 : Int) (x3_7 : Int) (x3_8 : ByteArray) (x4 : Bool) : F11c21 (k + 1) x3_0 x3_1 x3_2 x3_3 x3_4 x3_5 x3_6 x3_7 x3_8 x4 =
    if x4 = true then if (!x3_1) = true then (F41 k x3_2 x3_3 x3_4).bind fun r4 => if r4.1.1 = true then if (x3_5 == (0 : Int)) = true then if (x3_6 == (0 : Int) && (x3_7 == (0 : Int) && true)) = true then some (((x3_8.toList == (⟨#[]⟩ : ByteArray).toList), ()), (((), (), (), (), (), (), (), (), (), ()), ())) else some ((false, ()), (((), (), (), (), (), (), (), (), (), ()), ())) else some ((false, ()), (((), (), (), (), (), (), (), (), (), ()), ())) else some ((false, ()), (((), (), (), (), (), (), (), (), (), ()), ())) else some ((false, ()), (((), (), (), (), (), (), (), (), (), ()), ())) else some ((false, ()), (((), (), (), (), (), (), (), (), (), ()), ())) := by kernel_rfl
theorem F11c17_eq (k : Nat) (x1_0 : Int) (x1_1 : Bool) (x1_2 : Bool) (x1_3 : List Int) (x1_4 : Int) (x1_5 : Int) (x1_6 : Int) (x1_7 : Int) (x1_8 : ByteArray) (x3_0 : Int) (x3_1 : Bool) (x3_2 : Bool) (x3_3 : List Int) (x3_4 : Int) (x3_5 : Int) (x3_6 : Int) (x3_7 : Int) (x3_8 : ByteArray) (x4 : Bool) (x43 : Int) (x44 : Int) : F11c17 (k + 1) x1_0 x1_1 x1_2 x1_3 x1_4 x1_5 x1_6 x1_7 x1_8 x3_0 x3_1 x3_2 x3_3 x3_4 x3_5 x3_6 x3_7 x3_8 x4 x43 x44 =
    if (decide (x44 < x43)) = true then if x4 = true then if (decide (0 ≤ x44)) = true then (x1_8[x44.toNat]?).bind fun u5 => (F40 k (IntKind.i64.wrap (u5.toNat : Int)) (32 : Int) (126 : Int)).bind fun r6 => F11c17 k x1_0 x1_1 x1_2 x1_3 x1_4 x1_5 x1_6 x1_7 x1_8 x3_0 x3_1 x3_2 x3_3 x3_4 x3_5 x3_6 x3_7 x3_8 r6.1.1 x43 (IntKind.i64.wrap (x44 + (1 : Int))) else none else F11c17 k x1_0 x1_1 x1_2 x1_3 x1_4 x1_5 x1_6 x1_7 x1_8 x3_0 x3_1 x3_2 x3_3 x3_4 x3_5 x3_6 x3_7 x3_8 false x43 (IntKind.i64.wrap (x44 + (1 : Int))) else F11c21 k x3_0 x3_1 x3_2 x3_3 x3_4 x3_5 x3_6 x3_7 x3_8 x4 := by kernel_rfl
theorem F12_eq (k : Nat) (a0_0 : Int) (a0_1 : Bool) (a0_2 : Bool) (a0_3 : List Int) (a0_4 : Int) (a0_5 : Int) (a0_6 : Int) (a0_7 : Int) (a0_8 : ByteArray) (a1_0 : Int) (a1_1 : Bool) (a1_2 : Bool) (a1_3 : List Int) (a1_4 : Int) (a1_5 : Int) (a1_6 : Int) (a1_7 : Int) (a1_8 : ByteArray) : F12 (k + 2) a0_0 a0_1 a0_2 a0_3 a0_4 a0_5 a0_6 a0_7 a0_8 a1_0 a1_1 a1_2 a1_3 a1_4 a1_5 a1_6 a1_7 a1_8 =
    if (a0_0 != a1_0) = true then some ((false, ()), (((), (), (), (), (), (), (), (), (), ()), ((), (), (), (), (), (), (), (), (), ()), ())) else if (!(a0_1 == a1_1)) = true then some ((false, ()), (((), (), (), (), (), (), (), (), (), ()), ((), (), (), (), (), (), (), (), (), ()), ())) else (F42 k a0_2 a0_3 a0_4 a1_2 a1_3 a1_4).bind fun r1 => if (!r1.1.1) = true then some ((false, ()), (((), (), (), (), (), (), (), (), (), ()), ((), (), (), (), (), (), (), (), (), ()), ())) else if (a0_5 != a1_5) = true then some ((false, ()), (((), (), (), (), (), (), (), (), (), ()), ((), (), (), (), (), (), (), (), (), ()), ())) else (F43 k a0_6 a0_7 a1_6 a1_7).bind fun r2 => if (!r2.1.1) = true then some ((false, ()), (((), (), (), (), (), (), (), (), (), ()), ((), (), (), (), (), (), (), (), (), ()), ())) else if (!(a0_8.toList == a1_8.toList)) = true then some ((false, ()), (((), (), (), (), (), (), (), (), (), ()), ((), (), (), (), (), (), (), (), (), ()), ())) else some ((true, ()), (((), (), (), (), (), (), (), (), (), ()), ((), (), (), (), (), (), (), (), (), ()), ())) := by kernel_rfl
theorem F13_eq (k : Nat) (a0_0 : Int) (a0_1 : Bool) (a0_2 : Bool) (a0_3 : List Int) (a0_4 : Int) (a0_5 : Int) (a0_6 : Int) (a0_7 : Int) (a0_8 : ByteArray) (a1_0 : Int) (a1_1 : Int) (a1_2 : Int) : F13 (k + 2) a0_0 a0_1 a0_2 a0_3 a0_4 a0_5 a0_6 a0_7 a0_8 a1_0 a1_1 a1_2 =
    (F34 k a0_0 a0_1 a0_2 a0_3 a0_4 a0_5 a0_6 a0_7 a0_8).bind fun r1 => if r1.1.1 = true then (F44 k a1_0 a1_1 a1_2).bind fun r2 => if r2.1.1 = true then (F45 k a0_0 a0_1 a0_2 a0_3 a0_4 a0_5 a0_6 a0_7 a0_8 a1_0 a1_1 a1_2).bind fun r3 => some ((r3.1.1, ()), (((), (), (), (), (), (), (), (), (), ()), ((), (), (), ()), ())) else some ((false, ()), (((), (), (), (), (), (), (), (), (), ()), ((), (), (), ()), ())) else some ((false, ()), (((), (), (), (), (), (), (), (), (), ()), ((), (), (), ()), ())) := by kernel_rfl
theorem F14_eq (k : Nat) (a0_0 : Int) (a0_1 : Int) (a0_2 : Int) : F14 (k + 2) a0_0 a0_1 a0_2 =
    some (((a0_0, a0_1, a0_2, ()), ()), (((), (), (), ()), ())) := by kernel_rfl
theorem F15_eq (k : Nat) (a0_0 : Int) (a0_1 : Bool) (a0_2 : Bool) (a0_3 : List Int) (a0_4 : Int) (a0_5 : Int) (a0_6 : Int) (a0_7 : Int) (a0_8 : ByteArray) (a1_0 : Int) (a1_1 : Int) (a1_2 : Int) : F15 (k + 2) a0_0 a0_1 a0_2 a0_3 a0_4 a0_5 a0_6 a0_7 a0_8 a1_0 a1_1 a1_2 =
    (F11 k a0_0 a0_1 a0_2 a0_3 a0_4 a0_5 a0_6 a0_7 a0_8).bind fun r1 => if (!r1.1.1) = true then some ((false, ()), (((), (), (), (), (), (), (), (), (), ()), ((), (), (), ()), ())) else (F22 k a1_0 a1_1 a1_2).bind fun r2 => if (!r2.1.1) = true then some ((false, ()), (((), (), (), (), (), (), (), (), (), ()), ((), (), (), ()), ())) else if (a0_0 != (0 : Int)) = true then if (a0_0 != a1_0) = true then some ((false, ()), (((), (), (), (), (), (), (), (), (), ()), ((), (), (), ()), ())) else if (a0_0 != (2 : Int)) = true then some ((true, ()), (((), (), (), (), (), (), (), (), (), ()), ((), (), (), ()), ())) else if (a0_4 == a1_2) = true then (F46 k a0_3).bind fun r3 => some ((decide (r3.1.1 ≤ a1_1), ()), (((), (), (), (), (), (), (), (), (), ()), ((), (), (), ()), ())) else some ((false, ()), (((), (), (), (), (), (), (), (), (), ()), ((), (), (), ()), ())) else if (a0_0 != (2 : Int)) = true then some ((true, ()), (((), (), (), (), (), (), (), (), (), ()), ((), (), (), ()), ())) else if (a0_4 == a1_2) = true then (F46 k a0_3).bind fun r4 => some ((decide (r4.1.1 ≤ a1_1), ()), (((), (), (), (), (), (), (), (), (), ()), ((), (), (), ()), ())) else some ((false, ()), (((), (), (), (), (), (), (), (), (), ()), ((), (), (), ()), ())) := by kernel_rfl
theorem F18_eq (k : Nat) (a0_0 : Int) (a0_1 : Int) (a0_2 : Int) (a1_0 : Int) (a1_1 : Int) (a1_2 : Int) : F18 (k + 2) a0_0 a0_1 a0_2 a1_0 a1_1 a1_2 =
    if (a0_0 != a1_0) = true then some ((false, ()), (((), (), (), ()), ((), (), (), ()), ())) else if (a0_1 != a1_1) = true then some ((false, ()), (((), (), (), ()), ((), (), (), ()), ())) else if (a0_2 != a1_2) = true then some ((false, ()), (((), (), (), ()), ((), (), (), ()), ())) else some ((true, ()), (((), (), (), ()), ((), (), (), ()), ())) := by kernel_rfl
theorem F22_eq (k : Nat) (a0_0 : Int) (a0_1 : Int) (a0_2 : Int) : F22 (k + 2) a0_0 a0_1 a0_2 =
    if (a0_0 == (2 : Int)) = true then (F40 k a0_1 (1 : Int) (30 : Int)).bind fun r1 => if r1.1.1 = true then (F40 k a0_2 (0 : Int) (if a0_1 < (12 : Int) then a0_1 else (12 : Int))).bind fun r2 => some ((r2.1.1, ()), (((), (), (), ()), ())) else some ((false, ()), (((), (), (), ()), ())) else (F40 k a0_0 (1 : Int) (5 : Int)).bind fun r3 => if r3.1.1 = true then if (a0_1 == (0 : Int)) = true then some (((a0_2 == (0 : Int)), ()), (((), (), (), ()), ())) else some ((false, ()), (((), (), (), ()), ())) else some ((false, ()), (((), (), (), ()), ())) := by kernel_rfl
theorem F25_eq (k : Nat) (a0 : List (Int × Int × Int × Unit)) (a1 : Int) : F25 (k + 2) a0 a1 =
    if (decide ((IntKind.i64.wrap (a1 - (a0.length : Int))) < (0 : Int))) = true then some (((-1 : Int), ()), ((), (), ())) else some (((IntKind.i64.wrap (a1 - (a0.length : Int))), ()), ((), (), ())) := by kernel_rfl
theorem F26_eq (k : Nat) (a0 : List (Int × Bool × Bool × (List Int) × Int × Int × Int × Int × ByteArray × Unit)) (a1 : Int) : F26 (k + 2) a0 a1 =
    if (decide ((IntKind.i64.wrap (a1 - (a0.length : Int))) < (0 : Int))) = true then some (((-1 : Int), ()), ((), (), ())) else F26c5 k a0 (IntKind.i64.wrap (a1 - (a0.length : Int))) (0 : Int) := by kernel_rfl
theorem F26c5_eq (k : Nat) (x0 : List (Int × Bool × Bool × (List Int) × Int × Int × Int × Int × ByteArray × Unit)) (x1 : Int) (x5 : Int) : F26c5 (k + 1) x0 x1 x5 =
    if (decide (x5 < (x0.length : Int))) = true then if (decide (0 ≤ x5)) = true then (x0[x5.toNat]?).bind fun y1 => (F8 k y1.1 y1.2.1 y1.2.2.1 y1.2.2.2.1 y1.2.2.2.2.1 y1.2.2.2.2.2.1 y1.2.2.2.2.2.2.1 y1.2.2.2.2.2.2.2.1 y1.2.2.2.2.2.2.2.2.1 x1).bind fun r2 => if (decide (r2.1.1 < (0 : Int))) = true then some (((-1 : Int), ()), ((), (), ())) else F26c5 k x0 r2.1.1 (IntKind.i64.wrap (x5 + (1 : Int))) else none else some ((x1, ()), ((), (), ())) := by kernel_rfl
theorem F27_eq (k : Nat) (a0 : List (Int × Int × Int × Unit)) (a1 : List (Int × Bool × Bool × (List Int) × Int × Int × Int × Int × ByteArray × Unit)) : F27 (k + 2) a0 a1 =
    (F60 k a0 a1).bind fun r1 => some ((r1.1.1, ()), ((), (), ())) := by kernel_rfl
theorem F28_eq (k : Nat) (a0 : List (Int × Int × Int × Unit)) : F28 (k + 2) a0 =
    if (decide (0 ≤ (a0.length : Int)) && decide ((a0.length : Int) ≤ (a0.length : Int)) && decide ((a0.length : Int) ≤ (5864062014805 : Int))) = true then F28c3 k a0 (List.replicate (a0.length : Int).toNat ((0 : Int), ((0 : Int), ((0 : Int), ())))) (0 : Int) else none := by kernel_rfl
theorem F28c3_eq (k : Nat) (x0 : List (Int × Int × Int × Unit)) (x3 : List (Int × Int × Int × Unit)) (x4 : Int) : F28c3 (k + 1) x0 x3 x4 =
    if (decide (x4 < (x0.length : Int))) = true then if (decide (0 ≤ x4)) = true then (x0[x4.toNat]?).bind fun y1 => (F14 k y1.1 y1.2.1 y1.2.2.1).bind fun r2 => if (decide (0 ≤ x4) && decide (x4 < (x3.length : Int))) = true then (x3[x4.toNat]?).bind fun y3 => F28c3 k x0 (x3.set x4.toNat (r2.1.1.1, (r2.1.1.2.1, (r2.1.1.2.2.1, ())))) (IntKind.i64.wrap (x4 + (1 : Int))) else none else none else some ((x3, ()), ((), ())) := by kernel_rfl
theorem F29_eq (k : Nat) (a0 : List (Int × Bool × Bool × (List Int) × Int × Int × Int × Int × ByteArray × Unit)) : F29 (k + 2) a0 =
    if (decide (0 ≤ (a0.length : Int)) && decide ((a0.length : Int) ≤ (a0.length : Int)) && decide ((a0.length : Int) ≤ (1466015503701 : Int))) = true then F29c3 k a0 (List.replicate (a0.length : Int).toNat ((0 : Int), (false, (false, (([] : List Int), ((0 : Int), ((0 : Int), ((0 : Int), ((0 : Int), (ByteArray.empty, ())))))))))) (0 : Int) else none := by kernel_rfl
theorem F29c3_eq (k : Nat) (x0 : List (Int × Bool × Bool × (List Int) × Int × Int × Int × Int × ByteArray × Unit)) (x3 : List (Int × Bool × Bool × (List Int) × Int × Int × Int × Int × ByteArray × Unit)) (x4 : Int) : F29c3 (k + 1) x0 x3 x4 =
    if (decide (x4 < (x0.length : Int))) = true then if (decide (0 ≤ x4)) = true then (x0[x4.toNat]?).bind fun y1 => (F10 k y1.1 y1.2.1 y1.2.2.1 y1.2.2.2.1 y1.2.2.2.2.1 y1.2.2.2.2.2.1 y1.2.2.2.2.2.2.1 y1.2.2.2.2.2.2.2.1 y1.2.2.2.2.2.2.2.2.1).bind fun r2 => if (decide (0 ≤ x4) && decide (x4 < (x3.length : Int))) = true then (x3[x4.toNat]?).bind fun y3 => F29c3 k x0 (x3.set x4.toNat (r2.1.1.1, (r2.1.1.2.1, (r2.1.1.2.2.1, (r2.1.1.2.2.2.1, (r2.1.1.2.2.2.2.1, (r2.1.1.2.2.2.2.2.1, (r2.1.1.2.2.2.2.2.2.1, (r2.1.1.2.2.2.2.2.2.2.1, (r2.1.1.2.2.2.2.2.2.2.2.1, ())))))))))) (IntKind.i64.wrap (x4 + (1 : Int))) else none else none else some ((x3, ()), ((), ())) := by kernel_rfl
theorem F30_eq (k : Nat) (a0 : List (Int × Int × Int × Unit)) (a1 : List (Int × Bool × Bool × (List Int) × Int × Int × Int × Int × ByteArray × Unit)) : F30 (k + 2) a0 a1 =
    (F61 k a0).bind fun r1 => if r1.1.1 = true then (F16062 k a1 a0).bind fun r2 => some ((r2.1.1, ()), ((), (), ())) else some ((false, ()), ((), (), ())) := by kernel_rfl
theorem F31_eq (k : Nat) (a0 : List (Int × Int × Int × Unit)) (a1 : List (Int × Int × Int × Unit)) : F31 (k + 2) a0 a1 =
    if ((a0.length : Int) != (a1.length : Int)) = true then some ((false, ()), ((), (), ())) else F31c4 k a0 a1 (0 : Int) := by kernel_rfl
theorem F31c4_eq (k : Nat) (x0 : List (Int × Int × Int × Unit)) (x1 : List (Int × Int × Int × Unit)) (x5 : Int) : F31c4 (k + 1) x0 x1 x5 =
    if (decide (x5 < (x0.length : Int))) = true then if (decide (0 ≤ x5)) = true then (x0[x5.toNat]?).bind fun y1 => if (decide (0 ≤ x5)) = true then (x1[x5.toNat]?).bind fun y2 => (F18 k y1.1 y1.2.1 y1.2.2.1 y2.1 y2.2.1 y2.2.2.1).bind fun r3 => if (!r3.1.1) = true then some ((false, ()), ((), (), ())) else F31c4 k x0 x1 (IntKind.i64.wrap (x5 + (1 : Int))) else none else none else some ((true, ()), ((), (), ())) := by kernel_rfl
theorem F32_eq (k : Nat) (a0 : List (Int × Bool × Bool × (List Int) × Int × Int × Int × Int × ByteArray × Unit)) (a1 : List (Int × Bool × Bool × (List Int) × Int × Int × Int × Int × ByteArray × Unit)) : F32 (k + 2) a0 a1 =
    if ((a0.length : Int) != (a1.length : Int)) = true then some ((false, ()), ((), (), ())) else F32c4 k a0 a1 (0 : Int) := by kernel_rfl
theorem F32c4_eq (k : Nat) (x0 : List (Int × Bool × Bool × (List Int) × Int × Int × Int × Int × ByteArray × Unit)) (x1 : List (Int × Bool × Bool × (List Int) × Int × Int × Int × Int × ByteArray × Unit)) (x5 : Int) : F32c4 (k + 1) x0 x1 x5 =
    if (decide (x5 < (x0.length : Int))) = true then if (decide (0 ≤ x5)) = true then (x0[x5.toNat]?).bind fun y1 => if (decide (0 ≤ x5)) = true then (x1[x5.toNat]?).bind fun y2 => (F12 k y1.1 y1.2.1 y1.2.2.1 y1.2.2.2.1 y1.2.2.2.2.1 y1.2.2.2.2.2.1 y1.2.2.2.2.2.2.1 y1.2.2.2.2.2.2.2.1 y1.2.2.2.2.2.2.2.2.1 y2.1 y2.2.1 y2.2.2.1 y2.2.2.2.1 y2.2.2.2.2.1 y2.2.2.2.2.2.1 y2.2.2.2.2.2.2.1 y2.2.2.2.2.2.2.2.1 y2.2.2.2.2.2.2.2.2.1).bind fun r3 => if (!r3.1.1) = true then some ((false, ()), ((), (), ())) else F32c4 k x0 x1 (IntKind.i64.wrap (x5 + (1 : Int))) else none else none else some ((true, ()), ((), (), ())) := by kernel_rfl
theorem F33_eq (k : Nat) (a0_0 : Bool) (a0_1 : List Int) (a0_2 : Int) (a1 : Int) : F33 (k + 2) a0_0 a0_1 a0_2 a1 =
    (F63 k a0_0 a0_1 a1).bind fun r1 => if (decide (r1.1.1 < (0 : Int))) = true then some (((-1 : Int), ()), (((), (), (), ()), (), ())) else some ((r1.1.1, ()), (((), (), (), ()), (), ())) := by kernel_rfl
theorem F34_eq (k : Nat) (a0_0 : Int) (a0_1 : Bool) (a0_2 : Bool) (a0_3 : List Int) (a0_4 : Int) (a0_5 : Int) (a0_6 : Int) (a0_7 : Int) (a0_8 : ByteArray) : F34 (k + 2) a0_0 a0_1 a0_2 a0_3 a0_4 a0_5 a0_6 a0_7 a0_8 =
    (F64 k a0_0 (0 : Int) (5 : Int)).bind fun r1 => if (!r1.1.1) = true then some ((false, ()), (((), (), (), (), (), (), (), (), (), ()), ())) else (F65 k a0_0 a0_1 a0_2 a0_3 a0_4 a0_5 a0_6 a0_7 a0_8).bind fun r2 => if (!r2.1.1) = true then some ((false, ()), (((), (), (), (), (), (), (), (), (), ()), ())) else if (a0_0 == (2 : Int)) = true then (F66 k a0_2 a0_3 a0_4).bind fun r3 => some ((r3.1.1, ()), (((), (), (), (), (), (), (), (), (), ()), ())) else if (a0_0 == (3 : Int)) = true then (F67 k a0_5).bind fun r4 => some ((r4.1.1, ()), (((), (), (), (), (), (), (), (), (), ()), ())) else if (a0_0 == (4 : Int)) = true then (F68 k a0_6 a0_7).bind fun r5 => some ((r5.1.1, ()), (((), (), (), (), (), (), (), (), (), ()), ())) else (F69 k a0_8).bind fun r6 => some ((r6.1.1, ()), (((), (), (), (), (), (), (), (), (), ()), ())) := by kernel_rfl
theorem F35_eq (k : Nat) (a0_0 : Bool) (a0_1 : List Int) (a0_2 : Int) : F35 (k + 2) a0_0 a0_1 a0_2 =
    (F70 k a0_0 a0_1).bind fun r1 => some (((r1.1.1.1, r1.1.1.2.1, a0_2, ()), ()), (((), (), (), ()), ())) := by kernel_rfl
theorem F36_eq (k : Nat) (a0_0 : Int) (a0_1 : Int) : F36 (k + 2) a0_0 a0_1 =
    some (((a0_0, a0_1, ()), ()), (((), (), ()), ())) := by kernel_rfl
theorem F37_eq (k : Nat) (a0_0 : Bool) (a0_1 : List Int) (a0_2 : Int) : F37 (k + 2) a0_0 a0_1 a0_2 =
    (F71 k a0_0 a0_1).bind fun r1 => if r1.1.1 = true then (F46 k a0_1).bind fun r2 => if (decide (r2.1.1 ≤ (30 : Int))) = true then (F40 k a0_2 (0 : Int) (12 : Int)).bind fun r3 => some ((r3.1.1, ()), (((), (), (), ()), ())) else some ((false, ()), (((), (), (), ()), ())) else some ((false, ()), (((), (), (), ()), ())) := by kernel_rfl
theorem F38_eq (k : Nat) (a0 : Int) : F38 (k + 2) a0 =
    (F40 k a0 (1 : Int) (3652059 : Int)).bind fun r1 => some ((r1.1.1, ()), ((), ())) := by kernel_rfl
theorem F39_eq (k : Nat) (a0_0 : Int) (a0_1 : Int) : F39 (k + 2) a0_0 a0_1 =
    (F40 k a0_0 (-120000 : Int) (120000 : Int)).bind fun r1 => if r1.1.1 = true then (F40 k a0_1 (-4000000 : Int) (4000000 : Int)).bind fun r2 => some ((r2.1.1, ()), (((), (), ()), ())) else some ((false, ()), (((), (), ()), ())) := by kernel_rfl
theorem F40_eq (k : Nat) (a0 : Int) (a1 : Int) (a2 : Int) : F40 (k + 2) a0 a1 a2 =
    if (decide (a0 ≥ a1)) = true then some ((decide (a0 ≤ a2), ()), ((), (), (), ())) else some ((false, ()), ((), (), (), ())) := by kernel_rfl
theorem F41_eq (k : Nat) (a0_0 : Bool) (a0_1 : List Int) (a0_2 : Int) : F41 (k + 2) a0_0 a0_1 a0_2 =
    if (!a0_0) = true then if ((a0_1.length : Int) == (0 : Int)) = true then some (((a0_2 == (0 : Int)), ()), (((), (), (), ()), ())) else some ((false, ()), (((), (), (), ()), ())) else some ((false, ()), (((), (), (), ()), ())) := by kernel_rfl
theorem F42_eq (k : Nat) (a0_0 : Bool) (a0_1 : List Int) (a0_2 : Int) (a1_0 : Bool) (a1_1 : List Int) (a1_2 : Int) : F42 (k + 2) a0_0 a0_1 a0_2 a1_0 a1_1 a1_2 =
    (F72 k a0_0 a0_1 a1_0 a1_1).bind fun r1 => if (!r1.1.1) = true then some ((false, ()), (((), (), (), ()), ((), (), (), ()), ())) else if (a0_2 != a1_2) = true then some ((false, ()), (((), (), (), ()), ((), (), (), ()), ())) else some ((true, ()), (((), (), (), ()), ((), (), (), ()), ())) := by kernel_rfl
theorem F43_eq (k : Nat) (a0_0 : Int) (a0_1 : Int) (a1_0 : Int) (a1_1 : Int) : F43 (k + 2) a0_0 a0_1 a1_0 a1_1 =
    if (a0_0 != a1_0) = true then some ((false, ()), (((), (), ()), ((), (), ()), ())) else if (a0_1 != a1_1) = true then some ((false, ()), (((), (), ()), ((), (), ()), ())) else some ((true, ()), (((), (), ()), ((), (), ()), ())) := by kernel_rfl
theorem F44_eq (k : Nat) (a0_0 : Int) (a0_1 : Int) (a0_2 : Int) : F44 (k + 2) a0_0 a0_1 a0_2 =
    if (a0_0 == (2 : Int)) = true then (F64 k a0_1 (1 : Int) (30 : Int)).bind fun r1 => if r1.1.1 = true then (F64 k a0_2 (0 : Int) (12 : Int)).bind fun r2 => if r2.1.1 = true then some ((decide (a0_2 ≤ a0_1), ()), (((), (), (), ()), ())) else some ((false, ()), (((), (), (), ()), ())) else some ((false, ()), (((), (), (), ()), ())) else (F64 k a0_0 (1 : Int) (5 : Int)).bind fun r3 => if r3.1.1 = true then if (a0_1 == (0 : Int)) = true then some (((a0_2 == (0 : Int)), ()), (((), (), (), ()), ())) else some ((false, ()), (((), (), (), ()), ())) else some ((false, ()), (((), (), (), ()), ())) := by kernel_rfl
theorem F45_eq (k : Nat) (a0_0 : Int) (a0_1 : Bool) (a0_2 : Bool) (a0_3 : List Int) (a0_4 : Int) (a0_5 : Int) (a0_6 : Int) (a0_7 : Int) (a0_8 : ByteArray) (a1_0 : Int) (a1_1 : Int) (a1_2 : Int) : F45 (k + 2) a0_0 a0_1 a0_2 a0_3 a0_4 a0_5 a0_6 a0_7 a0_8 a1_0 a1_1 a1_2 =
    if (a0_0 == (0 : Int)) = true then some ((true, ()), (((), (), (), (), (), (), (), (), (), ()), ((), (), (), ()), ())) else if (a0_0 != a1_0) = true then some ((false, ()), (((), (), (), (), (), (), (), (), (), ()), ((), (), (), ()), ())) else if (a0_0 != (2 : Int)) = true then some ((true, ()), (((), (), (), (), (), (), (), (), (), ()), ((), (), (), ()), ())) else if (a0_4 == a1_2) = true then (F73 k a0_3).bind fun r1 => some ((decide (r1.1.1 ≤ a1_1), ()), (((), (), (), (), (), (), (), (), (), ()), ((), (), (), ()), ())) else some ((false, ()), (((), (), (), (), (), (), (), (), (), ()), ((), (), (), ()), ())) := by kernel_rfl
theorem F46_eq (k : Nat) (a0 : List Int) : F46 (k + 2) a0 =
    if ((a0.length : Int) == (0 : Int)) = true then some (((0 : Int), ()), ((), ())) else (F74 k a0).bind fun r1 => some (((r1.1.1.size : Int), ()), ((), ())) := by kernel_rfl
theorem F60_eq (k : Nat) (a0 : List (Int × Int × Int × Unit)) (a1 : List (Int × Bool × Bool × (List Int) × Int × Int × Int × Int × ByteArray × Unit)) : F60 (k + 2) a0 a1 =
    (F86 k a0).bind fun r1 => if (!r1.1.1) = true then some ((false, ()), ((), (), ())) else if ((a1.length : Int) != (a0.length : Int)) = true then some ((false, ()), ((), (), ())) else (F87 k a1).bind fun r2 => if (!r2.1.1) = true then some ((false, ()), ((), (), ())) else F60c4 k a0 a1 (0 : Int) := by kernel_rfl
theorem F60c4_eq (k : Nat) (x0 : List (Int × Int × Int × Unit)) (x1 : List (Int × Bool × Bool × (List Int) × Int × Int × Int × Int × ByteArray × Unit)) (x5 : Int) : F60c4 (k + 1) x0 x1 x5 =
    if (decide (x5 < (x1.length : Int))) = true then if (decide (0 ≤ x5)) = true then (x1[x5.toNat]?).bind fun y3 => if (decide (0 ≤ x5)) = true then (x0[x5.toNat]?).bind fun y4 => (F45 k y3.1 y3.2.1 y3.2.2.1 y3.2.2.2.1 y3.2.2.2.2.1 y3.2.2.2.2.2.1 y3.2.2.2.2.2.2.1 y3.2.2.2.2.2.2.2.1 y3.2.2.2.2.2.2.2.2.1 y4.1 y4.2.1 y4.2.2.1).bind fun r5 => if (!r5.1.1) = true then some ((false, ()), ((), (), ())) else F60c4 k x0 x1 (IntKind.i64.wrap (x5 + (1 : Int))) else none else none else some ((true, ()), ((), (), ())) := by kernel_rfl
theorem F61_eq (k : Nat) (a0 : List (Int × Int × Int × Unit)) : F61 (k + 2) a0 =
    (F40 k (a0.length : Int) (1 : Int) (4 : Int)).bind fun r1 => if r1.1.1 = true then (F90088 k a0).bind fun r2 => some (((!r2.1.1), ()), ((), ())) else some ((false, ()), ((), ())) := by kernel_rfl
theorem F63_eq (k : Nat) (a0_0 : Bool) (a0_1 : List Int) (a1 : Int) : F63 (k + 2) a0_0 a0_1 a1 =
    (F90 k a0_1 a1).bind fun r1 => if (decide (r1.1.1 < (0 : Int))) = true then some (((-1 : Int), ()), (((), (), ()), (), ())) else some ((r1.1.1, ()), (((), (), ()), (), ())) := by kernel_rfl
theorem F64_eq (k : Nat) (a0 : Int) (a1 : Int) (a2 : Int) : F64 (k + 2) a0 a1 a2 =
    if (decide (a0 ≥ a1)) = true then some ((decide (a0 ≤ a2), ()), ((), (), (), ())) else some ((false, ()), ((), (), (), ())) := by kernel_rfl
theorem F65_eq (k : Nat) (a0_0 : Int) (a0_1 : Bool) (a0_2 : Bool) (a0_3 : List Int) (a0_4 : Int) (a0_5 : Int) (a0_6 : Int) (a0_7 : Int) (a0_8 : ByteArray) : F65 (k + 2) a0_0 a0_1 a0_2 a0_3 a0_4 a0_5 a0_6 a0_7 a0_8 =
    if (a0_0 != (1 : Int)) = true then if a0_1 = true then some ((false, ()), (((), (), (), (), (), (), (), (), (), ()), ())) else if (a0_0 != (2 : Int)) = true then (F91 k a0_2 a0_3 a0_4).bind fun r1 => if (!r1.1.1) = true then some ((false, ()), (((), (), (), (), (), (), (), (), (), ()), ())) else if (a0_0 != (4 : Int)) = true then if (a0_6 != (0 : Int)) = true then some ((false, ()), (((), (), (), (), (), (), (), (), (), ()), ())) else if (a0_7 != (0 : Int)) = true then some ((false, ()), (((), (), (), (), (), (), (), (), (), ()), ())) else if (a0_0 == (3 : Int)) = true then if (a0_0 == (5 : Int)) = true then some ((true, ()), (((), (), (), (), (), (), (), (), (), ()), ())) else some (((a0_8.toList == (⟨#[]⟩ : ByteArray).toList), ()), (((), (), (), (), (), (), (), (), (), ()), ())) else if (a0_5 == (0 : Int)) = true then if (a0_0 == (5 : Int)) = true then some ((true, ()), (((), (), (), (), (), (), (), (), (), ()), ())) else some (((a0_8.toList == (⟨#[]⟩ : ByteArray).toList), ()), (((), (), (), (), (), (), (), (), (), ()), ())) else some ((false, ()), (((), (), (), (), (), (), (), (), (), ()), ())) else if (a0_0 == (3 : Int)) = true then if (a0_0 == (5 : Int)) = true then some ((true, ()), (((), (), (), (), (), (), (), (), (), ()), ())) else some (((a0_8.toList == (⟨#[]⟩ : ByteArray).toList), ()), (((), (), (), (), (), (), (), (), (), ()), ())) else if (a0_5 == (0 : Int)) = true then if (a0_0 == (5 : Int)) = true then some ((true, ()), (((), (), (), (), (), (), (), (), (), ()), ())) else some (((a0_8.toList == (⟨#[]⟩ : ByteArray).toList), ()), (((), (), (), (), (), (), (), (), (), ()), ())) else some ((false, ()), (((), (), (), (), (), (), (), (), (), ()), ())) else if (a0_0 != (4 : Int)) = true then if (a0_6 != (0 : Int)) = true then some ((false, ()), (((), (), (), (), (), (), (), (), (), ()), ())) else if (a0_7 != (0 : Int)) = true then some ((false, ()), (((), (), (), (), (), (), (), (), (), ()), ())) else if (a0_0 == (3 : Int)) = true then if (a0_0 == (5 : Int)) = true then some ((true, ()), (((), (), (), (), (), (), (), (), (), ()), ())) else some (((a0_8.toList == (⟨#[]⟩ : ByteArray).toList), ()), (((), (), (), (), (), (), (), (), (), ()), ())) else if (a0_5 == (0 : Int)) = true then if (a0_0 == (5 : Int)) = true then some ((true, ()), (((), (), (), (), (), (), (), (), (), ()), ())) else some (((a0_8.toList == (⟨#[]⟩ : ByteArray).toList), ()), (((), (), (), (), (), (), (), (), (), ()), ())) else some ((false, ()), (((), (), (), (), (), (), (), (), (), ()), ())) else if (a0_0 == (3 : Int)) = true then if (a0_0 == (5 : Int)) = true then some ((true, ()), (((), (), (), (), (), (), (), (), (), ()), ())) else some (((a0_8.toList == (⟨#[]⟩ : ByteArray).toList), ()), (((), (), (), (), (), (), (), (), (), ()), ())) else if (a0_5 == (0 : Int)) = true then if (a0_0 == (5 : Int)) = true then some ((true, ()), (((), (), (), (), (), (), (), (), (), ()), ())) else some (((a0_8.toList == (⟨#[]⟩ : ByteArray).toList), ()), (((), (), (), (), (), (), (), (), (), ()), ())) else some ((false, ()), (((), (), (), (), (), (), (), (), (), ()), ())) else if (a0_0 != (2 : Int)) = true then (F91 k a0_2 a0_3 a0_4).bind fun r2 => if (!r2.1.1) = true then some ((false, ()), (((), (), (), (), (), (), (), (), (), ()), ())) else if (a0_0 != (4 : Int)) = true then if (a0_6 != (0 : Int)) = true then some ((false, ()), (((), (), (), (), (), (), (), (), (), ()), ())) else if (a0_7 != (0 : Int)) = true then some ((false, ()), (((), (), (), (), (), (), (), (), (), ()), ())) else if (a0_0 == (3 : Int)) = true then if (a0_0 == (5 : Int)) = true then some ((true, ()), (((), (), (), (), (), (), (), (), (), ()), ())) else some (((a0_8.toList == (⟨#[]⟩ : ByteArray).toList), ()), (((), (), (), (), (), (), (), (), (), ()), ())) else if (a0_5 == (0 : Int)) = true then if (a0_0 == (5 : Int)) = true then some ((true, ()), (((), (), (), (), (), (), (), (), (), ()), ())) else some (((a0_8.toList == (⟨#[]⟩ : ByteArray).toList), ()), (((), (), (), (), (), (), (), (), (), ()), ())) else some ((false, ()), (((), (), (), (), (), (), (), (), (), ()), ())) else if (a0_0 == (3 : Int)) = true then if (a0_0 == (5 : Int)) = true then some ((true, ()), (((), (), (), (), (), (), (), (), (), ()), ())) else some (((a0_8.toList == (⟨#[]⟩ : ByteArray).toList), ()), (((), (), (), (), (), (), (), (), (), ()), ())) else if (a0_5 == (0 : Int)) = true then if (a0_0 == (5 : Int)) = true then some ((true, ()), (((), (), (), (), (), (), (), (), (), ()), ())) else some (((a0_8.toList == (⟨#[]⟩ : ByteArray).toList), ()), (((), (), (), (), (), (), (), (), (), ()), ())) else some ((false, ()), (((), (), (), (), (), (), (), (), (), ()), ())) else if (a0_0 != (4 : Int)) = true then if (a0_6 != (0 : Int)) = true then some ((false, ()), (((), (), (), (), (), (), (), (), (), ()), ())) else if (a0_7 != (0 : Int)) = true then some ((false, ()), (((), (), (), (), (), (), (), (), (), ()), ())) else if (a0_0 == (3 : Int)) = true then if (a0_0 == (5 : Int)) = true then some ((true, ()), (((), (), (), (), (), (), (), (), (), ()), ())) else some (((a0_8.toList == (⟨#[]⟩ : ByteArray).toList), ()), (((), (), (), (), (), (), (), (), (), ()), ())) else if (a0_5 == (0 : Int)) = true then if (a0_0 == (5 : Int)) = true then some ((true, ()), (((), (), (), (), (), (), (), (), (), ()), ())) else some (((a0_8.toList == (⟨#[]⟩ : ByteArray).toList), ()), (((), (), (), (), (), (), (), (), (), ()), ())) else some ((false, ()), (((), (), (), (), (), (), (), (), (), ()), ())) else if (a0_0 == (3 : Int)) = true then if (a0_0 == (5 : Int)) = true then some ((true, ()), (((), (), (), (), (), (), (), (), (), ()), ())) else some (((a0_8.toList == (⟨#[]⟩ : ByteArray).toList), ()), (((), (), (), (), (), (), (), (), (), ()), ())) else if (a0_5 == (0 : Int)) = true then if (a0_0 == (5 : Int)) = true then some ((true, ()), (((), (), (), (), (), (), (), (), (), ()), ())) else some (((a0_8.toList == (⟨#[]⟩ : ByteArray).toList), ()), (((), (), (), (), (), (), (), (), (), ()), ())) else some ((false, ()), (((), (), (), (), (), (), (), (), (), ()), ())) := by kernel_rfl
theorem F66_eq (k : Nat) (a0_0 : Bool) (a0_1 : List Int) (a0_2 : Int) : F66 (k + 2) a0_0 a0_1 a0_2 =
    (F92 k a0_0 a0_1).bind fun r1 => if r1.1.1 = true then (F73 k a0_1).bind fun r2 => if (decide (r2.1.1 ≤ (30 : Int))) = true then (F64 k a0_2 (0 : Int) (12 : Int)).bind fun r3 => some ((r3.1.1, ()), (((), (), (), ()), ())) else some ((false, ()), (((), (), (), ()), ())) else some ((false, ()), (((), (), (), ()), ())) := by kernel_rfl
theorem F67_eq (k : Nat) (a0 : Int) : F67 (k + 2) a0 =
    (F64 k a0 (1 : Int) (3652059 : Int)).bind fun r1 => some ((r1.1.1, ()), ((), ())) := by kernel_rfl
theorem F68_eq (k : Nat) (a0_0 : Int) (a0_1 : Int) : F68 (k + 2) a0_0 a0_1 =
    (F64 k a0_0 (-120000 : Int) (120000 : Int)).bind fun r1 => if r1.1.1 = true then (F64 k a0_1 (-4000000 : Int) (4000000 : Int)).bind fun r2 => some ((r2.1.1, ()), (((), (), ()), ())) else some ((false, ()), (((), (), ()), ())) := by kernel_rfl
theorem F69_eq (k : Nat) (a0 : ByteArray) : F69 (k + 2) a0 =
    F69c2 k a0 (0 : Int) := by kernel_rfl
theorem F69c2_eq (k : Nat) (x0 : ByteArray) (x3 : Int) : F69c2 (k + 1) x0 x3 =
    if (decide (x3 < (x0.size : Int))) = true then if (decide (0 ≤ x3)) = true then (x0[x3.toNat]?).bind fun u1 => if (decide ((u1.toNat : Int) < (32 : Int))) = true then some ((false, ()), ((), ())) else if (decide (0 ≤ x3)) = true then (x0[x3.toNat]?).bind fun u2 => if (decide ((u2.toNat : Int) > (126 : Int))) = true then some ((false, ()), ((), ())) else F69c2 k x0 (IntKind.i64.wrap (x3 + (1 : Int))) else none else none else some ((decide ((x0.size : Int) ≤ (12 : Int)), ()), ((), ())) := by kernel_rfl
theorem F70_eq (k : Nat) (a0_0 : Bool) (a0_1 : List Int) : F70 (k + 2) a0_0 a0_1 =
    (F93 k a0_1).bind fun r1 => some (((a0_0, r1.1.1, ()), ()), (((), (), ()), ())) := by kernel_rfl
theorem F71_eq (k : Nat) (a0_0 : Bool) (a0_1 : List Int) : F71 (k + 2) a0_0 a0_1 =
    if (decide ((a0_1.length : Int) ≤ (16 : Int))) = true then if ((a0_1.length : Int) == (0 : Int)) = true then if (!a0_0) = true then (F96094 k a0_1).bind fun r1 => some (((!r1.1.1), ()), (((), (), ()), ())) else if (decide ((a0_1.length : Int) > (0 : Int))) = true then if (decide (0 ≤ (IntKind.i64.wrap ((a0_1.length : Int) - (1 : Int))))) = true then (a0_1[(IntKind.i64.wrap ((a0_1.length : Int) - (1 : Int))).toNat]?).bind fun y2 => if (y2 != (0 : Int)) = true then (F96094 k a0_1).bind fun r3 => some (((!r3.1.1), ()), (((), (), ()), ())) else some ((false, ()), (((), (), ()), ())) else none else some ((false, ()), (((), (), ()), ())) else if (decide ((a0_1.length : Int) > (0 : Int))) = true then if (decide (0 ≤ (IntKind.i64.wrap ((a0_1.length : Int) - (1 : Int))))) = true then (a0_1[(IntKind.i64.wrap ((a0_1.length : Int) - (1 : Int))).toNat]?).bind fun y4 => if (y4 != (0 : Int)) = true then (F96094 k a0_1).bind fun r5 => some (((!r5.1.1), ()), (((), (), ()), ())) else some ((false, ()), (((), (), ()), ())) else none else some ((false, ()), (((), (), ()), ())) else some ((false, ()), (((), (), ()), ())) := by kernel_rfl
theorem F72_eq (k : Nat) (a0_0 : Bool) (a0_1 : List Int) (a1_0 : Bool) (a1_1 : List Int) : F72 (k + 2) a0_0 a0_1 a1_0 a1_1 =
    if (!(a0_0 == a1_0)) = true then some ((false, ()), (((), (), ()), ((), (), ()), ())) else (F96 k a0_1 a1_1).bind fun r1 => if (!r1.1.1) = true then some ((false, ()), (((), (), ()), ((), (), ()), ())) else some ((true, ()), (((), (), ()), ((), (), ()), ())) := by kernel_rfl
theorem F73_eq (k : Nat) (a0 : List Int) : F73 (k + 2) a0 =
    if ((a0.length : Int) == (0 : Int)) = true then some (((0 : Int), ()), ((), ())) else (F97 k a0).bind fun r1 => some (((r1.1.1.size : Int), ()), ((), ())) := by kernel_rfl
theorem F74_eq (k : Nat) (a0 : List Int) : F74 (k + 1) a0 = textR (a0, ()) := by kernel_rfl
theorem F85_eq (k : Nat) (a0 : Int) : F85 (k + 2) a0 =
    if (decide (a0 < (-9223372036854775807 : Int))) = true then some (((⟨#[45, 57, 50, 50, 51, 51, 55, 50, 48, 51, 54, 56, 53, 52, 55, 55, 53, 56, 48, 56]⟩ : ByteArray), ()), ((), ())) else if (decide (a0 < (0 : Int))) = true then (F85 k (IntKind.i64.wrap (0 - a0))).bind fun r1 => if (Nat.ble ((⟨#[45]⟩ : ByteArray).size + r1.1.1.size) 9223372036854775807) = true then some ((((⟨#[45]⟩ : ByteArray) ++ r1.1.1), ()), ((), ())) else none else if (decide (a0 < (10 : Int))) = true then some (((bytesOf [(IntKind.u8.wrap (IntKind.i64.wrap ((48 : Int) + a0)))]), ()), ((), ())) else (F85 k (IntKind.i64.wrap (a0.tdiv (10 : Int)))).bind fun r2 => if (Nat.ble (r2.1.1.size + (bytesOf [(IntKind.u8.wrap (IntKind.i64.wrap ((48 : Int) + (a0.tmod (10 : Int)))))]).size) 9223372036854775807) = true then some (((r2.1.1 ++ (bytesOf [(IntKind.u8.wrap (IntKind.i64.wrap ((48 : Int) + (a0.tmod (10 : Int)))))])), ()), ((), ())) else none := by kernel_rfl
theorem F86_eq (k : Nat) (a0 : List (Int × Int × Int × Unit)) : F86 (k + 2) a0 =
    F86c2 k a0 (0 : Int) := by kernel_rfl
theorem F86c2_eq (k : Nat) (x0 : List (Int × Int × Int × Unit)) (x3 : Int) : F86c2 (k + 1) x0 x3 =
    if (decide (x3 < (x0.length : Int))) = true then if (decide (0 ≤ x3)) = true then (x0[x3.toNat]?).bind fun y1 => (F44 k y1.1 y1.2.1 y1.2.2.1).bind fun r2 => if (!r2.1.1) = true then some ((false, ()), ((), ())) else F86c2 k x0 (IntKind.i64.wrap (x3 + (1 : Int))) else none else (F64 k (x0.length : Int) (1 : Int) (4 : Int)).bind fun r3 => some ((r3.1.1, ()), ((), ())) := by kernel_rfl
theorem F87_eq (k : Nat) (a0 : List (Int × Bool × Bool × (List Int) × Int × Int × Int × Int × ByteArray × Unit)) : F87 (k + 2) a0 =
    F87c2 k a0 (0 : Int) := by kernel_rfl
theorem F87c2_eq (k : Nat) (x0 : List (Int × Bool × Bool × (List Int) × Int × Int × Int × Int × ByteArray × Unit)) (x3 : Int) : F87c2 (k + 1) x0 x3 =
    if (decide (x3 < (x0.length : Int))) = true then if (decide (0 ≤ x3)) = true then (x0[x3.toNat]?).bind fun y1 => (F34 k y1.1 y1.2.1 y1.2.2.1 y1.2.2.2.1 y1.2.2.2.2.1 y1.2.2.2.2.2.1 y1.2.2.2.2.2.2.1 y1.2.2.2.2.2.2.2.1 y1.2.2.2.2.2.2.2.2.1).bind fun r2 => if (!r2.1.1) = true then some ((false, ()), ((), ())) else F87c2 k x0 (IntKind.i64.wrap (x3 + (1 : Int))) else none else some ((true, ()), ((), ())) := by kernel_rfl
theorem F89_eq (k : Nat) (a0_0 : Int) (a0_1 : Int) (a0_2 : Int) : F89 (k + 2) a0_0 a0_1 a0_2 =
    (F22 k a0_0 a0_1 a0_2).bind fun r1 => some (((!r1.1.1), ()), (((), (), (), ()), ())) := by kernel_rfl
theorem F90_eq (k : Nat) (a0 : List Int) (a1 : Int) : F90 (k + 2) a0 a1 =
    if (decide ((IntKind.i64.wrap (a1 - (a0.length : Int))) < (0 : Int))) = true then some (((-1 : Int), ()), ((), (), ())) else some (((IntKind.i64.wrap (a1 - (a0.length : Int))), ()), ((), (), ())) := by kernel_rfl
theorem F91_eq (k : Nat) (a0_0 : Bool) (a0_1 : List Int) (a0_2 : Int) : F91 (k + 2) a0_0 a0_1 a0_2 =
    if (!a0_0) = true then if ((a0_1.length : Int) == (0 : Int)) = true then some (((a0_2 == (0 : Int)), ()), (((), (), (), ()), ())) else some ((false, ()), (((), (), (), ()), ())) else some ((false, ()), (((), (), (), ()), ())) := by kernel_rfl
theorem F92_eq (k : Nat) (a0_0 : Bool) (a0_1 : List Int) : F92 (k + 2) a0_0 a0_1 =
    if (decide ((a0_1.length : Int) > (16 : Int))) = true then some ((false, ()), (((), (), ()), ())) else if a0_0 = true then if ((a0_1.length : Int) == (0 : Int)) = true then some ((false, ()), (((), (), ()), ())) else F92c4 k a0_0 a0_1 (0 : Int) else F92c4 k a0_0 a0_1 (0 : Int) := by kernel_rfl
theorem F92c4_eq (k : Nat) (x1_0 : Bool) (x1_1 : List Int) (x3 : Int) : F92c4 (k + 1) x1_0 x1_1 x3 =
    if (decide (x3 < (x1_1.length : Int))) = true then if (decide (0 ≤ x3)) = true then (x1_1[x3.toNat]?).bind fun y1 => (F64 k y1 (0 : Int) (9999 : Int)).bind fun r2 => if (!r2.1.1) = true then some ((false, ()), (((), (), ()), ())) else F92c4 k x1_0 x1_1 (IntKind.i64.wrap (x3 + (1 : Int))) else none else if ((x1_1.length : Int) == (0 : Int)) = true then some ((true, ()), (((), (), ()), ())) else if (decide (0 ≤ (IntKind.i64.wrap ((x1_1.length : Int) - (1 : Int))))) = true then (x1_1[(IntKind.i64.wrap ((x1_1.length : Int) - (1 : Int))).toNat]?).bind fun y3 => some (((y3 != (0 : Int)), ()), (((), (), ()), ())) else none := by kernel_rfl
theorem F93_eq (k : Nat) (a0 : List Int) : F93 (k + 2) a0 =
    if (decide (0 ≤ (a0.length : Int)) && decide ((a0.length : Int) ≤ (a0.length : Int)) && decide ((a0.length : Int) ≤ (17592186044416 : Int))) = true then F93c3 k a0 (List.replicate (a0.length : Int).toNat (0 : Int)) (0 : Int) else none := by kernel_rfl
theorem F93c3_eq (k : Nat) (x0 : List Int) (x3 : List Int) (x4 : Int) : F93c3 (k + 1) x0 x3 x4 =
    if (decide (x4 < (x0.length : Int))) = true then if (decide (0 ≤ x4)) = true then (x0[x4.toNat]?).bind fun y1 => if (decide (0 ≤ x4) && decide (x4 < (x3.length : Int))) = true then (x3[x4.toNat]?).bind fun y2 => F93c3 k x0 (x3.set x4.toNat y1) (IntKind.i64.wrap (x4 + (1 : Int))) else none else none else some ((x3, ()), ((), ())) := by kernel_rfl
theorem F95_eq (k : Nat) (a0 : Int) : F95 (k + 2) a0 =
    (F40 k a0 (0 : Int) (9999 : Int)).bind fun r1 => some (((!r1.1.1), ()), ((), ())) := by kernel_rfl
theorem F96_eq (k : Nat) (a0 : List Int) (a1 : List Int) : F96 (k + 2) a0 a1 =
    if ((a0.length : Int) != (a1.length : Int)) = true then some ((false, ()), ((), (), ())) else F96c4 k a0 a1 (0 : Int) := by kernel_rfl
theorem F96c4_eq (k : Nat) (x0 : List Int) (x1 : List Int) (x5 : Int) : F96c4 (k + 1) x0 x1 x5 =
    if (decide (x5 < (x0.length : Int))) = true then if (decide (0 ≤ x5)) = true then (x0[x5.toNat]?).bind fun y1 => if (decide (0 ≤ x5)) = true then (x1[x5.toNat]?).bind fun y2 => if (y1 != y2) = true then some ((false, ()), ((), (), ())) else F96c4 k x0 x1 (IntKind.i64.wrap (x5 + (1 : Int))) else none else none else some ((true, ()), ((), (), ())) := by kernel_rfl
theorem F97_eq (k : Nat) (a0 : List Int) : F97 (k + 2) a0 =
    if ((a0.length : Int) == (0 : Int)) = true then some (((⟨#[48]⟩ : ByteArray), ()), ((), ())) else if (decide (0 ≤ (IntKind.i64.wrap ((a0.length : Int) - (1 : Int))))) = true then (a0[(IntKind.i64.wrap ((a0.length : Int) - (1 : Int))).toNat]?).bind fun y1 => (F85 k y1).bind fun r2 => F97c5 k a0 r2.1.1 (IntKind.i64.wrap ((a0.length : Int) - (2 : Int))) else none := by kernel_rfl
theorem F97c5_eq (k : Nat) (x0 : List Int) (x3 : ByteArray) (x4 : Int) : F97c5 (k + 1) x0 x3 x4 =
    if (decide (x4 ≥ (0 : Int))) = true then if (decide (0 ≤ x4)) = true then (x0[x4.toNat]?).bind fun y3 => (F113 k y3 (4 : Int)).bind fun r4 => if (Nat.ble (x3.size + r4.1.1.size) 9223372036854775807) = true then F97c5 k x0 (x3 ++ r4.1.1) (IntKind.i64.wrap (x4 - (1 : Int))) else none else none else some ((x3, ()), ((), ())) := by kernel_rfl
theorem F113_eq (k : Nat) (a0 : Int) (a1 : Int) : F113 (k + 2) a0 a1 =
    (F85 k a0).bind fun r1 => F113c2 k a1 r1.1.1 := by kernel_rfl
theorem F113c2_eq (k : Nat) (x1 : Int) (x5 : ByteArray) : F113c2 (k + 1) x1 x5 =
    if (decide ((x5.size : Int) < x1)) = true then if (Nat.ble ((⟨#[48]⟩ : ByteArray).size + x5.size) 9223372036854775807) = true then F113c2 k x1 ((⟨#[48]⟩ : ByteArray) ++ x5) else none else some ((x5, ()), ((), (), ())) := by kernel_rfl
theorem F16062_eq (k : Nat) (a0 : List (Int × Bool × Bool × (List Int) × Int × Int × Int × Int × ByteArray × Unit)) (a1 : List (Int × Int × Int × Unit)) : F16062 (k + 2) a0 a1 =
    if ((a0.length : Int) != (a1.length : Int)) = true then some ((false, ()), ((), (), (), ())) else F16062c4 k a1 a0 (a0.length : Int) (0 : Int) := by kernel_rfl
theorem F16062c4_eq (k : Nat) (x1 : List (Int × Int × Int × Unit)) (x15 : List (Int × Bool × Bool × (List Int) × Int × Int × Int × Int × ByteArray × Unit)) (x16 : Int) (x17 : Int) : F16062c4 (k + 1) x1 x15 x16 x17 =
    if (decide (x17 < x16)) = true then if (decide (0 ≤ x17)) = true then (x15[x17.toNat]?).bind fun y1 => if (decide (0 ≤ x17)) = true then (x1[x17.toNat]?).bind fun y2 => (F15 k y1.1 y1.2.1 y1.2.2.1 y1.2.2.2.1 y1.2.2.2.2.1 y1.2.2.2.2.2.1 y1.2.2.2.2.2.2.1 y1.2.2.2.2.2.2.2.1 y1.2.2.2.2.2.2.2.2.1 y2.1 y2.2.1 y2.2.2.1).bind fun r3 => if (!r3.1.1) = true then some ((false, ()), ((), (), (), ())) else F16062c4 k x1 x15 x16 (IntKind.i64.wrap (x17 + (1 : Int))) else none else none else some ((true, ()), ((), (), (), ())) := by kernel_rfl
theorem F90088_eq (k : Nat) (a0 : List (Int × Int × Int × Unit)) : F90088 (k + 2) a0 =
    (F90111 k a0).bind fun r1 => some ((decide (r1.1.1 ≥ (0 : Int)), ()), ((), (), ())) := by kernel_rfl
theorem F90111_eq (k : Nat) (a0 : List (Int × Int × Int × Unit)) : F90111 (k + 2) a0 =
    F90111c2 k a0 (a0.length : Int) (0 : Int) := by kernel_rfl
theorem F90111c2_eq (k : Nat) (x0 : List (Int × Int × Int × Unit)) (x7 : Int) (x8 : Int) : F90111c2 (k + 1) x0 x7 x8 =
    if (decide (x8 < x7)) = true then if (decide (0 ≤ x8)) = true then (x0[x8.toNat]?).bind fun y1 => (F89 k y1.1 y1.2.1 y1.2.2.1).bind fun r2 => if r2.1.1 = true then some ((x8, ()), ((), (), ())) else F90111c2 k x0 x7 (IntKind.i64.wrap (x8 + (1 : Int))) else none else some (((-1 : Int), ()), ((), (), ())) := by kernel_rfl
theorem F96094_eq (k : Nat) (a0 : List Int) : F96094 (k + 2) a0 =
    (F96112 k a0).bind fun r1 => some ((decide (r1.1.1 ≥ (0 : Int)), ()), ((), (), ())) := by kernel_rfl
theorem F96112_eq (k : Nat) (a0 : List Int) : F96112 (k + 2) a0 =
    F96112c2 k a0 (a0.length : Int) (0 : Int) := by kernel_rfl
theorem F96112c2_eq (k : Nat) (x0 : List Int) (x7 : Int) (x8 : Int) : F96112c2 (k + 1) x0 x7 x8 =
    if (decide (x8 < x7)) = true then if (decide (0 ≤ x8)) = true then (x0[x8.toNat]?).bind fun y1 => (F95 k y1).bind fun r2 => if r2.1.1 = true then some ((x8, ()), ((), (), ())) else F96112c2 k x0 x7 (IntKind.i64.wrap (x8 + (1 : Int))) else none else some (((-1 : Int), ()), ((), (), ())) := by kernel_rfl
end Go.Proofs.YthpgglegdhjihaaDoor.R
end

section
/-! Rf: what is to be shown of a law, with no machine in sight. -/
set_option autoImplicit false
namespace Go.Proofs.YthpgglegdhjihaaDoor.R
open Go.Rf
def PureFnExactRowOk : Prop := ∀ (a0 : List (Int × Int × Int × Unit)) (a1 : List (Int × Bool × Bool × (List Int) × Int × Int × Int × Int × ByteArray × Unit)), wfT (.sl (.pair (.int .i64) (.pair (.int .i64) (.pair (.int .i64) .unit)))) a0 → wfT (.sl (.pair (.int .i64) (.pair .bool (.pair .bool (.pair (.sl (.int .i64)) (.pair (.int .i64) (.pair (.int .i64) (.pair (.int .i64) (.pair (.int .i64) (.pair .str .unit)))))))))) a1 → ∃ k p, F7 k a0 a1 = some ((true, ()), p)
end Go.Proofs.YthpgglegdhjihaaDoor.R
end

section
namespace Go.Proofs.YthpgglegdhjihaaDoor.Q
open Go.Shelf
open Go.RowKit Go.Proofs.YthpgglegdhjihaaDoor.Q Go.Proofs.YthpgglegdhjihaaDoorW.PrintWords Go.Proofs.YthpgglegdhjihaaDoorW.PrintLast Go.Proofs.YthpgglegdhjihaaDoorW.PrintMore
set_option linter.unusedVariables false
set_option linter.unusedSimpArgs false
/-- A block holds these cells. -/
def CellsAt (W : World) (B : Nat) (t : TypeId) (cs : Array Value) : Prop := W.heap[B]? = some (.cells cs t (0, 0))
theorem CellsAt.lt {W : World} {B : Nat} {t : TypeId} {cs : Array Value} (h : CellsAt W B t cs) : B < W.heap.size := (Array.getElem?_eq_some_iff.1 h).1
theorem CellsAt.new (W : World) (t : TypeId) (cs : Array Value) : CellsAt (W.alloc (.cells cs t)) W.heap.size t cs := World.alloc_heap_new W _
theorem CellsAt.kept {W W' : World} {row : Option Nat} {B : Nat} {t : TypeId} {cs : Array Value} (h : CellsAt W B t cs) (hg : W.grownBy W' row) (hne : some B ≠ row) : CellsAt W' B t cs := (hg.block B h.lt hne).trans h
theorem CellsAt.below {W W' : World} {B n : Nat} {t : TypeId} {cs : Array Value} (h : CellsAt W B t cs) (hb : Below n W W') (hn : B < n) : CellsAt W' B t cs := (hb.block B hn).trans h
theorem CellsAt.alloc {W : World} {B : Nat} {t : TypeId} {cs : Array Value} (h : CellsAt W B t cs) (o : Obj) : CellsAt (W.alloc o) B t cs := (Below.heap_alloc W o B h.lt).trans h
theorem CellsAt.cell {W : World} {B : Nat} {t : TypeId} {cs : Array Value} (h : CellsAt W B t cs) (j : Nat) : W.cell? ⟨B, j, none⟩ = cs[j]? := by
  simp [World.cell?, show W.heap[B]? = _ from h]
theorem cellsAt_own {β : Type} (B : Nat) (t : TypeId) (f : β → Array Value) : Own (fun s W => CellsAt W B t (f s)) := fun s X Y row hs hg hrow =>
  hs.kept hg (fun e' => by obtain ⟨o, ho, hc⟩ := hrow B e'.symm; rw [show X.heap[B]? = _ from hs] at ho; cases ho; cases hc)
/-- What has come when k rounds are over. -/
def upto {α : Type} (f : Nat → α) (k : Nat) : List α := (List.range k).map f
theorem upto_succ {α : Type} (f : Nat → α) (k : Nat) : upto f (k + 1) = upto f k ++ [f k] := by simp [upto, List.range_succ]
theorem upto_length {α : Type} (f : Nat → α) (k : Nat) : (upto f k).length = k := by simp [upto]
/-- What a round that goes on keeps: what lay below, and the box of the slice. -/
def KpB (n₀ Bs : Nat) (W W' : World) : Prop := Below n₀ W W' ∧ W'.heap[Bs]? = W.heap[Bs]?
theorem KpB.refl (n₀ Bs : Nat) (W : World) : KpB n₀ Bs W W := ⟨Below.refl _ _, rfl⟩
theorem KpB.trans {n₀ Bs : Nat} {A B C : World} (h : KpB n₀ Bs A B) (k : KpB n₀ Bs B C) : KpB n₀ Bs A C := ⟨h.1.trans k.1, k.2.trans h.2⟩
theorem kpB_b {n₀ Bs : Nat} {w : World} (h0 : n₀ ≤ w.heap.size) (hB : Bs < w.heap.size) : ∀ (W : World) (l : Nat) (o o' : Obj), w.heap.size ≤ l → W.heap[l]? = some o → o.isCells = false → o.isWalk = false → KpB n₀ Bs W (W.putObj l o') :=
  fun W l o o' hl h1 h2 h3 => ⟨belowK_b h0 W l o o' hl h1 h2 h3, World.putObj_heap_other (by omega)⟩
end Go.Proofs.YthpgglegdhjihaaDoor.Q
end

section
namespace Go.Proofs.YthpgglegdhjihaaDoor.Q
open Go.RowKit Go.Proofs.YthpgglegdhjihaaDoor.Q Go.Proofs.YthpgglegdhjihaaDoorW.PrintWords Go.Proofs.YthpgglegdhjihaaDoorW.PrintLast Go.Proofs.YthpgglegdhjihaaDoorW.PrintMore
set_option linter.unusedVariables false
set_option linter.unusedSimpArgs false
set_option maxHeartbeats 2000000 in
set_option maxRecDepth 100000 in
theorem bld_copyCheck (B b : Nat) (bs : List Value) (w : World) (h : Lib.IsBuilderF 120 5 B b bs w) :
    Calls Tryd.prog 119 #[.pointer (some ⟨b, 0, none⟩)] w fun e w' => e = .returned (.tuple #[]) ∧ (Lib.BuilderAtF 120 5 B b (.pointer (some ⟨b, 0, none⟩)) bs w' ∧ Below B w w' ∧ Lib.OthersKept 5 (some b) w w') := by
  have hsz : (Tryd.prog.info? 120).map (·.size) = some 2 := by kernel_rfl
  obtain ⟨j, hj, hjs⟩ := Option.map_eq_some_iff.1 hsz
  rcases h with h | h
  · have h' := h
    obtain ⟨hB, v, hbk, hown, hne⟩ := h'
    have c0 : w.cell? ⟨b, 0, none⟩ = some (.pointer none) := by rw [Lib.cell_of_heap hbk]; rfl
    have c1 : w.cell? ⟨b, 1, none⟩ = some v := by rw [Lib.cell_of_heap hbk]; rfl
    have f0 : w.frozen? ⟨b, 0, none⟩ = false := Lib.frozen_of_heap hbk 0
    go_enter Tryd.func119, Tryd.ntmps119
    go_wp2
    rw [Lib.run_to_unsafe w ⟨b, 0, none⟩ Tryd.underlying118 Tryd.underlying160 hj (by rw [hjs]; decide) h.shape (Nat.zero_lt_succ 1)]
    simp only [Result.andThen]
    rw [Oper.upon_value]
    go_wp2
    rw [run_callFunc_extern Tryd.func134 (by kernel_rfl) (by kernel_rfl) (by kernel_rfl) (e := Extern.AbiNoEscape.same) (by kernel_rfl)]
    rw [Lib.run_noEscape]
    simp only [Result.andThen]
    rw [Oper.upon_value]
    go_wp2
    rw [Lib.run_from_unsafe w ⟨b, 0, none⟩ Tryd.underlying160 Tryd.underlying118 hj h.shape (by kernel_rfl)]
    simp only [Result.andThen]
    rw [Oper.upon_value]
    go_wp2
    go_end0
    exact ⟨rfl, h.used _, (Below.refl B w).setCell (p := ⟨b, 0, none⟩) h.1 _, (Lib.OthersKept.refl _ _ w).setCell ⟨b, 0, none⟩ rfl _⟩
  · obtain ⟨hB, v, hbk, hown, hne⟩ := id h
    have c0 : w.cell? ⟨b, 0, none⟩ = some (.pointer (some ⟨b, 0, none⟩)) := by rw [Lib.cell_of_heap hbk]; rfl
    go_enter Tryd.func119, Tryd.ntmps119
    go_wp2
    rw [Lib.run_neq_ptr_same w _ Tryd.underlying118 hj]
    go_wp2
    go_end0
    exact ⟨rfl, h, Below.refl B _, Lib.OthersKept.refl _ _ _⟩
theorem infoByte : (Tryd.prog.info? 5).map (fun i => (i.zero, i.size, i.bytes)) = some (some (.int .u8 0), 1, 1) := by kernel_rfl
set_option maxHeartbeats 2000000 in
set_option maxRecDepth 100000 in
theorem bld_WriteString (B b : Nat) (bs : List Value) (s : ByteArray) (w : World) (h : Lib.IsBuilderF 120 5 B b bs w) (hlen : bs.length + s.size ≤ 140737488355328) (hBw : B ≤ w.heap.size) :
    Calls Tryd.prog 100 #[.pointer (some ⟨b, 0, none⟩), .string s] w fun e w' => e = .returned (.tuple #[.int .i64 s.size, .nilIface]) ∧ (Lib.BuilderAtF 120 5 B b (.pointer (some ⟨b, 0, none⟩)) (bs ++ Lib.strCells s) w' ∧ Below B w w' ∧ Lib.OthersKept 5 (some b) w w') := by
  obtain ⟨i0, hi, hz0, hz1, hz2⟩ := info_parts infoByte
  go_enter Tryd.func100, Tryd.ntmps100
  go_wp2_with (go_at_call 119; refine (bld_copyCheck B b bs _ h).mono ?_)
  rintro e w1 ⟨rfl, h1, hb1, hk1⟩
  obtain ⟨hB, v, hbk, hown, hne⟩ := h1
  have c0 : w1.cell? ⟨b, 0, none⟩ = some (.pointer (some ⟨b, 0, none⟩)) := by rw [Lib.cell_of_heap hbk]; rfl
  have c1 : w1.cell? ⟨b, 1, none⟩ = some v := by rw [Lib.cell_of_heap hbk]; rfl
  go_wp2_with (at_builtin; refine Lib.wpList_append_own_stringF _ rfl _ _ 52 9 rfl B 5 i0 Tryd.underlying52 Tryd.underlying9 hi hz0 hz1 hz2 _ _ _ rfl hown s rfl ?c3 ?c4 ?c5 ?_)
  case c3 => unfold maxLen; omega
  case c4 => omega
  case c5 => have := hb1.size; omega
  intro v' w2 hown' hgrow _
  have hlt : b < w1.heap.size := (Array.getElem?_eq_some_iff.1 hbk).1
  have hb2 : w2.heap[b]? = some (.cells #[.pointer (some ⟨b, 0, none⟩), v] 120 (0, 0)) := by
    rw [hgrow.block b hlt (fun e => hne e.symm)]
    exact hbk
  have d0 : w2.cell? ⟨b, 0, none⟩ = some (.pointer (some ⟨b, 0, none⟩)) := by rw [Lib.cell_of_heap hb2]; rfl
  have d1 : w2.cell? ⟨b, 1, none⟩ = some v := by rw [Lib.cell_of_heap hb2]; rfl
  have f1 : w2.frozen? ⟨b, 1, none⟩ = false := Lib.frozen_of_heap hb2 1
  obtain ⟨ao, n', cap, rfl⟩ : ∃ ao n' cap, v' = .slice ao n' cap := by
    rcases hown'.2 with ⟨hv, _⟩ | ⟨g, cap, cur, fz, hv, _⟩
    · exact ⟨_, _, _, hv⟩
    · exact ⟨_, _, _, hv⟩
  go_wp2
  go_ret2
  refine ⟨rfl, ?_, ?_, (hk1.grown hgrow (Lib.ownsRowF_kind hown)).setCell ⟨b, 1, none⟩ rfl _⟩
  · exact Lib.BuilderAtF.put (T := 120) (e := 5) hB hb2 (bs' := bs ++ Lib.strCells s) (by simpa [Lib.strCells_length] using hown') (by decide)
  · exact (hb1.grown hgrow (by have := hb1.size; omega) (fun k hk => (hown.lt k hk).1)).setCell (p := ⟨b, 1, none⟩) hB _
end Go.Proofs.YthpgglegdhjihaaDoor.Q
end

section
namespace Go.Proofs.YthpgglegdhjihaaDoor.Q
open Go.Shelf
open Go.RowKit Go.Proofs.YthpgglegdhjihaaDoor.Q Go.Proofs.YthpgglegdhjihaaDoorW.PrintWords Go.Proofs.YthpgglegdhjihaaDoorW.PrintLast Go.Proofs.YthpgglegdhjihaaDoorW.PrintMore
set_option linter.unusedVariables false
set_option linter.unusedSimpArgs false
attribute [local go_sem] Oper.semAt_some
def encI (x : Int × Int) : Array Value := #[.int .i64 x.1, .int .i64 x.2]
def bwI (zs : List Int) (j : Nat) : Int × Int := ((zs.length : Int) - 1 - j, rd zs ((zs.length : Int) - 1 - j))
set_option maxRecDepth 100000 in
set_option maxHeartbeats 2000000 in
theorem backI1_in {α : Type} (pr : α → Int × Int) (f : Nat → α) (F : Fence) (n : Nat) (h7 : F.fn 114) (hro : F.round = none) (hn : 1 ≤ n) (l Bs : Nat) (w0 : World) (A : Option Addr) (cap : Nat) (zs : List Int) (hcap : zs.length ≤ cap) (hlen : zs.length ≤ 1152921504606846976)
    (hC : Kd.C (Kd.int .i64) w0 A zs.length zs) (hf : ∀ k, k < zs.length → pr (f k) = bwI zs k) (J Jx : List α → World → Prop)
    (hY : ∀ pre x W, J pre W → pre.length < zs.length → YieldAt F (n - 1) Tryd.prog l (encI (pr x)) W fun e W' =>
      (e = .returned (.bool true) ∧ J (pre ++ [x]) W' ∧ KpB w0.heap.size Bs W W') ∨ (e = .returned (.bool false) ∧ Jx (pre ++ [x]) W'))
    (W : World) (hB : Below w0.heap.size w0 W) (hBs : CellsAt W Bs 80 #[.slice A zs.length cap]) (h0 : J [] W) :
    CallsIn F n Tryd.prog 114 #[.func (.yield l) #[] #[], .pointer (some ⟨Bs, 0, none⟩)] W fun e W' => (∃ v, e = .returned v) ∧
      ((∃ ys, ys = upto f zs.length ∧ J ys W') ∨ (∃ pre, (∃ k, k ≤ zs.length ∧ pre = upto f k) ∧ Jx pre W')) := by
  refine callsIn_of_wp Tryd.func114 rfl h7 ?_ hro
  simp only [Tryd.ntmps114, List.size_toArray, List.length_cons, List.length_nil, Nat.reduceAdd, Nat.reduceSub, Array.replicate_succ, Array.replicate_zero, List.push_toArray, List.append_toArray, List.nil_append, List.cons_append]
  have e1 : wrap64 ((zs.length : Int) - 1) = (zs.length : Int) - 1 := by unfold wrap64; omega
  have hc0 : W.cell? ⟨Bs, 0, none⟩ = some (.slice A zs.length cap) := hBs.cell 0
  gi_wp2
  gi_loopw [3] (fun i wr => ∃ k : Nat, k ≤ zs.length ∧ i = .int .i64 ((zs.length : Int) - 1 - k) ∧ J (upto f k) wr ∧ KpB w0.heap.size Bs W wr)
    (fun i _ => (intOf i + 1).toNat)
  case atStart => exact ⟨0, Nat.zero_le _, by simp [*], h0, KpB.refl _ _ _⟩
  case round =>
    obtain ⟨k, hk, rfl, hJs, hnx⟩ := hrel
    have hbx : CellsAt wr Bs 80 #[.slice A zs.length cap] := hnx.2.trans hBs
    have hc1 : wr.cell? ⟨Bs, 0, none⟩ = some (.slice A zs.length cap) := hbx.cell 0
    have hCr := Kd.C_below hC (hB.trans hnx.1)
    by_cases hlt : k < zs.length
    · obtain ⟨fn, tmps, assign, body, hy, hR⟩ := hY _ (f k) wr hJs (by rw [upto_length]; exact hlt)
      rw [hf k hlt] at hy
      simp only [encI, bwI] at hy
      obtain ⟨i, hi⟩ : ∃ i : Int, (zs.length : Int) - 1 - k = i := ⟨_, rfl⟩
      rw [hi] at hy ⊢
      have p0 : 0 ≤ i := by omega
      have q0 : i < (zs.length : Int) := by omega
      obtain ⟨ad, eA, hx0⟩ := Kd.at_int hCr i p0 q0
      subst eA
      have p0' := eq_true p0
      have q0' := eq_true q0
      have d0 : decide (i < 0) = false := decide_eq_false (by omega)
      have d1 : decide (0 ≤ i) = true := decide_eq_true p0
      gi_wp2
      refine hR.mono ?_
      rintro e W3 (⟨rfl, hJ3, hk3⟩ | ⟨rfl, hJx3⟩)
      · have e2 : wrap64 (i - 1) = i - 1 := by unfold wrap64; omega
        gi_wp2
        go_roundw
        case rel => exact ⟨k + 1, by omega, by simp [*]; omega, by rw [upto_succ]; exact hJ3, hnx.trans hk3⟩
        case measure => simp [intOf, e2]; omega
      · gi_wp2
        refine bodyPost_ret (results_none rfl _ _ _) rfl ?_
        exact ⟨⟨_, rfl⟩, .inr ⟨_, ⟨k + 1, by omega, (upto_succ _ _).symm⟩, hJx3⟩⟩
    · obtain rfl : k = zs.length := by omega
      have d0 : decide (0 ≤ (zs.length : Int) - 1 - zs.length) = false := decide_eq_false (by omega)
      gi_wp2
      go_end0
      exact ⟨⟨_, rfl⟩, .inl ⟨_, rfl, hJs⟩⟩
set_option maxHeartbeats 1000000 in
theorem backI_in (F : Fence) (n : Nat) (h5 : F.fn 98) (hro : F.round = none) (a : Option Addr) (len cap : Nat) (w : World) :
    CallsIn F n Tryd.prog 98 #[.slice a len cap] w fun e w' => e = .returned (.func (.func 114) #[] #[.pointer (some ⟨w.heap.size, 0, none⟩)]) ∧ w' = w.alloc (.cells #[.slice a len cap] 80) := by
  refine callsIn_of_wp Tryd.func98 rfl h5 ?_ hro
  simp only [Tryd.ntmps98, List.size_toArray, List.length_cons, List.length_nil, Nat.reduceAdd, Nat.reduceSub, Array.replicate_succ, Array.replicate_zero, List.push_toArray, List.append_toArray, List.nil_append, List.cons_append]
  gi_wp2
  go_ret
  exact ⟨rfl, rfl⟩
theorem backI_stops {α : Type} (pr : α → Int × Int) (f : Nat → α) (F : Fence) (n : Nat) (h7 : F.fn 114) (hro : F.round = none) (hn : 1 ≤ n) (Bs : Nat) (w0 : World) (A : Option Addr) (cap : Nat) (zs : List Int) (hcap : zs.length ≤ cap) (hlen : zs.length ≤ 1152921504606846976)
    (hC : Kd.C (Kd.int .i64) w0 A zs.length zs) (hf : ∀ k, k < zs.length → pr (f k) = bwI zs k) (w : World) (hB : Below w0.heap.size w0 w) (hBs : CellsAt w Bs 80 #[.slice A zs.length cap]) :
    SeqStopsK F n Tryd.prog 114 #[.pointer (some ⟨Bs, 0, none⟩)] (fun x => encI (pr x)) (KpB w0.heap.size Bs) (fun ys => ys = upto f zs.length)
      (fun pre => ∃ k, k ≤ zs.length ∧ pre = upto f k) zs.length w := fun l J Jx W hW _ _ hY h0 =>
  backI1_in pr f F n h7 hro hn l Bs w0 A cap zs hcap hlen hC hf J Jx hY W (hB.trans (hW.mono hB.size)) (hBs.below hW hBs.lt) h0
theorem grownBy_of_below {W W' : World} (h : Below W.heap.size W W') : W.grownBy W' none := ⟨h.os, h.tape, h.output, h.size, fun k hk _ => h.block k hk⟩
theorem builder_below {T e : TypeId} {B b : Nat} {bs : List Value} {W W' : World} (h : Lib.IsBuilderF T e B b bs W) (hb : Below W.heap.size W W') : Lib.IsBuilderF T e B b bs W' := by
  have key : ∀ p, Lib.BuilderAtF T e B b p bs W → Lib.BuilderAtF T e B b p bs W' := fun p h => by
    obtain ⟨hB, v, hbk, hown, hne⟩ := id h
    refine ⟨hB, v, (hb.block b h.lt).trans hbk, hown.kept (grownBy_of_below hb) ?_, hne⟩
    by_cases hv : v.ownBlock = none
    · exact .inl hv
    · exact .inr hv
  exact h.imp (key _) (key _)
theorem keepsFrom_of_others {e : TypeId} {b n : Nat} {W W' : World} (hs : W.heap.size ≤ W'.heap.size) (h : Lib.OthersKept e (some b) W W') (hc : ∃ cs t fz, W.heap[b]? = some (.cells cs t fz)) : KeepsFrom n W W' :=
  ⟨hs, fun k o _ hk ho => h k o hk (fun e' => by cases e'; obtain ⟨cs, t, fz, hc⟩ := hc; rw [hk] at hc; cases hc; cases ho) (fun c fz e' => by subst e'; cases ho)⟩
theorem keepsFrom_of_below {n : Nat} {W W' : World} (h : Below W.heap.size W W') : KeepsFrom n W W' :=
  ⟨h.size, fun k o _ hk _ => (h.block k (Array.getElem?_eq_some_iff.1 hk).1).trans hk⟩
/-- A builder stays one while what is no cells turns. -/
theorem builder_own {β : Type} (T e : TypeId) (B b : Nat) (f : β → List Value) : Own (fun s W => Lib.IsBuilderF T e B b (f s) W) := fun s X Y row hs hg hr => by
  have key : ∀ p, Lib.BuilderAtF T e B b p (f s) X → Lib.BuilderAtF T e B b p (f s) Y := fun p h => by
    obtain ⟨hB, v, hbk, hown, hne⟩ := id h
    refine ⟨hB, v, (hg.block b h.lt (fun e' => ?_)).trans hbk, hown.kept hg ?_, hne⟩
    · obtain ⟨o, ho, hc⟩ := hr b e'.symm
      rw [hbk] at ho; cases ho; cases hc
    · by_cases hv : v.ownBlock = none
      · exact .inl hv
      · refine .inr fun e' => ?_
        obtain ⟨g, hgk⟩ := Option.ne_none_iff_exists'.1 hv
        obtain ⟨o, ho, hc⟩ := hr g (by rw [← e', hgk])
        obtain ⟨c, fz, hk⟩ := Lib.ownsRowF_kind hown g hgk
        rw [hk] at ho; cases ho; cases hc
  exact hs.imp (key _) (key _)
/-- A limb, and its place. -/
abbrev Limb := { x : Int × Int // 0 ≤ x.2 ∧ x.2 ≤ 9999 }
theorem rd_limb {zs : List Int} (hz : ∀ y ∈ zs, 0 ≤ y ∧ y ≤ 9999) (i : Int) : 0 ≤ rd zs i ∧ rd zs i ≤ 9999 := by
  unfold rd
  rw [List.getD_eq_getElem?_getD]
  cases h : zs[i.toNat]? with
  | none => simp
  | some y => exact hz y (List.mem_of_getElem? h)
def limbAt (zs : List Int) (hz : ∀ y ∈ zs, 0 ≤ y ∧ y ≤ 9999) (k : Nat) : Limb := ⟨bwI zs k, rd_limb hz _⟩
/-- A limb's figures: the top one as it is, any other four figures wide. -/
def piece (n : Int) (x : Int × Int) : List UInt8 := if x.1 < n - 1 then Lib.repeatL [48] (4 - (Lib.itoa x.2).length) ++ Lib.itoa x.2 else Lib.itoa x.2
theorem decDigits_len : ∀ (k u : Nat), u < 10 ^ (k + 1) → (Lib.decDigits u).length ≤ k + 1 := by
  intro k
  induction k with
  | zero => intro u h; rw [Lib.decDigits, dif_pos (by simpa using h)]; simp
  | succ k ih =>
    intro u h
    rw [Lib.decDigits]
    by_cases hu : u < 10
    · rw [dif_pos hu]; simp
    · rw [dif_neg hu, List.length_append]
      have := ih (u / 10) (by rw [Nat.pow_succ] at h; omega)
      simp only [List.length_cons, List.length_nil]
      omega
theorem itoa_len (x : Int) (h0 : 0 ≤ x) (h1 : x ≤ 9999) : (Lib.itoa x).length ≤ 4 := by
  unfold Lib.itoa
  rw [if_neg (by omega)]
  exact decDigits_len 3 x.toNat (by omega)
/-- Limbs as a text. -/
def textF (zs : List Int) : List UInt8 := if zs = [] then [48] else (upto (bwI zs) zs.length).flatMap (piece zs.length)
end Go.Proofs.YthpgglegdhjihaaDoor.Q
end

section
namespace Go.Proofs
open Go.Shelf
def Tryd.lays169_ren : Go.Shelf.Ren := ⟨fun | 169 => 101 | n => n, fun | 70 => 118 | 9 => 9 | 0 => 0 | 72 => 120 | 37 => 52 | 127 => 141 | 3 => 3 | 5 => 5 | n => n, fun | n => n⟩
theorem Tryd.lays169 : Go.Proofs.Lays.n169 Tryd.prog Tryd.lays169_ren := {
  mixed := by kernel_rfl
  f169 := Tryd.func101.trans (congrArg some (by kernel_rfl))
  t0 := Tryd.underlying0
  a0 := Tryd.isAgg0
  z0 := Tryd.sizeOf0
  v0 := Tryd.zeroValue0
  t3 := Tryd.underlying3
  a3 := Tryd.isAgg3
  z3 := Tryd.sizeOf3
  v3 := Tryd.zeroValue3
  t9 := Tryd.underlying9
  a9 := Tryd.isAgg9
  z9 := Tryd.sizeOf9
  v9 := Tryd.zeroValue9
  t37 := Tryd.underlying52
  a37 := Tryd.isAgg52
  z37 := Tryd.sizeOf52
  v37 := Tryd.zeroValue52
  t70 := Tryd.underlying118
  a70 := Tryd.isAgg118
  z70 := Tryd.sizeOf118
  v70 := Tryd.zeroValue118
  t72 := Tryd.underlying120
  a72 := Tryd.isAgg120
  z72 := Tryd.sizeOf120
  v72 := Tryd.zeroValue120
  t127 := Tryd.underlying141
  a127 := Tryd.isAgg141
  z127 := Tryd.sizeOf141
  v127 := Tryd.zeroValue141 }
theorem Tryd.Builder_Extra_169 : Builder.Extra Tryd.prog Tryd.lays169_ren := {
  sizeBuilder := by kernel_rfl
  liesBuilder := by kernel_rfl
  t5 := Tryd.underlying5
  a5 := Tryd.isAgg5
  z5 := Tryd.sizeOf5
  v5 := Tryd.zeroValue5
  infoByte := by kernel_rfl
  cellsByte := by kernel_rfl
  sizeByte := by kernel_rfl
  neB5 := by decide }
open Go.RowKit in
/-- (*strings.Builder).String: "String returns the accumulated string.": WHATEVER THE BUILDER HOLDS; THE FORM '_k': OVER 'Lib.IsBuilderF' (a builder that 'String()' may have read), AND WITH THE FRAME THAT REACHES ABOVE THE BUILDER: 'Lib.OthersKept': every block that is not b and is no row of uint8's stands as it stood: the iterator of a range among them. (LAID: no walk: one application.) -/
theorem Tryd.Builder_String_any_k (B b : Nat) (l : List UInt8) (w : World) (h : Lib.IsBuilderF 120 5 B b (Lib.byteCells l) w) (hBw : B ≤ w.heap.size) :
    Calls Tryd.prog 101 #[.pointer (some ⟨b, 0, none⟩)] w fun e w' => e = .returned (.string ⟨l.toArray⟩) ∧ (Lib.IsBuilderF 120 5 B b (Lib.byteCells l) w' ∧ Below B w w' ∧ Lib.OthersKept 5 (some b) w w') := Any.Builder_String_any_k Tryd.lays169 Tryd.Builder_Extra_169 B b l w h hBw
def Tryd.laysM171_ren : Go.Shelf.Ren := ⟨fun | 171 => 54 | 243 => 84 | 246 => 110 | 283 => 127 | 284 => 128 | 285 => 129 | 286 => 130 | 129 => 140 | 317 => 139 | 318 => 141 | 319 => 142 | 320 => 143 | 337 => 145 | 338 => 146 | n => n, fun | 3 => 3 | 9 => 9 | 2 => 2 | 4 => 4 | 171 => 150 | 0 => 0 | 53 => 143 | 37 => 52 | 5 => 5 | 173 => 153 | 212 => 168 | 51 => 155 | 20 => 20 | 213 => 169 | 46 => 137 | 232 => 173 | 233 => 174 | n => n, fun | 17 => 4 | 18 => 5 | 19 => 6 | n => n⟩
theorem Tryd.laysM171 : Go.Proofs.LaysM.n171 Tryd.prog Tryd.laysM171_ren := {
  mixed := by kernel_rfl
  f129 := Tryd.func140.trans (congrArg some (by kernel_rfl))
  f171 := Tryd.func54.trans (congrArg some (by kernel_rfl))
  f243 := Tryd.func84.trans (congrArg some (by kernel_rfl))
  f246 := Tryd.func110.trans (congrArg some (by kernel_rfl))
  f283 := Tryd.func127.trans (congrArg some (by kernel_rfl))
  f284 := Tryd.func128.trans (congrArg some (by kernel_rfl))
  f285 := Tryd.func129.trans (congrArg some (by kernel_rfl))
  f286 := Tryd.func130.trans (congrArg some (by kernel_rfl))
  f317 := Tryd.func139.trans (congrArg some (by kernel_rfl))
  f318 := Tryd.func141.trans (congrArg some (by kernel_rfl))
  f319 := Tryd.func142.trans (congrArg some (by kernel_rfl))
  f320 := Tryd.func143.trans (congrArg some (by kernel_rfl))
  f337 := Tryd.func145.trans (congrArg some (by kernel_rfl))
  f338 := Tryd.func146.trans (congrArg some (by kernel_rfl))
  t0 := Tryd.underlying0
  a0 := Tryd.isAgg0
  z0 := Tryd.sizeOf0
  v0 := Tryd.zeroValue0
  t2 := Tryd.underlying2
  a2 := Tryd.isAgg2
  z2 := Tryd.sizeOf2
  v2 := Tryd.zeroValue2
  t3 := Tryd.underlying3
  a3 := Tryd.isAgg3
  z3 := Tryd.sizeOf3
  v3 := Tryd.zeroValue3
  t4 := Tryd.underlying4
  a4 := Tryd.isAgg4
  z4 := Tryd.sizeOf4
  v4 := Tryd.zeroValue4
  t5 := Tryd.underlying5
  a5 := Tryd.isAgg5
  z5 := Tryd.sizeOf5
  v5 := Tryd.zeroValue5
  t9 := Tryd.underlying9
  a9 := Tryd.isAgg9
  z9 := Tryd.sizeOf9
  v9 := Tryd.zeroValue9
  t20 := Tryd.underlying20
  a20 := Tryd.isAgg20
  z20 := Tryd.sizeOf20
  v20 := Tryd.zeroValue20
  t37 := Tryd.underlying52
  a37 := Tryd.isAgg52
  z37 := Tryd.sizeOf52
  v37 := Tryd.zeroValue52
  t46 := Tryd.underlying137
  a46 := Tryd.isAgg137
  z46 := Tryd.sizeOf137
  v46 := Tryd.zeroValue137
  t51 := Tryd.underlying155
  a51 := Tryd.isAgg155
  z51 := Tryd.sizeOf155
  v51 := Tryd.zeroValue155
  t53 := Tryd.underlying143
  a53 := Tryd.isAgg143
  z53 := Tryd.sizeOf143
  v53 := Tryd.zeroValue143
  t171 := Tryd.underlying150
  a171 := Tryd.isAgg150
  z171 := Tryd.sizeOf150
  v171 := Tryd.zeroValue150
  t173 := Tryd.underlying153
  a173 := Tryd.isAgg153
  z173 := Tryd.sizeOf153
  v173 := Tryd.zeroValue153
  t212 := Tryd.underlying168
  a212 := Tryd.isAgg168
  z212 := Tryd.sizeOf168
  v212 := Tryd.zeroValue168
  t213 := Tryd.underlying169
  a213 := Tryd.isAgg169
  z213 := Tryd.sizeOf169
  t232 := Tryd.underlying173
  a232 := Tryd.isAgg173
  z232 := Tryd.sizeOf173
  v232 := Tryd.zeroValue173
  t233 := Tryd.underlying174
  a233 := Tryd.isAgg174
  z233 := Tryd.sizeOf174
  v233 := Tryd.zeroValue174
  g17 := by kernel_rfl
  g18 := by kernel_rfl
  g19 := by kernel_rfl
  i0 := by kernel_rfl
  i2 := by kernel_rfl
  i3 := by kernel_rfl
  i4 := by kernel_rfl
  i5 := by kernel_rfl
  i9 := by kernel_rfl
  i20 := by kernel_rfl
  i37 := by kernel_rfl
  i46 := by kernel_rfl
  i51 := by kernel_rfl
  i53 := by kernel_rfl
  i171 := by kernel_rfl
  i173 := by kernel_rfl
  i212 := by kernel_rfl
  i232 := by kernel_rfl
  i233 := by kernel_rfl
  m17 := by kernel_rfl
  m18 := by kernel_rfl
  m19 := by kernel_rfl }
open Go.RowKit Go.Sort Go.Lib in
/-- strconv.Itoa: "Itoa is equivalent to FormatInt(int64(i), 10).": i's DECIMAL NUMERAL ('Lib.itoa': a '-' where i is negative, then the digits), FOR EVERY int. The world behind the call: the world before it, new blocks behind the heap (the library's 'var a [24]byte'), draws. (LAID: no walk: one application.) -/
theorem Tryd.strconv_Itoa (n : Int) (h0 : -9223372036854775808 ≤ n) (h1 : n ≤ 9223372036854775807) (w : World) (htab : Lib.TabIs Tryd.prog w "internal/strconv.uint64pow10" .u64 Lib.pow10Tab) :
    Calls Tryd.prog 54 #[.int .i64 n] w fun e w' => e = .returned (.string ⟨(Lib.itoa n).toArray⟩) ∧ ∃ k os, w' = grow (w.drewN k) os := Any.strconv_Itoa Tryd.laysM171 n h0 h1 w htab
def Tryd.lays105_ren : Go.Shelf.Ren := ⟨fun | 105 => 99 | 212 => 115 | 99 => 116 | 165 => 117 | 166 => 100 | 170 => 118 | 169 => 101 | 263 => 131 | 264 => 132 | 206 => 104 | 240 => 119 | 241 => 133 | 276 => 134 | 277 => 144 | n => n, fun | 9 => 9 | 3 => 3 | 4 => 4 | 20 => 20 | 0 => 0 | 46 => 137 | 109 => 138 | 5 => 5 | 72 => 120 | 76 => 87 | 51 => 155 | 146 => 156 | 53 => 143 | 148 => 158 | 70 => 118 | 37 => 52 | 75 => 86 | 127 => 141 | 164 => 160 | 80 => 104 | n => n, fun | n => n⟩
theorem Tryd.lays105 : Go.Proofs.Lays.n105 Tryd.prog Tryd.lays105_ren := {
  mixed := by kernel_rfl
  f99 := Tryd.func116.trans (congrArg some (by kernel_rfl))
  f105 := Tryd.func99.trans (congrArg some (by kernel_rfl))
  f165 := Tryd.func117.trans (congrArg some (by kernel_rfl))
  f166 := Tryd.func100.trans (congrArg some (by kernel_rfl))
  f169 := Tryd.func101.trans (congrArg some (by kernel_rfl))
  f170 := Tryd.func118.trans (congrArg some (by kernel_rfl))
  f206 := Tryd.func104.trans (congrArg some (by kernel_rfl))
  f212 := Tryd.func115.trans (congrArg some (by kernel_rfl))
  f240 := Tryd.func119.trans (congrArg some (by kernel_rfl))
  f241 := Tryd.func133.trans (congrArg some (by kernel_rfl))
  f263 := Tryd.func131.trans (congrArg some (by kernel_rfl))
  f264 := Tryd.func132.trans (congrArg some (by kernel_rfl))
  f276 := Tryd.func134.trans (congrArg some (by kernel_rfl))
  f277 := Tryd.func144.trans (congrArg some (by kernel_rfl))
  t0 := Tryd.underlying0
  a0 := Tryd.isAgg0
  z0 := Tryd.sizeOf0
  v0 := Tryd.zeroValue0
  t3 := Tryd.underlying3
  a3 := Tryd.isAgg3
  z3 := Tryd.sizeOf3
  v3 := Tryd.zeroValue3
  t4 := Tryd.underlying4
  a4 := Tryd.isAgg4
  z4 := Tryd.sizeOf4
  v4 := Tryd.zeroValue4
  t5 := Tryd.underlying5
  a5 := Tryd.isAgg5
  z5 := Tryd.sizeOf5
  v5 := Tryd.zeroValue5
  t9 := Tryd.underlying9
  a9 := Tryd.isAgg9
  z9 := Tryd.sizeOf9
  v9 := Tryd.zeroValue9
  t20 := Tryd.underlying20
  a20 := Tryd.isAgg20
  z20 := Tryd.sizeOf20
  v20 := Tryd.zeroValue20
  t37 := Tryd.underlying52
  a37 := Tryd.isAgg52
  z37 := Tryd.sizeOf52
  v37 := Tryd.zeroValue52
  t46 := Tryd.underlying137
  a46 := Tryd.isAgg137
  z46 := Tryd.sizeOf137
  v46 := Tryd.zeroValue137
  t51 := Tryd.underlying155
  a51 := Tryd.isAgg155
  z51 := Tryd.sizeOf155
  v51 := Tryd.zeroValue155
  t53 := Tryd.underlying143
  a53 := Tryd.isAgg143
  z53 := Tryd.sizeOf143
  v53 := Tryd.zeroValue143
  t70 := Tryd.underlying118
  a70 := Tryd.isAgg118
  z70 := Tryd.sizeOf118
  v70 := Tryd.zeroValue118
  t72 := Tryd.underlying120
  a72 := Tryd.isAgg120
  z72 := Tryd.sizeOf120
  v72 := Tryd.zeroValue120
  t75 := Tryd.underlying86
  a75 := Tryd.isAgg86
  z75 := Tryd.sizeOf86
  v75 := Tryd.zeroValue86
  t76 := Tryd.underlying87
  a76 := Tryd.isAgg87
  z76 := Tryd.sizeOf87
  v76 := Tryd.zeroValue87
  t109 := Tryd.underlying138
  a109 := Tryd.isAgg138
  z109 := Tryd.sizeOf138
  v109 := Tryd.zeroValue138
  t127 := Tryd.underlying141
  a127 := Tryd.isAgg141
  z127 := Tryd.sizeOf141
  v127 := Tryd.zeroValue141
  t146 := Tryd.underlying156
  a146 := Tryd.isAgg156
  z146 := Tryd.sizeOf156
  v146 := Tryd.zeroValue156
  t148 := Tryd.underlying158
  a148 := Tryd.isAgg158
  z148 := Tryd.sizeOf158
  v148 := Tryd.zeroValue158
  t164 := Tryd.underlying160
  a164 := Tryd.isAgg160
  z164 := Tryd.sizeOf160
  v164 := Tryd.zeroValue160 }
theorem Tryd.Builder_Extra_105 : Builder.Extra Tryd.prog Tryd.lays105_ren := {
  sizeBuilder := by kernel_rfl
  liesBuilder := by kernel_rfl
  t5 := Tryd.underlying5
  a5 := Tryd.isAgg5
  z5 := Tryd.sizeOf5
  v5 := Tryd.zeroValue5
  infoByte := by kernel_rfl
  cellsByte := by kernel_rfl
  sizeByte := by kernel_rfl
  neB5 := by decide }
open Go.RowKit Go.Lib in
/-- **strings.Repeat: count ≥ 0, the result within one allocation: count copies of s.** (LAID: no walk: one application.) -/
theorem Tryd.strings_Repeat (s : ByteArray) (c : Nat) (w : World) (hc : c ≤ 9223372036854775807) (hlen : s.size * c ≤ 140737488355328) :
    Calls Tryd.prog 99 #[.string s, .int .i64 c] w fun e w' => e = .returned (.string ⟨(Lib.repeatL s.data.toList c).toArray⟩) ∧ Below w.heap.size w w' := Any.strings_Repeat Tryd.lays105 Tryd.Builder_Extra_105 s c w hc hlen
end Go.Proofs
end

section
namespace Go.Proofs.YthpgglegdhjihaaDoor.Q
open Go.RowKit Go.Proofs.YthpgglegdhjihaaDoor.Q Go.Proofs.YthpgglegdhjihaaDoorW.PrintWords Go.Proofs.YthpgglegdhjihaaDoorW.PrintLast Go.Proofs.YthpgglegdhjihaaDoorW.PrintMore
set_option linter.unusedVariables false
set_option linter.unusedSimpArgs false
/-- The table that strconv reads is laid. -/
def Laid (w : World) : Prop := Lib.TabIs Tryd.prog w "internal/strconv.uint64pow10" .u64 Lib.pow10Tab
theorem gPow : ∃ g, Tryd.prog.globalNamed "internal/strconv.uint64pow10" = some g := Option.isSome_iff_exists.1 (by kernel_rfl)
theorem laid_below {w W : World} (h : Laid w) (hb : Below w.heap.size w W) : Laid W := by
  obtain ⟨g, hg⟩ := gPow
  unfold Laid Lib.TabIs World.var? at h ⊢
  simp only [hg, Option.bind_some] at h ⊢
  have hlt : g < w.heap.size := by
    rcases Nat.lt_or_ge g w.heap.size with h' | h'
    · exact h'
    · simp [Array.getElem?_eq_none h'] at h
  rw [hb.block g hlt]
  exact h
end Go.Proofs.YthpgglegdhjihaaDoor.Q
end

section
namespace Go.Proofs.YthpgglegdhjihaaDoor.Q
open Go.Shelf
open Go.RowKit Go.Proofs.YthpgglegdhjihaaDoor.Q Go.Proofs.YthpgglegdhjihaaDoorW.PrintWords Go.Proofs.YthpgglegdhjihaaDoorW.PrintLast Go.Proofs.YthpgglegdhjihaaDoorW.PrintMore
set_option linter.unusedVariables false
set_option linter.unusedSimpArgs false
attribute [local go_sem] Oper.semAt_some
theorem piece_len (m : Int) (x : Limb) : (piece m x.1).length ≤ 4 := by
  have := itoa_len x.1.2 x.2.1 x.2.2
  unfold piece
  split
  · rw [List.length_append, Lib.repeatL_length]; simp only [List.length_cons, List.length_nil]; omega
  · exact this
theorem pieces_len (m : Int) : ∀ pre : List Limb, (pre.flatMap fun x => piece m x.1).length ≤ 4 * pre.length
  | [] => by simp
  | x :: pre => by
    have h1 := piece_len m x
    have h2 := pieces_len m pre
    rw [List.flatMap_cons, List.length_append, List.length_cons]
    omega
theorem text_round {w W wm w3 : World} {n B0 : Nat} {m : Int} {cs : Array Value} {pre : List Limb} {x : Limb} {s : ByteArray} (hn : n = w.heap.size)
    (tB : Lib.IsBuilderF 120 5 w.heap.size (w.heap.size + 1) (Lib.byteCells (pre.flatMap fun x => piece m x.1)) W) (t1 : CellsAt W w.heap.size 80 cs) (t0 : CellsAt W (w.heap.size + 1 + 1) 80 cs) (tb : Below w.heap.size w W) (hb : Below W.heap.size W wm)
    (hB3 : Lib.BuilderAtF 120 5 w.heap.size (w.heap.size + 1) (.pointer (some ⟨w.heap.size + 1, 0, none⟩)) (Lib.byteCells (pre.flatMap fun x => piece m x.1) ++ Lib.strCells s) w3) (hb3 : Below w.heap.size wm w3) (hk3 : Lib.OthersKept 5 (some (w.heap.size + 1)) wm w3) (hs : s.data.toList = piece m x.1) :
    KeepsFrom B0 W w3 ∧ KpB w.heap.size (w.heap.size + 1 + 1) W w3 ∧ ((Lib.IsBuilderF 120 5 w.heap.size (w.heap.size + 1) (Lib.byteCells ((pre ++ [x]).flatMap fun x => piece m x.1)) w3 ∧ CellsAt w3 w.heap.size 80 cs) ∧ CellsAt w3 (w.heap.size + 1 + 1) 80 cs) ∧ Below w.heap.size w w3 := by
  have tBm := builder_below tB hb
  have hcell : ∃ cs t fz, wm.heap[w.heap.size + 1]? = some (.cells cs t fz) := by
    obtain h | h := tBm <;> (obtain ⟨_, v, hbk, _⟩ := h; exact ⟨_, _, _, hbk⟩)
  have hno : ∀ c fz, (Obj.cells cs 80 (0, 0)) ≠ .cells c 5 fz := fun c fz e => by injection e with _ e2 _; exact absurd e2 (by decide)
  have k1 : CellsAt w3 w.heap.size 80 cs := hk3 _ _ (t1.below hb t1.lt) (by simp) hno
  have k0 : CellsAt w3 (w.heap.size + 1 + 1) 80 cs := hk3 _ _ (t0.below hb t0.lt) (by simp) hno
  have hbW : Below w.heap.size W wm := hb.mono tb.size
  refine ⟨(keepsFrom_of_below hb).trans (keepsFrom_of_others hb3.size hk3 hcell), ⟨hbW.trans hb3, k0.trans t0.symm⟩, ⟨⟨.inr ?_, k1⟩, k0⟩, (tb.trans hbW).trans hb3⟩
  rw [List.flatMap_append, List.flatMap_singleton, Lib.byteCells_append, ← hs]
  exact hB3
set_option maxRecDepth 100000 in
set_option maxHeartbeats 4000000 in
theorem impl_text.calls (A0 : Option Addr) (c0 : Nat) (l0 : List Int) (w : World) (hlaid : Laid w) (hr0 : Kd.C (Kd.int .i64) w A0 l0.length l0) (hc0 : l0.length ≤ c0) (hz : ∀ y ∈ l0, 0 ≤ y ∧ y ≤ 9999) (hlen : l0.length ≤ 1000000) :
    Calls Tryd.prog 74 #[.slice A0 l0.length c0] w fun e w' => e = .returned (.string ⟨(textF l0).toArray⟩) ∧ Below w.heap.size w w' := by
  have HR0 := Aside0.mk hr0
  have HC0 := Aside0.mk hc0
  have HL := Aside0.mk hlen
  clear hr0 hc0 hlen
  by_cases hnil : l0 = []
  · subst hnil
    refine (callsIn_wide (n := 9)).1 ?_
    refine callsIn_of_wp_marks Tryd.func74 rfl trivial ?_ rfl
    simp only [Tryd.ntmps74, List.size_toArray, List.length_cons, List.length_nil, Nat.reduceAdd, Nat.reduceSub, Array.replicate_succ, Array.replicate_zero, List.push_toArray, List.append_toArray, List.nil_append, List.cons_append]
    gi_wp2
    exact ⟨_, results_tmp rfl _ _ _, rfl, (Below.refl _ w).alloc (Nat.le_refl _) _⟩
  · have hn : (l0.length : Int) ≠ 0 := by have := List.length_pos_iff.2 hnil; omega
    have hn1 : ((l0.length : Int) == 0) = false := beq_eq_false_iff_ne.mpr hn
    refine (callsIn_wide (n := 9)).1 ?_
    refine callsIn_of_wp_marks Tryd.func74 rfl trivial ?_ rfl
    simp only [Tryd.ntmps74, List.size_toArray, List.length_cons, List.length_nil, Nat.reduceAdd, Nat.reduceSub, Array.replicate_succ, Array.replicate_zero, List.push_toArray, List.append_toArray, List.nil_append, List.cons_append]
    gi_wp2_with (refine ⟨trivial, ?_⟩; gi_at_call 98; refine (backI_in Fence.wide _ trivial rfl _ _ _ _).mono ?_; rintro e w6 ⟨rfl, hw6⟩)
    have e0 : ((upto (limbAt l0 hz) l0.length).flatMap fun x => piece l0.length x.1) = textF l0 := by
      unfold textF upto
      rw [if_neg hnil, List.flatMap_map, List.flatMap_map]
      rfl
    obtain ⟨W0, hW0⟩ : ∃ W0, ((w.alloc (.cells #[.slice A0 l0.length c0] 80)).alloc (.cells #[.pointer none, .slice none 0 0] 120)).alloc (.cells #[.slice A0 l0.length c0] 80) = W0 := ⟨_, rfl⟩
    have s1 : CellsAt W0 w.heap.size 80 #[.slice A0 l0.length c0] := by rw [← hW0]; exact ((CellsAt.new w _ _).alloc _).alloc _
    have s0 : CellsAt W0 (w.heap.size + 1 + 1) 80 #[.slice A0 l0.length c0] := by rw [← hW0]; have := CellsAt.new ((w.alloc (.cells #[.slice A0 l0.length c0] 80)).alloc (.cells #[.pointer none, .slice none 0 0] 120)) 80 #[.slice A0 l0.length c0]; rwa [World.size_alloc, World.size_alloc] at this
    have sB : Lib.IsBuilderF 120 5 w.heap.size (w.heap.size + 1) (Lib.byteCells []) W0 := by
      have h : CellsAt W0 (w.heap.size + 1) 120 #[.pointer none, .slice none 0 0] := by rw [← hW0]; have := (CellsAt.new (w.alloc (.cells #[.slice A0 l0.length c0] 80)) 120 #[.pointer none, .slice none 0 0]).alloc (.cells #[.slice A0 l0.length c0] 80); rwa [World.size_alloc] at this
      exact .inl ⟨by omega, .slice none 0 0, h, World.ownsRowF_nil _ _ _ _, by simp [Value.ownBlock]⟩
    have hsz : W0.heap.size = w.heap.size + 1 + 1 + 1 := by rw [← hW0]; simp
    have hBW0 : Below w.heap.size w W0 := by rw [← hW0]; exact (((Below.refl _ w).alloc (Nat.le_refl _) _).alloc (by simp) _).alloc (by simp; omega) _
    rw [hW0]
    clear hW0 hw6
    refine wpIn_rangeFunc_ownH rfl (by decide) (gf := 114) (lb := #[.pointer (some ⟨w.heap.size + 1 + 1, 0, none⟩)]) rfl trivial (enters_of Tryd.func114 (by kernel_rfl) rfl)
      (backI_stops (fun x : Limb => x.1) (limbAt l0 hz) Fence.wide _ trivial rfl (by decide) (w.heap.size + 1 + 1) w A0 c0 l0 HC0.out (by have := HL.out; omega) HR0.out (fun _ _ => rfl) W0 hBW0 s0) KpB.trans (kpB_b (by omega) (by omega)) (Below.refl _ _) (fun _ => rfl)
      (fun pre W => ((Lib.IsBuilderF 120 5 w.heap.size (w.heap.size + 1) (Lib.byteCells (pre.flatMap fun x => piece l0.length x.1)) W ∧ CellsAt W w.heap.size 80 #[.slice A0 l0.length c0]) ∧ CellsAt W (w.heap.size + 1 + 1) 80 #[.slice A0 l0.length c0]) ∧ Below w.heap.size w W)
      (fun _ _ _ => False)
      (OwnFrom.and (OwnFrom.and (OwnFrom.and (Own.from (builder_own _ _ _ _ _) _) (Own.from (cellsAt_own _ _ _) _)) (Own.from (cellsAt_own _ _ _) _)) (ownFrom_below (Nat.le_refl _) (by omega)))
      (fun _ _ _ _ _ hs _ _ => hs)
      ⟨⟨⟨sB, s1⟩, s0⟩, hBW0⟩
      (fun x a' _ => a' = { tmps := #[.slice A0 l0.length c0, .pointer (some ⟨w.heap.size, 0, none⟩), .string ⟨#[]⟩, .pointer (some ⟨w.heap.size + 1, 0, none⟩), .int .i64 x.1.1, .int .i64 x.1.2, undef, .slice A0 l0.length c0, .int .i64 l0.length, .bool false, .slice A0 l0.length c0, .func (.func 114) #[] #[.pointer (some ⟨w.heap.size + 1 + 1, 0, none⟩)], .int .i64 x.1.1, .int .i64 x.1.2, undef, undef, undef, undef, undef, undef, undef, undef, undef, undef, undef, undef, undef, undef, undef, undef], defers := [] })
      (fun _ _ _ _ _ _ hs _ _ => hs)
      ?assign ?body ?done ?stop
    case assign =>
      rintro l pre x W K hI hK
      simp only [encI]
      gi_wp2
      exact hK _ _ (KeepsFrom.refl _ _) (KpB.refl _ _ _) hI rfl
    case body =>
      rintro l pre x a' W hl ⟨r, hr⟩ ⟨⟨⟨tB, t1⟩, t0⟩, tb⟩ rfl hlt
      have hx0 := x.2.1
      have hx1 := x.2.2
      have u1 : W.cell? ⟨w.heap.size, 0, none⟩ = some (.slice A0 l0.length c0) := t1.cell 0
      have hl4 := itoa_len x.1.2 hx0 hx1
      gi_wp2
      refine ⟨trivial, ?_⟩
      refine (CallsIn.inRound l (callsIn_wide.2 (Tryd.strconv_Itoa x.1.2 (by omega) (by omega) W (laid_below hlaid tb)))).mono ?_
      rintro e w1 ⟨rfl, k1, os1, hw1⟩
      have hb1 : Below W.heap.size W w1 := by rw [hw1]; exact Go.Lib.below_grow _ _ (Nat.le_refl _) _ _
      have u1' : w1.cell? ⟨w.heap.size, 0, none⟩ = some (.slice A0 l0.length c0) := (t1.below hb1 t1.lt).cell 0
      have ew : wrap64 ((l0.length : Int) - 1) = (l0.length : Int) - 1 := by have := HL.out; unfold wrap64; omega
      clear hw1
      by_cases hlt2 : x.1.1 < (l0.length : Int) - 1
      · have hd : decide (x.1.1 < (l0.length : Int) - 1) = true := decide_eq_true hlt2
        gi_wp2
        refine ⟨trivial, ?_⟩
        have hc : (4 - ((Lib.itoa x.1.2).length : Int)) = ((4 - (Lib.itoa x.1.2).length : Nat) : Int) := by omega
        rw [hc]
        refine (CallsIn.inRound l (callsIn_wide.2 (Tryd.strings_Repeat ⟨#[48]⟩ (4 - (Lib.itoa x.1.2).length) w1 (by omega) (by show 1 * _ ≤ _; omega)))).mono ?_
        rintro e w2 ⟨rfl, hb2⟩
        have hrl := Lib.repeatL_length [48] (4 - (Lib.itoa x.1.2).length)
        have hov : (9223372036854775807 < (Lib.repeatL [48] (4 - (Lib.itoa x.1.2).length)).length + (Lib.itoa x.1.2).length) = False := eq_false (by rw [hrl]; simp only [List.length_cons, List.length_nil]; omega)
        gi_wp2
        refine ⟨trivial, ?_⟩
        refine (CallsIn.inRound l (callsIn_wide.2 (bld_WriteString w.heap.size (w.heap.size + 1) _ _ w2 (builder_below (builder_below tB hb1) hb2) (by rw [Lib.byteCells_length]; have := pieces_len l0.length pre; have := HL.out; rw [ByteArray.size_append]; have e1 : (⟨(Lib.repeatL [48] (4 - (Lib.itoa x.1.2).length)).toArray⟩ : ByteArray).size = (Lib.repeatL [48] (4 - (Lib.itoa x.1.2).length)).length := rfl; have e2 : (⟨(Lib.itoa x.1.2).toArray⟩ : ByteArray).size = (Lib.itoa x.1.2).length := rfl; rw [e1, e2, hrl]; simp only [List.length_cons, List.length_nil]; omega) (by have := tb.size; have := hb1.size; have := hb2.size; omega)))).mono ?_
        rintro e w3 ⟨rfl, hB3, hb3, hk3⟩
        gi_wp2
        exact text_round rfl tB t1 t0 tb (hb1.trans (hb2.mono hb1.size)) hB3 hb3 hk3 (by unfold piece; rw [if_pos hlt2]; simp)
      · have hd : decide (x.1.1 < (l0.length : Int) - 1) = false := decide_eq_false hlt2
        gi_wp2
        refine ⟨trivial, ?_⟩
        refine (CallsIn.inRound l (callsIn_wide.2 (bld_WriteString w.heap.size (w.heap.size + 1) _ _ w1 (builder_below tB hb1) (by rw [Lib.byteCells_length]; have := pieces_len l0.length pre; have := HL.out; have e2 : (⟨(Lib.itoa x.1.2).toArray⟩ : ByteArray).size = (Lib.itoa x.1.2).length := rfl; rw [e2]; omega) (by have := tb.size; have := hb1.size; omega)))).mono ?_
        rintro e w3 ⟨rfl, hB3, hb3, hk3⟩
        gi_wp2
        exact text_round rfl tB t1 t0 tb hb1 hB3 hb3 hk3 (by unfold piece; rw [if_neg (by omega)])
    case done =>
      rintro D ys W hD rfl ⟨⟨⟨tB, t1⟩, t0⟩, tb⟩ hK
      gi_wp2_with (refine ⟨trivial, ?_⟩; gi_at_call 101; refine (callsIn_wide.2 (Tryd.Builder_String_any_k w.heap.size (w.heap.size + 1) _ _ tB (by have := tb.size; omega))).mono ?_; rintro e w7 ⟨rfl, hb7, hb8, hok⟩)
      have hK7 := hok D _ hK (fun e' => by cases e'; obtain h | h := tB <;> (obtain ⟨_, v, hbk, _⟩ := h; rw [hK] at hbk; cases hbk)) (fun _ _ h => by cases h)
      refine ⟨by simp, .inl ⟨_, _, rfl, run_takeDeferred hK7, ?_⟩⟩
      refine ⟨_, results_tmp rfl _ _ _, ?_, (tb.trans hb8).trans (belowK_b (w := w) (Nat.le_refl _) w7 D _ _ (by omega) hK7 rfl rfl)⟩
      rw [← e0]
      rfl
    case stop =>
      rintro D c pre W _ _ h _
      exact h.elim
end Go.Proofs.YthpgglegdhjihaaDoor.Q
end

section
/-! Rf: limbs.text keeps its contract. -/
set_option autoImplicit false
namespace Go.Proofs.YthpgglegdhjihaaDoor.R
open Go.Rf
section
open Go.Proofs.YthpgglegdhjihaaDoor.Q Go.Proofs.YthpgglegdhjihaaDoorW.PrintWords
theorem text_parts (zs : List Int) : ∀ m, m ≤ zs.length → ((Q.upto (Q.bwI zs) m).flatMap (Q.piece (zs.length : Int))) = figs (zs.drop (zs.length - m)) := by
  intro m
  induction m with
  | zero =>
    intro _
    rw [Nat.sub_zero, List.drop_length]
    rfl
  | succ m ih =>
    intro hm
    obtain ⟨j, hj⟩ : ∃ j, j = zs.length - (m + 1) := ⟨_, rfl⟩
    have hj1 : zs.length - m = j + 1 := by omega
    have hjl : j < zs.length := by omega
    have e1 : Q.upto (Q.bwI zs) (m + 1) = Q.upto (Q.bwI zs) m ++ [Q.bwI zs m] := by
      unfold Q.upto
      rw [List.range_succ, List.map_append]
      rfl
    have e2 : Q.bwI zs m = ((j : Int), zs.getD j 0) := by
      unfold Q.bwI
      have : (zs.length : Int) - 1 - (m : Int) = (j : Int) := by omega
      rw [this]
      rfl
    rw [e1, List.flatMap_append, ih (by omega), List.flatMap_singleton, e2, hj1, ← hj]
    unfold Q.piece
    by_cases h : j + 1 < zs.length
    · rw [if_pos (show ((j : Int), zs.getD j 0).1 < (zs.length : Int) - 1 by show (j : Int) < _; omega), figs_drop h]
      rfl
    · have hl : zs.length = j + 1 := by omega
      rw [if_neg (show ¬ ((j : Int), zs.getD j 0).1 < (zs.length : Int) - 1 by show ¬ (j : Int) < _; omega), figs_last hl, List.drop_eq_nil_of_le (by omega)]
      rfl
theorem textF_eq (l : List Int) : (⟨(Q.textF l).toArray⟩ : ByteArray) = textL l := by
  unfold Q.textF
  cases l with
  | nil => rfl
  | cons d l =>
    rw [if_neg (by simp)]
    have := text_parts (d :: l) (d :: l).length (Nat.le_refl _)
    rw [Nat.sub_self, List.drop_zero] at this
    exact congrArg (fun x : List UInt8 => (⟨x.toArray⟩ : ByteArray)) this
theorem reps_ints {w : World} {Z : Nat → Prop} : ∀ {l : List Int} {vs : List Value}, reps (rep w Z (.int .i64)) l vs → vs = l.map (Value.int .i64)
  | [], vs, h => h
  | x :: l, vs, h => by
    obtain ⟨c, d, rfl, h1, h2⟩ := h
    rw [reps_ints h2, show c = [.int .i64 x] from h1]
    rfl
theorem reads_of {w : World} {Z : Nat → Prop} {l : List Int} {v : Value} (h : rep w Z (.sl (.int .i64)) l [v]) (hl : l.length ≤ 1000000) : ∃ A c, v = .slice A l.length c ∧ l.length ≤ c ∧ Kd.C (Kd.int .i64) w A l.length l := by
  obtain ⟨A, c, vs, h1, h2, h3, h4⟩ := h
  obtain rfl := reps_ints h3
  refine ⟨A, c, (List.cons.inj h1).1, h2, rfl, by omega, fun h0 => ?_⟩
  have at' : ∀ j p, l[j]? = some p → ∃ a : Addr, A = some a ∧ w.cell? (a.add j) = some (.int .i64 p) := fun j p hp => by
    obtain ⟨a, ha, _, _, hc⟩ := h4 j (.int .i64 p) (by rw [List.getElem?_map, hp]; rfl)
    exact ⟨a, ha, hc⟩
  obtain ⟨a, ha, _⟩ := at' 0 l[0] (List.getElem?_eq_getElem h0)
  refine ⟨a, ha, fun j p hp => ⟨[.int .i64 p], rfl, rfl, fun i u hu => ?_⟩⟩
  obtain ⟨a', ha', hc⟩ := at' j p hp
  obtain rfl := Option.some.inj (ha.symm.trans ha')
  cases i with
  | zero =>
    obtain rfl := Option.some.inj hu
    have : j * 1 + 0 = j := by omega
    show w.cell? (a.add (j * 1 + 0)) = _
    rw [this]
    exact hc
  | succ i => simp at hu
end
theorem gPow : Tryd.prog.globalNamed "internal/strconv.uint64pow10" = some powG := by kernel_rfl
theorem laid_of {w : World} {Z : Nat → Prop} (h : GL cx w Z) : Q.Laid w := by
  obtain ⟨_, t, fz, hh⟩ := h.2 powG powCells (by show objsR powG = _; unfold objsR; simp)
  unfold Q.Laid Lib.TabIs World.var?
  rw [gPow, Option.bind_some, hh]
  rfl
theorem text_contract (inp : (cx.spec 74).In) (out : (cx.spec 74).Out) (h : textR inp = some out) : Contract cx 74 inp out := by
  obtain ⟨l, _⟩ := inp
  unfold textR at h
  split at h
  · rename_i hok
    obtain rfl := Option.some.inj h
    unfold limbsOk at hok
    simp only [Bool.and_eq_true, List.all_eq_true, decide_eq_true_eq] at hok
    intro w Z args fp hrep _ _ hZ hGL
    match args, hrep with
    | [v], ⟨f, g, hfp, ⟨hv, hf⟩, hg⟩ =>
      obtain rfl : f = [] := hf
      obtain rfl : g = [] := hg
      obtain rfl : fp = [] := hfp
      obtain ⟨A, c, rfl, hc, hK⟩ := reads_of hv hok.2
      refine (Q.impl_text.calls A c l w (laid_of hGL) hK hc hok.1 hok.2).mono ?_
      rintro e w' ⟨rfl, hb⟩
      rw [textF_eq]
      refine ⟨[.string (textL l)], Z, [], [], rfl, ⟨[], [], rfl, ⟨rfl, rfl⟩, rfl⟩, ⟨[], [], rfl, rfl, rfl⟩, by simp, (fun b hb => by cases hb), (fun b hb => hb), fun b hz => ⟨Nat.lt_of_lt_of_le (hZ b hz) hb.size, .inl hz⟩, ⟨hb.os, hb.tape, hb.output, hb.size, fun b hlt _ => hb.block b hlt, fun b o ho _ => (hb.block b (Array.getElem?_eq_some_iff.1 ho).1).trans ho⟩⟩
  · cases h
theorem told (k f : Nat) (inp : (cx.spec f).In) (out : (cx.spec f).Out) (h : callF cx k f inp = some out) : Go.Rf.Contract cx f inp out := (Go.Rf.run_ok good (fun f g inp out h h2 => by
  have h : extR f = some g := h
  by_cases e : f = 74
  · subst e
    obtain rfl := Option.some.inj h
    exact text_contract inp out h2
  · exfalso
    unfold extR at h
    split at h
    · exact e rfl
    · cases h) k).1 f inp out h
end Go.Proofs.YthpgglegdhjihaaDoor.R
end

section
/-! Rf: the row of a law, out of its pure statement. -/
set_option autoImplicit false
namespace Go.Proofs.YthpgglegdhjihaaDoor.fnExactRowOk
open Go.Rf Go.Proofs.YthpgglegdhjihaaDoor.R Go.ChangeShapes Go.WideShapes Go.ChangeAt Go.RowKit
set_option linter.unusedVariables false
theorem walk (P : PureFnExactRowOk) (w : World) (hGL : GL cx w (Here w)) (v0 : Value) (y0 : (vSh ⟨false, [.sl (.pair (.int .i64) (.pair (.int .i64) (.pair (.int .i64) .unit)))], [], 24⟩).D) (v1 : Value) (y1 : (vSh ⟨false, [.sl (.pair (.int .i64) (.pair .bool (.pair .bool (.pair (.sl (.int .i64)) (.pair (.int .i64) (.pair (.int .i64) (.pair (.int .i64) (.pair (.int .i64) (.pair .str .unit)))))))))], [], 24⟩).D) (h0 : ShRep w (Here w) (vSh ⟨false, [.sl (.pair (.int .i64) (.pair (.int .i64) (.pair (.int .i64) .unit)))], [], 24⟩) y0 v0 []) (w0 : shWf (vSh ⟨false, [.sl (.pair (.int .i64) (.pair (.int .i64) (.pair (.int .i64) .unit)))], [], 24⟩) y0) (h1 : ShRep w (Here w) (vSh ⟨false, [.sl (.pair (.int .i64) (.pair .bool (.pair .bool (.pair (.sl (.int .i64)) (.pair (.int .i64) (.pair (.int .i64) (.pair (.int .i64) (.pair (.int .i64) (.pair .str .unit)))))))))], [], 24⟩) y1 v1 []) (w1 : shWf (vSh ⟨false, [.sl (.pair (.int .i64) (.pair .bool (.pair .bool (.pair (.sl (.int .i64)) (.pair (.int .i64) (.pair (.int .i64) (.pair (.int .i64) (.pair (.int .i64) (.pair .str .unit)))))))))], [], 24⟩) y1) :
    Calls Tryd.prog 7 #[v0, v1] w fun e w' => e = .returned (.bool true) ∧ Below w.heap.size w w' := by
  obtain ⟨k, p, h⟩ := P y0 y1 w0 w1
  have h' : callF cx k 7 (y0, y1, ()) = some ((true, ()), p) := h
  have hr : ShsRep w (Here w) (cx.spec 7).ps (y0, y1, ()) [v0, v1] [] := ⟨[], [], rfl, h0, ⟨[], [], rfl, h1, rfl⟩⟩
  exact law_calls (told k 7 _ _ h') hr hGL (fun w' Z vs fp h => res_bool h)
theorem own : ownKnob Tryd.prog.godebug = none := by kernel_rfl
theorem laidOut : laidOutB Tryd.prog = true := by kernel_rfl
/-- what the row lists -/
def laidL : List (String × DataW Unit) := [("math/bits.deBruijn32tab", Rows.laid_math_bits_deBruijn32tab), ("math/bits.deBruijn64tab", Rows.laid_math_bits_deBruijn64tab), ("internal/strconv.uint64pow10", Rows.laid_internal_strconv_uint64pow10)]
theorem pow_data : (Rows.laid_internal_strconv_uint64pow10 : DataW Unit) = Lib.tabData .u64 Lib.pow10Tab := by kernel_rfl
theorem gl_of {W : World} (h : laidMetH Tryd.prog laidL W) : GL cx W (Here W) := by
  unfold laidL at h
  rw [MakeChecks.laidMetH_plain _ _ _ (by kernel_rfl), pow_data] at h
  have ht := Lib.tabIs_of_head (n := 20) (t := 168) (e := 143) gPow (by kernel_rfl) (by kernel_rfl) (by kernel_rfl) (by kernel_rfl) (by kernel_rfl) (laidMet.tail (laidMet.tail h))
  unfold Lib.TabIs World.var? at ht
  rw [gPow, Option.bind_some] at ht
  refine ⟨(fun _ _ h => by cases h), fun g cs hg => ?_⟩
  have hg : objsR g = some cs := hg
  unfold objsR at hg
  split at hg
  · rename_i e
    subst e
    obtain rfl := Option.some.inj hg
    split at ht
    · rename_i cs t fz hh
      obtain rfl := Option.some.inj ht
      exact ⟨(Array.getElem?_eq_some_iff.1 hh).1, _, _, hh⟩
    · cases ht
  · cases hg
theorem door_met (os : Os) (args : Array Value) : laidMetH Tryd.prog laidL ((World.doorLaid Tryd.prog 400 os).forCall (fun _ _ => 0) ⟨#[], args, []⟩).memory :=
  laidMetH_of_parts3 (fuel := 8) (laidMet_of_run' 8 (by kernel_rfl) (by kernel_rfl)) (by kernel_rfl) (by kernel_rfl)
set_option maxRecDepth 100000 in
theorem lifted (P : PureFnExactRowOk) (os : Os) (started : os.Started) (H : Type) (enc : TypeId × Value → H) :
    ReturnsInHanded {} Tryd.checked os 7 .any (fun w args => (Rows.fnExactRowOkSpec.pre enc Tryd.prog Tryd.f7 [] false w args ∧ laidMetH Tryd.prog laidL w) ∧ sizedMet enc Tryd.prog Tryd.f7 (OpenSpec.ofChange Rows.fnExactRowOkSpec) false w args)
      (Rows.fnExactRowOkSpec.post enc Tryd.prog Tryd.f7 false true false false) := by
  refine returnsInHanded_of_change_and (C := Tryd.checked) (X := fun w _ => laidMetH Tryd.prog laidL w) (fun _ _ _ hh h => h.of_heap hh) own started (by kernel_rfl) Tryd.func7
    (ChangeSpec.witness_shaped (enc := enc) (C := Tryd.checked) (os := os) (X := fun w _ => laidMetH Tryd.prog laidL w) false (World.doorLaid Tryd.prog 400 os) #[.slice none 0 0, .slice none 0 0] 12 rfl (World.shaped_of_RefB (by kernel_rfl) (by kernel_rfl)) (by kernel_rfl) (by kernel_rfl) (by kernel_rfl) (door_met os _)) ?_
  intro W base args ds gs before hval0 hW _ _ hL _
  have hGL := gl_of hL
  have hval : ∀ (j : Nat) t v, Tryd.f7.params[j]? = some t → args[j]? = some v → Value.okWide Tryd.prog W .any base t v := hval0
  have hW' := hW
  obtain ⟨p, q, hA0, hV, rfl, hfz, hnd⟩ := hW
  have hA : DataW.TrodAll enc Tryd.prog W 0 (fun _ => true) true Tryd.f7.params.toList args.toList ds p := hA0
  rw [Tryd.params7] at hA hval
  obtain ⟨v0, vs0, d0, ds0, p0, q0, hargs, rfl, rfl, h0, r0⟩ := trodAll_cons hA
  obtain ⟨v1, vs1, d1, ds1, p1, q1, rfl, rfl, rfl, h1, r1⟩ := trodAll_cons r0
  obtain ⟨rfl, rfl, rfl⟩ := trodAll_nil r1
  obtain rfl : args = #[v0, v1] := by cases args; simp_all
  obtain ⟨rfl, rfl⟩ := trodVars_none hV
  have k0 := h0
  have lt0 : ∀ x ∈ p0, x.block < W.heap.size := by obtain ⟨m, hm⟩ := k0; exact DataW.trod_lt m _ _ _ hm
  obtain ⟨y0, hy0, w0⟩ := opnArg_ok (tab := tabs.ty) (P := Tryd.prog) (t := 58) (i := ⟨false, [.sl (.pair (.int .i64) (.pair (.int .i64) (.pair (.int .i64) .unit)))], [], 24⟩) (by kernel_rfl) (hval 0 58 v0 rfl rfl) h0
  have k1 := h1
  have lt1 : ∀ x ∈ p1, x.block < W.heap.size := by obtain ⟨m, hm⟩ := k1; exact DataW.trod_lt m _ _ _ hm
  obtain ⟨y1, hy1, w1⟩ := opnArg_ok (tab := tabs.ty) (P := Tryd.prog) (t := 59) (i := ⟨false, [.sl (.pair (.int .i64) (.pair .bool (.pair .bool (.pair (.sl (.int .i64)) (.pair (.int .i64) (.pair (.int .i64) (.pair (.int .i64) (.pair (.int .i64) (.pair .str .unit)))))))))], [], 24⟩) (by kernel_rfl) (hval 1 59 v1 rfl rfl) h1
  clear hA0 hval0
  refine (walk P W hGL v0 y0 v1 y1 hy0 w0 hy1 w1).mono fun e W' ⟨he, bel⟩ => ?_
  subst he
  exact ⟨_, rfl, _, _, _, [], _, [], hW', trodAll_mk1 (shut_bool Tryd.underlying4 _), (trodAll_cons_mk (Below.trod laidOut (by kernel_rfl) (of_decide_eq_true (by kernel_rfl)) k0 bel lt0) (trodAll_cons_mk (Below.trod laidOut (by kernel_rfl) (of_decide_eq_true (by kernel_rfl)) k1 bel lt1) trodAll_mk0)), rfl, bel.frame _, fun h => by cases h⟩
theorem over (P : PureFnExactRowOk) : Rows.fnExactRowOkRow.holds Tryd.pinned (OpenSpec.ofChange Rows.fnExactRowOkSpec) :=
  OpenClaim.holds_of_wide 7 Tryd.f7 rfl rfl rfl rfl rfl rfl rfl ⟨rfl, rfl, rfl, rfl, rfl⟩ rfl rfl rfl rfl rfl (by kernel_rfl) Tryd.func7 (by kernel_rfl)
    (of_decide_eq_true (by kernel_rfl)) (by unfold Func.isWrapper; first | (rw [if_pos (by decide +kernel)]; kernel_rfl) | (rw [if_neg (by decide +kernel)]; exact ⟨rfl, rfl⟩))
    (fun os started H enc _ => lifted P os started H enc)
/-- THE TIED CARD. -/
theorem card (P : PureFnExactRowOk) : Rows.FnExactRowOkCardSaid :=
  Claim7.holds_tied_plain_at .later [] [.data, .data, .data] true (true, "563b5e6d694f191b2630abb03d6c1c0d6a5e29ecd58e30ba89bfa7a53d7e94d0") true
    (over P) (fun _ h => by cases h) (by kernel_rfl) (fun _ h => by cases h) fnExactRowOk_row_tie rfl ⟨rfl, rfl⟩ (by kernel_rfl) rfl
    (fun f fn hf hfn => by
      obtain rfl : f = 7 := Option.some.inj ((show Tryd.prog.funcNamed "loop.example/jetton/laws.FnExactRowOk" = some 7 by kernel_rfl).symm.trans hf) |>.symm
      obtain rfl : fn = Tryd.f7 := (Option.some.inj (Tryd.func7.symm.trans hfn)).symm
      exact ⟨by kernel_rfl, fun j t ht => by
        rw [Tryd.params7] at ht
        have hm : t ∈ [58, 59] := by simpa using Array.mem_of_getElem? ht
        have hall : ([58, 59].all fun u => !Tryd.prog.wantsStandIn u) = true := by kernel_rfl
        exact (show Tryd.prog.wantsStandIn t = false by simpa using List.all_eq_true.1 hall t hm)⟩)
    (by kernel_rfl)
end Go.Proofs.YthpgglegdhjihaaDoor.fnExactRowOk
end

section
/-! Rf, limbs: noughts at the end; which is greater. -/
set_option autoImplicit false
namespace Go.Proofs.YthpgglegdhjihaaDoor.R
open Go.Rf

theorem digs_len_le {n : Nat} {m : Nat} (h : n < 10000 ^ m) : (digs n).length ≤ m := by
  induction m generalizing n with
  | zero =>
    have : n = 0 := by simp at h; omega
    rw [this, digs_zero]
    simp
  | succ m ih =>
    by_cases h0 : n = 0
    · rw [h0, digs_zero]
      simp
    · rw [digs_pos h0, List.length_cons]
      have := ih (n := n / 10000) (by rw [Nat.pow_succ] at h; omega)
      omega
section
variable {a b : List Int} {A B : Nat}
theorem clamp_neg {D : Int} (h : D < 0) : (if (if D < 1 then D else 1) > -1 then (if D < 1 then D else 1) else -1) = -1 := by
  rw [if_pos (show D < 1 by omega), if_neg (by omega)]
theorem clamp_pos {D : Int} (h : 0 < D) : (if (if D < 1 then D else 1) > -1 then (if D < 1 then D else 1) else -1) = 1 := by
  rw [if_neg (show ¬ D < 1 by omega), if_pos (by omega)]
end
end Go.Proofs.YthpgglegdhjihaaDoor.R
end

section
/-! Rf, decimals: figures; what is in order. -/
set_option autoImplicit false
set_option linter.unusedSimpArgs false
namespace Go.Proofs.YthpgglegdhjihaaDoor.R
open Go.Rf
theorem toIntS_ev (l : List Int) (h : l.length ≤ 1048576) : Ev (fun k => F93 k l) ((l, ()), ((), ())) := by
  refine Ev.step 2 (fun k => F93_eq k l) ?_
  have c : (decide (0 ≤ (l.length : Int)) && decide ((l.length : Int) ≤ (l.length : Int)) && decide ((l.length : Int) ≤ (17592186044416 : Int))) = true := by simp; omega
  simp only [c, if_true]
  have := copy_loop (L := fun k x3 i => F93c3 k l x3 i) (x0 := l) (g := fun _ y => some y) (f := id) (fin := fun x => ((x, ()), ((), ()))) (h := id) (by omega) (fun k x3 i => F93c3_eq k l x3 i) (fun y _ => Ev.now y)
    (List.replicate (l.length : Int).toNat (0 : Int)) (by simp)
  simpa using this
theorem eqIntS_ev (l : List Int) (h : l.length ≤ 1048576) : Ev (fun k => F96 k l l) ((true, ()), ((), (), ())) := by
  refine Ev.step 2 (fun k => F96_eq k l l) ?_
  simp only [bne_self_eq_false, Bool.false_eq_true, if_false]
  exact same_loop (L := fun k i => F96c4 k l l i) (x0 := l) (g := fun _ y1 y2 => some (y1 == y2)) (p := id) (no := ((false, ()), ((), (), ()))) (h := fun _ => true) (by omega) (fun k i => F96c4_eq k l l i) (fun y _ => by
    simp only [beq_self_eq_true]
    exact ⟨Ev.now _, rfl⟩)
theorem szIntS_ev (l : List Int) (hlen : l.length ≤ 9223372036854775807) (b : Int) (h0 : 0 ≤ b) (hb : b ≤ 1048576) : ∃ r, Ev (fun k => F90 k l b) r ∧ (r.1.1 < 0 ∨ (0 ≤ r.1.1 ∧ r.1.1 ≤ b ∧ l.length ≤ 1048576)) := by
  have st : ∀ {r}, Ev (fun _ => if decide (IntKind.i64.wrap (b - (l.length : Int)) < (0 : Int)) = true then some (((-1 : Int), ()), ((), (), ())) else some (((IntKind.i64.wrap (b - (l.length : Int))), ()), ((), (), ()))) r → Ev (fun k => F90 k l b) r := fun h => Ev.step 2 (fun k => F90_eq k l b) h
  rw [wrap64 (by omega) (by omega)] at st
  by_cases hn : b - (l.length : Int) < 0
  · refine ⟨(((-1 : Int), ()), ((), (), ())), st ?_, .inl (by decide : (-1 : Int) < 0)⟩
    simp only [hn, decide_true, if_true]
    exact Ev.now _
  · refine ⟨(((b - (l.length : Int)), ()), ((), (), ())), st ?_, .inr ?_⟩
    · have : decide (b - (l.length : Int) < 0) = false := by simp; omega
      simp only [this, Bool.false_eq_true, if_false]
      exact Ev.now _
    · exact ⟨by show 0 ≤ b - (l.length : Int); omega, by show b - (l.length : Int) ≤ b; omega, by omega⟩
theorem l1In_ev (n lo hi : Int) : Ev (fun k => F64 k n lo hi) ((within n lo hi, ()), ((), (), (), ())) := by
  refine Ev.step 2 (fun k => F64_eq k n lo hi) ?_
  unfold within
  cases decide (n ≥ lo) with
  | true => exact Ev.now _
  | false => exact Ev.now _
theorem in_ev (n lo hi : Int) : Ev (fun k => F40 k n lo hi) ((within n lo hi, ()), ((), (), (), ())) := by
  refine Ev.step 2 (fun k => F40_eq k n lo hi) ?_
  unfold within
  cases decide (n ≥ lo) with
  | true => exact Ev.now _
  | false => exact Ev.now _
/-! ### figures -/
theorem l1Dec_ev : ∀ n : Nat, n ≤ 1000000000000000000 → Ev (fun k => F85 k (n : Int)) ((⟨(Lib.decDigits n).toArray⟩, ()), ((), ())) := by
  intro n
  induction n using Nat.strongRecOn with
  | _ n ih =>
    intro hn
    have c1 : decide ((n : Int) < (-9223372036854775807 : Int)) = false := decide_eq_false (by omega)
    have c2 : decide ((n : Int) < 0) = false := decide_eq_false (by omega)
    refine Ev.step 2 (fun k => F85_eq k n) ?_
    simp only [c1, c2, Bool.false_eq_true, if_false]
    by_cases h : n < 10
    · have c3 : decide ((n : Int) < 10) = true := decide_eq_true (by omega)
      rw [Lib.decDigits, dif_pos h]
      simp only [c3, if_true, bytesOf_digit h]
      exact Ev.now _
    · have c3 : decide ((n : Int) < 10) = false := decide_eq_false (by omega)
      have e1 : IntKind.i64.wrap ((n : Int).tdiv 10) = ((n / 10 : Nat) : Int) := by
        rw [Int.tdiv_eq_ediv_of_nonneg (by omega), wrap64 (by omega) (by omega)]
        omega
      have e2 : (n : Int).tmod 10 = ((n % 10 : Nat) : Int) := by
        rw [Int.tmod_eq_emod_of_nonneg (by omega)]
        omega
      have hl := decDigits_len 18 (n / 10) (by omega)
      rw [Lib.decDigits, dif_neg h]
      simp only [c3, Bool.false_eq_true, if_false, e1, e2, bytesOf_digit (show n % 10 < 10 by omega)]
      refine Ev.bind (ih (n / 10) (by omega) (by omega)) ?_
      have hb : Nat.ble ((Lib.decDigits (n / 10)).length + [UInt8.ofNat (48 + n % 10)].length) 9223372036854775807 = true := Nat.ble_eq_true_of_le (by simp; omega)
      simp only [bytes_size, hb, if_true, bytes_append]
      exact Ev.now _
theorem l1Wide_ev {d : Int} (h : 0 ≤ d ∧ d ≤ 9999) : Ev (fun k => F113 k d 4) ((⟨(fig4 d).toArray⟩, ()), ((), (), ())) := by
  obtain ⟨n, rfl⟩ : ∃ n : Nat, d = (n : Int) := ⟨d.toNat, by omega⟩
  have hl := itoa_len4 h
  refine Ev.step 2 (fun k => F113_eq k _ _) (Ev.bind (l1Dec_ev n (by omega)) ?_)
  have key : ∀ (m : Nat) (x : List UInt8), x.length + m = 4 ∨ (m = 0 ∧ 4 ≤ x.length) → Ev (fun k => F113c2 k 4 ⟨x.toArray⟩) ((⟨(Lib.repeatL [48] m ++ x).toArray⟩, ()), ((), (), ())) := by
    intro m
    induction m with
    | zero =>
      intro x hx
      have c : decide ((x.length : Int) < 4) = false := decide_eq_false (by omega)
      refine Ev.step 1 (fun k => F113c2_eq k _ _) ?_
      simp only [bytes_size, c, Bool.false_eq_true, if_false]
      exact Ev.now _
    | succ m ih =>
      intro x hx
      have c : decide ((x.length : Int) < 4) = true := decide_eq_true (by omega)
      have hb : Nat.ble ([(48 : UInt8)].length + x.length) 9223372036854775807 = true := Nat.ble_eq_true_of_le (by simp; omega)
      refine Ev.step 1 (fun k => F113c2_eq k _ _) ?_
      have e : (⟨#[48]⟩ : ByteArray) = ⟨[(48 : UInt8)].toArray⟩ := rfl
      simp only [e, bytes_size, c, if_true, hb, bytes_append]
      have := ih ([48] ++ x) (by simp; omega)
      have e2 : Lib.repeatL [48] m ++ ([48] ++ x) = Lib.repeatL [48] (m + 1) ++ x := by
        rw [Lib.repeatL_add, Lib.repeatL_one, List.append_assoc]
      rw [e2] at this
      exact this
  have := key (4 - (Lib.itoa (n : Int)).length) (Lib.decDigits n) (by rw [itoa_nat] at hl ⊢; omega)
  unfold fig4
  rw [itoa_nat] at this ⊢
  exact this
theorem l1Figures_ev {l : List Int} (hr : InR l) (hl : l.length ≤ 1000000) : Ev (fun k => F97 k l) ((textL l, ()), ((), ())) := by
  refine Ev.step 2 (fun k => F97_eq k l) ?_
  rcases Nat.eq_zero_or_pos l.length with h0 | h0
  · obtain rfl := List.eq_nil_of_length_eq_zero h0
    exact Ev.now _
  · obtain ⟨n, hn⟩ : ∃ n, l.length = n + 1 := ⟨l.length - 1, by omega⟩
    have c : ((l.length : Int) == 0) = false := len0_false h0
    have hlt : n < l.length := by omega
    have rn := hr.at hlt
    obtain ⟨d, hd⟩ : ∃ d : Nat, l.getD n 0 = (d : Int) := ⟨(l.getD n 0).toNat, by omega⟩
    simp only [c, Bool.false_eq_true, if_false, pred_len hn (by omega), ge0, if_true, Int.toNat_natCast, getI_of hlt, Option.bind_some, hd]
    refine Ev.bind (l1Dec_ev d (by omega)) ?_
    have w : IntKind.i64.wrap ((l.length : Int) - 2) = (n : Int) - 1 := by rw [wrap64 (by omega) (by omega)]; omega
    rw [w, textL_pos (by intro e; subst e; simp at h0)]
    have key : ∀ m, m ≤ n → Ev (fun k => F97c5 k l ⟨(figs (l.drop m)).toArray⟩ ((m : Int) - 1)) ((⟨(figs l).toArray⟩, ()), ((), ())) := by
      intro m
      induction m with
      | zero =>
        intro _
        exact Ev.step 1 (fun k => F97c5_eq k _ _ _) (Ev.now _)
      | succ m ih =>
        intro hm
        have e : ((m + 1 : Nat) : Int) - 1 = (m : Int) := by omega
        have hge : decide ((m : Int) ≥ 0) = true := by simp
        have hml : m < l.length := by omega
        have h1 := figs_len (l := l.drop (m + 1)) (fun d hd => hr d (List.mem_of_mem_drop hd))
        have h2 := fig4_len (hr.at hml)
        have hb : Nat.ble ((figs (l.drop (m + 1))).length + (fig4 (l.getD m 0)).length) 9223372036854775807 = true := Nat.ble_eq_true_of_le (by rw [List.length_drop] at h1; omega)
        rw [e]
        refine Ev.step 1 (fun k => F97c5_eq k _ _ _) ?_
        simp only [hge, if_true, ge0, Int.toNat_natCast, getI_of hml, Option.bind_some]
        refine Ev.bind (l1Wide_ev (hr.at hml)) ?_
        simp only [bytes_size, hb, if_true, bytes_append, ← figs_drop (show m + 1 < l.length by omega)]
        rw [wrap64 (by omega) (by omega)]
        exact ih (by omega)
    have := key n (Nat.le_refl _)
    rw [figs_last hn, hd, itoa_nat] at this
    exact this
theorem l1Long_ev {l : List Int} (hr : InR l) (hl : l.length ≤ 1000000) : Ev (fun k => F73 k l) ((long l, ()), ((), ())) := by
  refine Ev.step 2 (fun k => F73_eq k l) ?_
  unfold long
  by_cases h : l.length = 0
  · have c : ((l.length : Int) == 0) = true := by simp [h]
    simp only [c, if_true, h]
    exact Ev.now _
  · have c : ((l.length : Int) == 0) = false := len0_false (Nat.pos_of_ne_zero h)
    simp only [c, h, Bool.false_eq_true, if_false]
    exact Ev.bind (l1Figures_ev hr hl) (Ev.now _)
theorem text_ev {l : List Int} (hr : InR l) (hl : l.length ≤ 1000000) : Ev (fun k => F74 k l) ((textL l, ()), ((), ())) := by
  refine Ev.step 1 (fun k => F74_eq k l) ?_
  have : textR (l, ()) = some ((textL l, ()), ((), ())) := if_pos (limbsOk_of hr hl)
  rw [this]
  exact Ev.now _
theorem digits_ev {l : List Int} (hr : InR l) (hl : l.length ≤ 1000000) : Ev (fun k => F46 k l) ((long l, ()), ((), ())) := by
  refine Ev.step 2 (fun k => F46_eq k l) ?_
  unfold long
  by_cases h : l.length = 0
  · have c : ((l.length : Int) == 0) = true := by simp [h]
    simp only [c, if_true, h]
    exact Ev.now _
  · have c : ((l.length : Int) == 0) = false := len0_false (Nat.pos_of_ne_zero h)
    simp only [c, h, Bool.false_eq_true, if_false]
    exact Ev.bind (text_ev hr hl) (Ev.now _)
/-! ### in order -/
theorem idx_ev (l : List Int) (h : l.length ≤ 1048576) : ∃ r, Ev (fun k => F96112 k l) r ∧ decide (r.1.1 ≥ (0 : Int)) = !rangeOk l := by
  obtain ⟨r, h1, h2⟩ := find_loop (L := fun k i => F96112c2 k l (l.length : Int) i) (n := l.length) (no := fun i => (((i : Int), ()), ((), (), ()))) (yes := (((-1 : Int), ()), ((), (), ()))) (c := fun i => within (l.getD i 0) 0 9999) (fun i hi hc => by
      refine Ev.step 1 (fun k => F96112c2_eq k l _ i) ?_
      simp only [lt_true hi, ge0, if_true, Int.toNat_natCast, getI_of hi, Option.bind_some]
      refine Ev.bind (Ev.step 2 (fun k => F95_eq k _) (Ev.bind (in_ev _ _ _) (Ev.now _))) ?_
      simp only [hc, Bool.not_false, if_true]
      exact Ev.now _) (fun i hi hc r hr => by
      refine Ev.step 1 (fun k => F96112c2_eq k l _ i) ?_
      simp only [lt_true hi, ge0, if_true, Int.toNat_natCast, getI_of hi, Option.bind_some]
      refine Ev.bind (Ev.step 2 (fun k => F95_eq k _) (Ev.bind (in_ev _ _ _) (Ev.now _))) ?_
      simp only [hc, Bool.not_true, Bool.false_eq_true, if_false]
      rw [wrap_succ (by omega)]
      exact hr) (by
      refine Ev.step 1 (fun k => F96112c2_eq k l _ l.length) ?_
      simp only [lt_false (Nat.le_refl l.length), Bool.false_eq_true, if_false]
      exact Ev.now _)
  refine ⟨r, Ev.step 2 (fun k => F96112_eq k l) h1, ?_⟩
  unfold rangeOk
  rcases h2 with ⟨h2, rfl⟩ | ⟨h2, i, _, rfl⟩
  · rw [h2]; rfl
  · rw [h2]; simp
theorem has_ev (l : List Int) (h : l.length ≤ 1048576) : Ev (fun k => F96094 k l) ((!rangeOk l, ()), ((), (), ())) := by
  obtain ⟨r, h1, h2⟩ := idx_ev l h
  refine Ev.step 2 (fun k => F96094_eq k l) (Ev.bind h1 ?_)
  simp only [h2]
  exact Ev.now _
theorem BigOk_ev (neg : Bool) (l : List Int) (h : l.length ≤ 1048576) : Ev (fun k => F71 k neg l) ((bOk neg l, ()), (((), (), ()), ())) := by
  refine Ev.step 2 (fun k => F71_eq k neg l) ?_
  unfold bOk lastOk
  by_cases h16 : l.length ≤ 16
  · have c16 : decide ((l.length : Int) ≤ 16) = true := decide_eq_true (by omega)
    rcases Nat.eq_zero_or_pos l.length with h0 | h0
    · have c0 : ((l.length : Int) == 0) = true := by simp [h0]
      have cg : decide ((l.length : Int) > 0) = false := by simp [h0]
      simp only [c16, h16, c0, cg, h0, decide_true, if_true, Bool.true_and]
      cases neg with
      | true =>
        simp only [Bool.not_true, Bool.false_eq_true, if_false, Bool.and_false]
        exact Ev.now _
      | false =>
        simp only [Bool.not_false, if_true, Bool.and_true]
        refine Ev.bind (has_ev l h) ?_
        simp only [Bool.not_not]
        exact Ev.now _
    · obtain ⟨n, hn⟩ : ∃ n, l.length = n + 1 := ⟨l.length - 1, by omega⟩
      have c0 : ((l.length : Int) == 0) = false := len0_false h0
      have hne : ¬ l.length = 0 := by omega
      have hlt : n < l.length := by omega
      have e : l.length - 1 = n := by omega
      simp only [c16, h16, c0, hne, e, gt_true h0, pred_len hn (by omega), ge0, decide_true, if_true, Bool.true_and, Bool.false_eq_true, if_false, Int.toNat_natCast, getI_of hlt, Option.bind_some]
      cases hz : (l.getD n 0 != 0) with
      | true =>
        simp only [if_true, Bool.and_true]
        refine Ev.bind (has_ev l h) ?_
        simp only [Bool.not_not]
        exact Ev.now _
      | false =>
        simp only [Bool.false_eq_true, if_false, Bool.and_false]
        exact Ev.now _
  · have c16 : decide ((l.length : Int) ≤ 16) = false := decide_eq_false (by omega)
    simp only [c16, h16, decide_false, Bool.false_and, Bool.false_eq_true, if_false]
    exact Ev.now _
theorem l1Ok_ev (neg : Bool) (l : List Int) (h : l.length ≤ 1048576) : Ev (fun k => F92 k neg l) ((bOk neg l, ()), (((), (), ()), ())) := by
  refine Ev.step 2 (fun k => F92_eq k neg l) ?_
  by_cases h16 : l.length ≤ 16
  · have c16 : decide ((l.length : Int) > 16) = false := decide_eq_false (by omega)
    have loop : ∀ {q : Bool}, (l.length = 0 → q = true) → (∀ n, l.length = n + 1 → q = (l.getD n 0 != 0)) → Ev (fun k => F92c4 k neg l 0) ((rangeOk l && q, ()), (((), (), ()), ())) := by
      intro q q0 q1
      have := all_loop' (L := fun k i => F92c4 k neg l i) (n := l.length) (c := fun i => within (l.getD i 0) 0 9999) (no := ((false, ()), (((), (), ()), ()))) (yes := ((q, ()), (((), (), ()), ()))) (fun i hi hc => by
        refine Ev.step 1 (fun k => F92c4_eq k _ _ _) ?_
        simp only [lt_true hi, ge0, if_true, Int.toNat_natCast, getI_of hi, Option.bind_some]
        refine Ev.bind (l1In_ev _ _ _) ?_
        simp only [hc, Bool.not_false, if_true]
        exact Ev.now _) (fun i hi hc r hr => by
        refine Ev.step 1 (fun k => F92c4_eq k _ _ _) ?_
        simp only [lt_true hi, ge0, if_true, Int.toNat_natCast, getI_of hi, Option.bind_some]
        refine Ev.bind (l1In_ev _ _ _) ?_
        simp only [hc, Bool.not_true, Bool.false_eq_true, if_false]
        rw [wrap_succ (by omega)]
        exact hr) (fun _ => by
        refine Ev.step 1 (fun k => F92c4_eq k _ _ _) ?_
        simp only [lt_false (Nat.le_refl l.length), Bool.false_eq_true, if_false]
        rcases Nat.eq_zero_or_pos l.length with h0 | h0
        · have c0 : ((l.length : Int) == 0) = true := by simp [h0]
          simp only [c0, if_true, q0 h0]
          exact Ev.now _
        · obtain ⟨n, hn⟩ : ∃ n, l.length = n + 1 := ⟨l.length - 1, by omega⟩
          have c0 : ((l.length : Int) == 0) = false := len0_false h0
          have hlt : n < l.length := by omega
          simp only [c0, Bool.false_eq_true, if_false, pred_len hn (by omega), ge0, if_true, Int.toNat_natCast, getI_of hlt, Option.bind_some, q1 n hn]
          exact Ev.now _)
      unfold rangeOk
      cases hall : (List.range l.length).all (fun i => within (l.getD i 0) 0 9999) with
      | true =>
        rw [hall] at this
        simpa using this
      | false =>
        rw [hall] at this
        simpa using this
    unfold bOk lastOk
    simp only [c16, h16, decide_true, Bool.true_and, Bool.false_eq_true, if_false]
    by_cases h0 : l.length = 0
    · have c0 : ((l.length : Int) == 0) = true := by simp [h0]
      cases neg with
      | true =>
        simp only [c0, h0, if_true, Bool.not_true, Bool.and_false]
        exact Ev.now _
      | false =>
        have := loop (q := true) (fun _ => rfl) (fun n hn => by omega)
        simpa only [h0, if_true, Bool.not_false, Bool.false_eq_true, if_false] using this
    · have c0 : ((l.length : Int) == 0) = false := len0_false (Nat.pos_of_ne_zero h0)
      have := loop (q := (l.getD (l.length - 1) 0 != 0)) (fun e => absurd e h0) (fun n hn => by rw [hn]; rfl)
      cases neg with
      | true => simpa only [c0, h0, if_true, Bool.false_eq_true, if_false] using this
      | false => simpa only [h0, Bool.false_eq_true, if_false] using this
  · have c16 : decide ((l.length : Int) > 16) = true := decide_eq_true (by omega)
    unfold bOk
    simp only [c16, h16, decide_false, Bool.false_and, if_true]
    exact Ev.now _
end Go.Proofs.YthpgglegdhjihaaDoor.R
end

section
/-! Rf, decimals: compared; the law's helpers. -/
set_option autoImplicit false
namespace Go.Proofs.YthpgglegdhjihaaDoor.R
open Go.Rf
theorem DecOk_ev (neg : Bool) (l : List Int) (s : Int) (h : l.length ≤ 1048576) : Ev (fun k => F37 k neg l s) ((decOk neg l s, ()), (((), (), (), ()), ())) := by
  refine Ev.step 2 (fun k => F37_eq k neg l s) (Ev.bind (BigOk_ev neg l h) ?_)
  unfold decOk
  cases hb : bOk neg l with
  | false => exact Ev.now _
  | true =>
    obtain ⟨h16, hr, _, _⟩ := bOk_of hb
    simp only [if_true, Bool.true_and]
    refine Ev.bind (digits_ev hr (by omega)) ?_
    cases decide (long l ≤ 30) with
    | false => exact Ev.now _
    | true =>
      simp only [if_true, Bool.true_and]
      exact Ev.bind (in_ev _ _ _) (Ev.now _)
theorem l2Ok_ev (neg : Bool) (l : List Int) (s : Int) (h : l.length ≤ 1048576) : Ev (fun k => F66 k neg l s) ((decOk neg l s, ()), (((), (), (), ()), ())) := by
  refine Ev.step 2 (fun k => F66_eq k neg l s) (Ev.bind (l1Ok_ev neg l h) ?_)
  unfold decOk
  cases hb : bOk neg l with
  | false => exact Ev.now _
  | true =>
    obtain ⟨h16, hr, _, _⟩ := bOk_of hb
    simp only [if_true, Bool.true_and]
    refine Ev.bind (l1Long_ev hr (by omega)) ?_
    cases decide (long l ≤ 30) with
    | false => exact Ev.now _
    | true =>
      simp only [if_true, Bool.true_and]
      exact Ev.bind (l1In_ev _ _ _) (Ev.now _)
/-- a decimal in order: its number -/
def num (l : List Int) : Nat := (VI l).toNat
theorem num_spec {l : List Int} (h : InR l) : VI l = (num l : Int) := by
  have := VI_nonneg h
  unfold num
  omega
theorem digs_num {l : List Int} (h : InR l) (t : Trim l) : digs (num l) = l := digs_VI h t
theorem num_pos {neg : Bool} {l : List Int} (h : bOk neg l = true) (hn : neg = true) : 0 < num l := by
  obtain ⟨_, hr, ht, h0⟩ := bOk_of h
  have := VI_pos hr ht (fun e => by have := h0 e; rw [hn] at this; cases this)
  have := num_spec hr
  omega
theorem num_lt {l : List Int} (h : InR l) (hl : l.length ≤ 16) : num l < 10000 ^ 16 := by
  have h1 : VI l < ((10000 ^ l.length : Nat) : Int) := by
    rw [Int.natCast_pow]
    exact VI_lt h
  have h2 := num_spec h
  have h3 : (10000 : Nat) ^ l.length ≤ 10000 ^ 16 := Nat.pow_le_pow_right (by omega) hl
  exact Nat.lt_of_lt_of_le (by omega) h3
theorem at_len {V m : Nat} (hV : V < 10000 ^ 16) (hm : m ≤ 24) : (digs (V * 10 ^ m)).length ≤ 40 := by
  refine digs_len_le ?_
  have h1 : 10 ^ m ≤ 10 ^ 24 := Nat.pow_le_pow_right (by omega) hm
  have h2 : V * 10 ^ m ≤ V * 10 ^ 24 := Nat.mul_le_mul_left V h1
  have h3 : V * 10 ^ 24 < 10000 ^ 16 * 10 ^ 24 := Nat.mul_lt_mul_of_pos_right hV (Nat.pow_pos (by omega))
  have h4 : 10000 ^ 16 * 10 ^ 24 ≤ 10000 ^ 40 := by decide
  omega
/-- a sum with signs -/
def sSum (na : Bool) (A : Nat) (nb : Bool) (B : Nat) : Bool × Nat := if na = nb then (na, A + B) else if B ≤ A then (na, A - B) else (nb, B - A)
theorem cmpI_ge {A B : Nat} : decide (cmpI A B ≥ 0) = decide (B ≤ A) := by
  unfold cmpI
  split
  · rw [decide_eq_false (by omega), decide_eq_false (by omega)]
  · split
    · rw [decide_eq_true (by omega), decide_eq_true (by omega)]
    · rw [decide_eq_true (by omega), decide_eq_true (by omega)]
/-- numbers with signs compared -/
def sCmp (na : Bool) (A : Nat) (nb : Bool) (B : Nat) : Int := if na = nb then if na = true then cmpI B A else cmpI A B else if na = true then -1 else 1
theorem sSum_sCmp {na nb : Bool} {A B : Nat} (ha : na = true → 0 < A) (hb : nb = true → 0 < B) : (if (sSum na A (!nb) B).2 = 0 then 0 else if (sSum na A (!nb) B).1 = true then -1 else 1 : Int) = sCmp na A nb B := by
  unfold sSum sCmp
  cases na with
  | true =>
    have h1 := ha rfl
    cases nb with
    | true =>
      simp only [Bool.not_true, Bool.true_eq_false, if_false, if_true]
      rcases Nat.lt_trichotomy A B with h | h | h
      · rw [if_neg (show ¬ B ≤ A by omega), cmpI_gt h]
        simp only [Bool.false_eq_true, if_false]
        rw [if_neg (by omega)]
      · subst h
        simp [cmpI_eq]
      · rw [if_pos (show B ≤ A by omega), cmpI_lt h]
        simp only [if_true]
        rw [if_neg (by omega)]
    | false =>
      simp only [Bool.not_false, if_true, Bool.true_eq_false, if_false]
      rw [if_neg (by omega)]
  | false =>
    cases nb with
    | true =>
      have h2 := hb rfl
      simp only [Bool.not_true, if_true, Bool.false_eq_true, if_false]
      rw [if_neg (by omega)]
    | false =>
      simp only [Bool.not_false, Bool.false_eq_true, if_false, if_true]
      rcases Nat.lt_trichotomy A B with h | h | h
      · rw [if_neg (show ¬ B ≤ A by omega), cmpI_lt h]
        simp only [if_true]
        rw [if_neg (by omega)]
      · subst h
        simp [cmpI_eq]
      · rw [if_pos (show B ≤ A by omega), cmpI_gt h]
        simp only [Bool.false_eq_true, if_false]
        rw [if_neg (by omega)]
/-- how decimals in order compare -/
def dCmp (n1 : Bool) (l1 : List Int) (s1 : Nat) (n2 : Bool) (l2 : List Int) (s2 : Nat) : Int := sCmp n1 (num l1 * 10 ^ (max s1 s2 - s1)) n2 (num l2 * 10 ^ (max s1 s2 - s2))
section
variable {n1 n2 : Bool} {l1 l2 : List Int} {s1 s2 : Nat}
end
/-! ### the law's helpers -/
theorem toDec_ev (n : Bool) (l : List Int) (s : Int) (h : l.length ≤ 1048576) : Ev (fun k => F35 k n l s) (((n, l, s, ()), ()), (((), (), (), ()), ())) :=
  Ev.step 2 (fun k => F35_eq k n l s) (Ev.bind (Ev.step 2 (fun k => F70_eq k n l) (Ev.bind (toIntS_ev l h) (Ev.now _))) (Ev.now _))
theorem eqDec_ev (n : Bool) (l : List Int) (s : Int) (h : l.length ≤ 1048576) : Ev (fun k => F42 k n l s n l s) ((true, ()), (((), (), (), ()), ((), (), (), ()), ())) := by
  have hb : Ev (fun k => F72 k n l n l) ((true, ()), (((), (), ()), ((), (), ()), ())) := by
    refine Ev.step 2 (fun k => F72_eq k n l n l) ?_
    simp only [beq_self_eq_true, Bool.not_true, Bool.false_eq_true, if_false]
    exact Ev.bind (eqIntS_ev l h) (Ev.now _)
  refine Ev.step 2 (fun k => F42_eq k n l s n l s) (Ev.bind hb ?_)
  simp only [Bool.not_true, Bool.false_eq_true, if_false, bne_self_eq_false]
  exact Ev.now _
theorem szDec_ev (n : Bool) (l : List Int) (s : Int) (hlen : l.length ≤ 9223372036854775807) (b : Int) (h0 : 0 ≤ b) (hb : b ≤ 1048576) : ∃ r, Ev (fun k => F33 k n l s b) r ∧ (r.1.1 < 0 ∨ (0 ≤ r.1.1 ∧ r.1.1 ≤ b ∧ l.length ≤ 1048576)) := by
  obtain ⟨r, h1, h2⟩ := szIntS_ev l hlen b h0 hb
  rcases h2 with h2 | ⟨h2, h3, h4⟩
  · refine ⟨(((-1 : Int), ()), (((), (), (), ()), (), ())), Ev.step 2 (fun k => F33_eq k n l s b) (Ev.bind (Ev.step 2 (fun k => F63_eq k n l b) (Ev.bind h1 (r := (((-1 : Int), ()), (((), (), ()), (), ()))) ?_)) (by
      have c : decide ((-1 : Int) < 0) = true := by decide
      simp only [c, if_true]
      exact Ev.now _)), .inl (by decide : (-1 : Int) < 0)⟩
    simp only [h2, decide_true, if_true]
    exact Ev.now _
  · have hneg : decide (r.1.1 < 0) = false := decide_eq_false (by omega)
    refine ⟨((r.1.1, ()), (((), (), (), ()), (), ())), Ev.step 2 (fun k => F33_eq k n l s b) (Ev.bind (Ev.step 2 (fun k => F63_eq k n l b) (Ev.bind h1 (r := ((r.1.1, ()), (((), (), ()), (), ()))) ?_)) ?_), .inr ⟨h2, h3, h4⟩⟩
    · simp only [hneg, Bool.false_eq_true, if_false]
      exact Ev.now _
    · simp only [hneg, Bool.false_eq_true, if_false]
      exact Ev.now _
end Go.Proofs.YthpgglegdhjihaaDoor.R
end

section
/-! Rf: values in order, types in order. -/
set_option autoImplicit false
set_option linter.unusedSimpArgs false
set_option linter.unusedVariables false
namespace Go.Proofs.YthpgglegdhjihaaDoor.R
open Go.Rf
def bAt (s : ByteArray) (i : Nat) : Int := match s[i]? with
  | some u => (u.toNat : Int)
  | none => 0
theorem byteAt {s : ByteArray} {i : Nat} (h : i < s.size) : ∃ u : UInt8, s[i]? = some u ∧ bAt s i = (u.toNat : Int) := by
  have : s[i]? = some s[i] := getElem?_pos s i h
  exact ⟨s[i], this, by unfold bAt; rw [this]⟩
def figOk (s : ByteArray) : Bool := (List.range s.size).all fun i => within (bAt s i) 32 126
def textOk (s : ByteArray) : Bool := decide ((s.size : Int) ≤ 12) && figOk s
def noText (s : ByteArray) : Bool := s.toList == (⟨#[]⟩ : ByteArray).toList
def decZ (n : Bool) (l : List Int) (s : Int) : Bool := !n && (((l.length : Int) == 0) && (s == 0))
def dayOk (d : Int) : Bool := within d 1 3652059
def spanOk (m d : Int) : Bool := within m (-120000) 120000 && within d (-4000000) 4000000
/-- nothing but what the kind bears -/
def bareOk (k : Int) (y n : Bool) (l : List Int) (s day mo da : Int) (t : ByteArray) : Bool := ((k == 1) || !y) && (((k == 2) || decZ n l s) && (((k == 3) || (day == 0)) && (((k == 4) || ((mo == 0) && (da == 0))) && ((k == 5) || noText t))))
def bodyOk (k : Int) (n : Bool) (l : List Int) (s day mo da : Int) (t : ByteArray) : Bool := if k = 2 then decOk n l s else if k = 3 then dayOk day else if k = 4 then spanOk mo da else if k = 5 then textOk t else true
def vOk (k : Int) (y n : Bool) (l : List Int) (s day mo da : Int) (t : ByteArray) : Bool := within k 0 5 && (bareOk k y n l s day mo da t && bodyOk k n l s day mo da t)
theorem noText_ok {t : ByteArray} (h : noText t = true) : textOk t = true := by
  have h2 : t.data.toList = [] := by
    have h1 := eq_of_beq h
    rw [Lib.toList_data, Lib.toList_data] at h1
    exact h1
  have h3 : t.size = 0 := by
    show t.data.size = 0
    rw [← Array.length_toList, h2]; rfl
  unfold textOk figOk
  rw [h3]
  rfl
section
variable (k0 : Int) (y n : Bool) (l : List Int) (s day mo da : Int) (t : ByteArray)
theorem l4Zero_ev : Ev (fun k => F91 k n l s) ((decZ n l s, ()), (((), (), (), ()), ())) := by
  refine Ev.step 2 (fun k => F91_eq k _ _ _) (Ev.congr (h := fun _ => some ((decZ n l s, ()), (((), (), (), ()), ()))) (fun _ => ?_) (Ev.now _))
  unfold decZ
  cases n <;> cases h : ((l.length : Int) == 0) <;> simp_all
theorem zero_ev : Ev (fun k => F41 k n l s) ((decZ n l s, ()), (((), (), (), ()), ())) := by
  refine Ev.step 2 (fun k => F41_eq k _ _ _) (Ev.congr (h := fun _ => some ((decZ n l s, ()), (((), (), (), ()), ()))) (fun _ => ?_) (Ev.now _))
  unfold decZ
  cases n <;> cases h : ((l.length : Int) == 0) <;> simp_all
theorem isDay_ev : Ev (fun k => F38 k day) ((dayOk day, ()), ((), ())) := Ev.step 2 (fun k => F38_eq k _) (Ev.bind (in_ev day 1 3652059) (Ev.now _))
theorem l3Is_ev : Ev (fun k => F67 k day) ((dayOk day, ()), ((), ())) := Ev.step 2 (fun k => F67_eq k _) (Ev.bind (l1In_ev day 1 3652059) (Ev.now _))
theorem SpanOk_ev : Ev (fun k => F39 k mo da) ((spanOk mo da, ()), (((), (), ()), ())) := by
  refine Ev.step 2 (fun k => F39_eq k _ _) (Ev.bind (in_ev mo _ _) ?_)
  unfold spanOk
  cases within mo (-120000) 120000 with
  | true => exact Ev.bind (in_ev da _ _) (Ev.now _)
  | false => exact Ev.now _
theorem l3SpanOk_ev : Ev (fun k => F68 k mo da) ((spanOk mo da, ()), (((), (), ()), ())) := by
  refine Ev.step 2 (fun k => F68_eq k _ _) (Ev.bind (l1In_ev mo _ _) ?_)
  unfold spanOk
  cases within mo (-120000) 120000 with
  | true => exact Ev.bind (l1In_ev da _ _) (Ev.now _)
  | false => exact Ev.now _
theorem l4Text_ev (hsz : t.size ≤ 9223372036854775807) : Ev (fun k => F69 k t) ((textOk t, ()), ((), ())) := by
  refine Ev.step 2 (fun k => F69_eq k _) ?_
  have h := all_loop (L := fun k i => F69c2 k t i) (n := t.size) (no := ((false, ()), ((), ()))) (yes := ((decide ((t.size : Int) ≤ 12), ()), ((), ()))) (c := fun i => within (bAt t i) 32 126)
    (fun i hi hc => by
      obtain ⟨u, hu, hb⟩ := byteAt hi
      rw [hb] at hc
      refine Ev.step 1 (fun k => F69c2_eq k _ _) ?_
      simp only [lt_true hi, ge0, if_true, Int.toNat_natCast, hu, Option.bind_some]
      unfold within at hc
      by_cases h1 : (u.toNat : Int) < 32
      · simp only [decide_eq_true h1, if_true]; exact Ev.now _
      · have h2 : (u.toNat : Int) > 126 := by
          refine Decidable.by_contra fun h2 => ?_
          rw [decide_eq_true (show (u.toNat : Int) ≥ 32 by omega), decide_eq_true (show (u.toNat : Int) ≤ 126 by omega)] at hc
          cases hc
        simp only [decide_eq_false h1, decide_eq_true h2, Bool.false_eq_true, if_false, if_true]; exact Ev.now _)
    (fun i hi hc r hr => by
      obtain ⟨u, hu, hb⟩ := byteAt hi
      rw [hb] at hc
      unfold within at hc
      rw [Bool.and_eq_true, decide_eq_true_iff, decide_eq_true_iff] at hc
      refine Ev.step 1 (fun k => F69c2_eq k _ _) ?_
      simp only [lt_true hi, ge0, if_true, Int.toNat_natCast, hu, Option.bind_some, decide_eq_false (show ¬ (u.toNat : Int) < 32 by omega), decide_eq_false (show ¬ (u.toNat : Int) > 126 by omega), Bool.false_eq_true, if_false, wrap_succ (show i < 9223372036854775807 by omega)]
      exact hr)
    (by
      refine Ev.step 1 (fun k => F69c2_eq k _ _) ?_
      simp only [lt_false (Nat.le_refl t.size), Bool.false_eq_true, if_false]
      exact Ev.now _)
  have e : (if (List.range t.size).all (fun i => within (bAt t i) 32 126) = true then ((decide ((t.size : Int) ≤ 12), ()), ((), ())) else ((false, ()), ((), ()))) = ((textOk t, ()), ((), ())) := by
    unfold textOk figOk
    cases (List.range t.size).all (fun i => within (bAt t i) 32 126) <;> simp
  rw [e] at h
  exact h
/-- what is left of a value: nothing -/
def restZ (y n : Bool) (l : List Int) (s day mo da : Int) (t : ByteArray) : Bool := !y && (decZ n l s && ((day == 0) && (((mo == 0) && (da == 0)) && noText t)))
theorem okC21 (b : Bool) : Ev (fun k => F11c21 k k0 y n l s day mo da t b) ((b && restZ y n l s day mo da t, ()), (((), (), (), (), (), (), (), (), (), ()), ())) := by
  refine Ev.step 1 (fun k => F11c21_eq k _ _ _ _ _ _ _ _ _ _) ?_
  unfold restZ noText
  cases b with
  | false => simp only [Bool.false_eq_true, if_false, Bool.false_and]; exact Ev.now _
  | true =>
    cases y with
    | true => simp only [Bool.not_true, Bool.false_eq_true, if_false, if_true, Bool.true_and, Bool.false_and]; exact Ev.now _
    | false =>
      simp only [Bool.not_false, if_true, Bool.true_and]
      refine Ev.bind (zero_ev n l s) (Ev.congr (h := fun _ => some ((decZ n l s && ((day == 0) && (((mo == 0) && (da == 0)) && (t.toList == (⟨#[]⟩ : ByteArray).toList))), ()), (((), (), (), (), (), (), (), (), (), ()), ()))) (fun _ => ?_) (Ev.now _))
      cases decZ n l s <;> cases h1 : (day == 0) <;> cases h2 : (mo == 0) <;> cases h3 : (da == 0) <;> simp
theorem okC17 (hsz : t.size ≤ 9000000000000000000) (t3 : ByteArray) : ∀ (m i : Nat) (b : Bool), i + m = t.size → Ev (fun k => F11c17 k k0 y n l s day mo da t k0 y n l s day mo da t3 b (t.size : Int) (i : Int)) (((b && (List.range' i m).all fun i => within (bAt t i) 32 126) && restZ y n l s day mo da t3, ()), (((), (), (), (), (), (), (), (), (), ()), ())) := by
  intro m
  induction m with
  | zero =>
    intro i b hi
    refine Ev.step 1 (fun k => F11c17_eq k _ _ _ _ _ _ _ _ _ _ _ _ _ _ _ _ _ _ _ _ _) ?_
    simp only [lt_false (show t.size ≤ i by omega), Bool.false_eq_true, if_false]
    have := okC21 k0 y n l s day mo da t3 b
    simpa using this
  | succ m ih =>
    intro i b hi
    obtain ⟨u, hu, hb⟩ := byteAt (s := t) (i := i) (by omega)
    refine Ev.step 1 (fun k => F11c17_eq k _ _ _ _ _ _ _ _ _ _ _ _ _ _ _ _ _ _ _ _ _) ?_
    rw [List.range'_succ, List.all_cons]
    cases b with
    | false =>
      have := ih (i + 1) false (by omega)
      rw [Bool.false_and] at this ⊢
      simp only [lt_true (show i < t.size by omega), if_true, Bool.false_eq_true, if_false, wrap_succ (show i < 9223372036854775807 by omega)]
      exact this
    | true =>
      have := ih (i + 1) (within (bAt t i) 32 126) (by omega)
      have hlt : u.toNat < 256 := UInt8.toNat_lt u
      simp only [lt_true (show i < t.size by omega), ge0, if_true, Int.toNat_natCast, hu, Option.bind_some, wrap64 (show -9223372036854775808 ≤ ((u.toNat : Nat) : Int) by omega) (by omega), wrap_succ (show i < 9223372036854775807 by omega), Bool.true_and]
      refine Ev.bind (in_ev _ _ _) ?_
      rw [← hb]
      exact this
theorem ValueOk_ev (hl : l.length ≤ 1048576) (ht : t.size ≤ 1048576) : Ev (fun k => F11 k k0 y n l s day mo da t) ((vOk k0 y n l s day mo da t, ()), (((), (), (), (), (), (), (), (), (), ()), ())) := by
  refine Ev.step 2 (fun k => F11_eq k _ _ _ _ _ _ _ _ _) ?_
  by_cases h0 : k0 = 0
  · subst h0
    have := okC21 0 y n l s day mo da t true
    have e : vOk 0 y n l s day mo da t = (true && restZ y n l s day mo da t) := by simp [vOk, within, bareOk, bodyOk, restZ]
    rw [e]
    simp only [beq_self_eq_true, if_true]
    exact this
  by_cases h1 : k0 = 1
  · subst h1
    have := okC21 1 false n l s day mo da t true
    have e : vOk 1 y n l s day mo da t = (true && restZ false n l s day mo da t) := by simp [vOk, within, bareOk, bodyOk, restZ]
    rw [e]
    simp only [show ((1 : Int) == 0) = false from rfl, beq_self_eq_true, Bool.false_eq_true, if_false, if_true]
    exact this
  by_cases h2 : k0 = 2
  · subst h2
    have := okC21 2 y false [] 0 day mo da t (decOk n l s)
    have e : vOk 2 y n l s day mo da t = (decOk n l s && restZ y false [] 0 day mo da t) := by
      simp [vOk, within, bareOk, bodyOk, restZ, decZ, Bool.and_comm, Bool.and_assoc]
    rw [e]
    simp only [show ((2 : Int) == 0) = false from rfl, show ((2 : Int) == 1) = false from rfl, beq_self_eq_true, Bool.false_eq_true, if_false, if_true]
    exact Ev.bind (DecOk_ev n l s hl) this
  by_cases h3 : k0 = 3
  · subst h3
    have := okC21 3 y n l s 0 mo da t (dayOk day)
    have e : vOk 3 y n l s day mo da t = (dayOk day && restZ y n l s 0 mo da t) := by
      simp [vOk, within, bareOk, bodyOk, restZ, Bool.and_comm, Bool.and_assoc, Bool.and_left_comm]
    rw [e]
    simp only [show ((3 : Int) == 0) = false from rfl, show ((3 : Int) == 1) = false from rfl, show ((3 : Int) == 2) = false from rfl, beq_self_eq_true, Bool.false_eq_true, if_false, if_true]
    exact Ev.bind (isDay_ev day) this
  by_cases h4 : k0 = 4
  · subst h4
    have := okC21 4 y n l s day 0 0 t (spanOk mo da)
    have e : vOk 4 y n l s day mo da t = (spanOk mo da && restZ y n l s day 0 0 t) := by
      simp [vOk, within, bareOk, bodyOk, restZ, Bool.and_comm, Bool.and_assoc, Bool.and_left_comm]
    rw [e]
    simp only [show ((4 : Int) == 0) = false from rfl, show ((4 : Int) == 1) = false from rfl, show ((4 : Int) == 2) = false from rfl, show ((4 : Int) == 3) = false from rfl, beq_self_eq_true, Bool.false_eq_true, if_false, if_true]
    exact Ev.bind (SpanOk_ev mo da) this
  by_cases h5 : k0 = 5
  · subst h5
    have := okC17 5 y n l s day mo da t (by omega) ⟨#[]⟩ t.size 0 (decide ((t.size : Int) ≤ 12)) (by omega)
    rw [← List.range_eq_range'] at this
    have e : vOk 5 y n l s day mo da t = ((decide ((t.size : Int) ≤ 12) && (List.range t.size).all fun i => within (bAt t i) 32 126) && restZ y n l s day mo da ⟨#[]⟩) := by
      have hn : noText ⟨#[]⟩ = true := by unfold noText; exact beq_self_eq_true _
      simp only [vOk, bareOk, bodyOk, restZ, hn, textOk, figOk]
      simp [within, Bool.and_comm, Bool.and_assoc, Bool.and_left_comm]
    rw [e]
    simp only [show ((5 : Int) == 0) = false from rfl, show ((5 : Int) == 1) = false from rfl, show ((5 : Int) == 2) = false from rfl, show ((5 : Int) == 3) = false from rfl, show ((5 : Int) == 4) = false from rfl, beq_self_eq_true, Bool.false_eq_true, if_false, if_true]
    exact this
  · have := okC21 k0 y n l s day mo da t false
    have e : vOk k0 y n l s day mo da t = (false && restZ y n l s day mo da t) := by
      have : within k0 0 5 = false := by unfold within; simp; omega
      simp [vOk, this]
    rw [e]
    simp only [beq_eq_false_iff_ne.2 h0, beq_eq_false_iff_ne.2 h1, beq_eq_false_iff_ne.2 h2, beq_eq_false_iff_ne.2 h3, beq_eq_false_iff_ne.2 h4, beq_eq_false_iff_ne.2 h5, Bool.false_eq_true, if_false]
    exact this
theorem bare_ev : Ev (fun k => F65 k k0 y n l s day mo da t) ((bareOk k0 y n l s day mo da t, ()), (((), (), (), (), (), (), (), (), (), ()), ())) := by
  refine Ev.step 2 (fun k => F65_eq k _ _ _ _ _ _ _ _ _) ?_
  have hz := l4Zero_ev n l s
  unfold bareOk noText
  have fin : ∀ {g : Nat → Option ((Bool × Unit) × ((Unit × Unit × Unit × Unit × Unit × Unit × Unit × Unit × Unit × Unit) × Unit))} {v}, (∀ k, g k = some v) → Ev g v := fun h => Ev.congr h (Ev.now _)
  by_cases h1 : k0 = 1
  · subst h1
    simp only [bne_self_eq_false, Bool.false_eq_true, if_false, show ((1 : Int) != 2) = true from rfl, show ((1 : Int) != 4) = true from rfl, if_true, show ((1 : Int) == 3) = false from rfl, show ((1 : Int) == 5) = false from rfl]
    refine Ev.bind hz (fin fun _ => ?_)
    cases decZ n l s <;> by_cases g1 : mo = 0 <;> by_cases g2 : da = 0 <;> by_cases g3 : day = 0 <;> simp [g1, g2, g3]
  by_cases h2 : k0 = 2
  · subst h2
    simp only [bne_self_eq_false, Bool.false_eq_true, if_false, show ((2 : Int) != 1) = true from rfl, show ((2 : Int) != 4) = true from rfl, if_true, show ((2 : Int) == 3) = false from rfl, show ((2 : Int) == 5) = false from rfl]
    refine fin fun _ => ?_
    cases y <;> by_cases g1 : mo = 0 <;> by_cases g2 : da = 0 <;> by_cases g3 : day = 0 <;> simp [g1, g2, g3]
  have e1 : (k0 != 1) = true := bne_iff_ne.2 h1
  have e2 : (k0 != 2) = true := bne_iff_ne.2 h2
  have f1 : (k0 == 1) = false := beq_eq_false_iff_ne.2 h1
  have f2 : (k0 == 2) = false := beq_eq_false_iff_ne.2 h2
  simp only [e1, e2, f1, f2, if_true]
  cases y with
  | true =>
    simp only [if_true]
    refine fin fun _ => ?_
    simp
  | false =>
    simp only [Bool.false_eq_true, if_false]
    refine Ev.bind hz (fin fun _ => ?_)
    by_cases h4 : k0 = 4
    · subst h4
      cases decZ n l s <;> by_cases g1 : mo = 0 <;> by_cases g2 : da = 0 <;> by_cases g3 : day = 0 <;> simp [g1, g2, g3]
    · by_cases h3 : k0 = 3
      · subst h3
        cases decZ n l s <;> by_cases g1 : mo = 0 <;> by_cases g2 : da = 0 <;> by_cases g3 : day = 0 <;> simp [g1, g2, g3]
      · by_cases h5 : k0 = 5
        · subst h5
          cases decZ n l s <;> by_cases g1 : mo = 0 <;> by_cases g2 : da = 0 <;> by_cases g3 : day = 0 <;> simp [g1, g2, g3]
        · cases decZ n l s <;> by_cases g1 : mo = 0 <;> by_cases g2 : da = 0 <;> by_cases g3 : day = 0 <;> simp [g1, g2, g3, h3, h4, h5]
theorem l4Ok_ev (hl : l.length ≤ 1048576) (ht : t.size ≤ 1048576) : Ev (fun k => F34 k k0 y n l s day mo da t) ((vOk k0 y n l s day mo da t, ()), (((), (), (), (), (), (), (), (), (), ()), ())) := by
  refine Ev.step 2 (fun k => F34_eq k _ _ _ _ _ _ _ _ _) (Ev.bind (l1In_ev k0 0 5) ?_)
  unfold vOk
  cases hw : within k0 0 5 with
  | false => simp only [Bool.not_false, if_true, Bool.false_and]; exact Ev.now _
  | true =>
    simp only [Bool.not_true, Bool.false_eq_true, if_false, Bool.true_and]
    refine Ev.bind (bare_ev k0 y n l s day mo da t) ?_
    cases hb : bareOk k0 y n l s day mo da t with
    | false => simp only [Bool.not_false, if_true, Bool.false_and]; exact Ev.now _
    | true =>
      simp only [Bool.not_true, Bool.false_eq_true, if_false, Bool.true_and]
      unfold bodyOk
      by_cases h2 : k0 = 2
      · simp only [h2, beq_self_eq_true, if_true]
        exact Ev.bind (l2Ok_ev n l s hl) (Ev.now _)
      by_cases h3 : k0 = 3
      · simp only [h3, show ((3 : Int) == 2) = false from rfl, show ¬ ((3 : Int) = 2) by decide, beq_self_eq_true, Bool.false_eq_true, if_false, if_true]
        exact Ev.bind (l3Is_ev day) (Ev.now _)
      by_cases h4 : k0 = 4
      · simp only [h4, show ((4 : Int) == 2) = false from rfl, show ((4 : Int) == 3) = false from rfl, show ¬ ((4 : Int) = 2) by decide, show ¬ ((4 : Int) = 3) by decide, beq_self_eq_true, Bool.false_eq_true, if_false, if_true]
        exact Ev.bind (l3SpanOk_ev mo da) (Ev.now _)
      simp only [beq_eq_false_iff_ne.2 h2, beq_eq_false_iff_ne.2 h3, beq_eq_false_iff_ne.2 h4, h2, h3, h4, Bool.false_eq_true, if_false]
      by_cases h5 : k0 = 5
      · simp only [h5, if_true]
        exact Ev.bind (l4Text_ev t (by omega)) (Ev.now _)
      · have hnt : noText t = true := by
          unfold bareOk at hb
          rw [beq_eq_false_iff_ne.2 h5] at hb
          simp only [Bool.and_eq_true, Bool.false_or] at hb
          exact hb.2.2.2.2
        have htx := l4Text_ev t (by omega)
        rw [noText_ok hnt] at htx
        simp only [h5, if_false]
        exact Ev.bind htx (Ev.now _)
end
end Go.Proofs.YthpgglegdhjihaaDoor.R
end

section
/-! Rf: values: what the laws ask of them; values that fit types. -/
set_option autoImplicit false
set_option linter.unusedSimpArgs false
set_option linter.unusedVariables false
namespace Go.Proofs.YthpgglegdhjihaaDoor.R
open Go.Rf
def tOk (k dg sc : Int) : Bool := if k = 2 then within dg 1 30 && (within sc 0 12 && decide (sc ≤ dg)) else within k 1 5 && ((dg == 0) && (sc == 0))
theorem TypeOk_ev (k0 dg sc : Int) : Ev (fun k => F22 k k0 dg sc) ((tOk k0 dg sc, ()), (((), (), (), ()), ())) := by
  refine Ev.step 2 (fun k => F22_eq k _ _ _) ?_
  unfold tOk
  by_cases h2 : k0 = 2
  · simp only [h2, beq_self_eq_true, if_true]
    refine Ev.bind (in_ev dg 1 30) ?_
    cases hw : within dg 1 30 with
    | false => simp only [Bool.false_eq_true, if_false, Bool.false_and]; exact Ev.now _
    | true =>
      simp only [if_true, Bool.true_and]
      have e : within sc 0 (if dg < 12 then dg else 12) = (within sc 0 12 && decide (sc ≤ dg)) := by
        unfold within
        rw [Bool.eq_iff_iff]
        simp only [Bool.and_eq_true, decide_eq_true_iff]
        split <;> omega
      rw [← e]
      exact Ev.bind (in_ev sc 0 _) (Ev.now _)
  · simp only [beq_eq_false_iff_ne.2 h2, h2, Bool.false_eq_true, if_false]
    refine Ev.bind (in_ev k0 1 5) (Ev.congr (h := fun _ => some ((within k0 1 5 && ((dg == 0) && (sc == 0)), ()), (((), (), (), ()), ()))) (fun _ => ?_) (Ev.now _))
    cases within k0 1 5 <;> cases h : (dg == 0) <;> simp
theorem l4TypeOk_ev (k0 dg sc : Int) : Ev (fun k => F44 k k0 dg sc) ((tOk k0 dg sc, ()), (((), (), (), ()), ())) := by
  refine Ev.step 2 (fun k => F44_eq k _ _ _) ?_
  unfold tOk
  by_cases h2 : k0 = 2
  · simp only [h2, beq_self_eq_true, if_true]
    refine Ev.bind (l1In_ev dg 1 30) ?_
    cases hw : within dg 1 30 with
    | false => simp only [Bool.false_eq_true, if_false, Bool.false_and]; exact Ev.now _
    | true =>
      simp only [if_true, Bool.true_and]
      refine Ev.bind (l1In_ev sc 0 12) ?_
      cases within sc 0 12 with
      | false => simp only [Bool.false_eq_true, if_false, Bool.false_and]; exact Ev.now _
      | true => simp only [if_true, Bool.true_and]; exact Ev.now _
  · simp only [beq_eq_false_iff_ne.2 h2, h2, Bool.false_eq_true, if_false]
    refine Ev.bind (l1In_ev k0 1 5) (Ev.congr (h := fun _ => some ((within k0 1 5 && ((dg == 0) && (sc == 0)), ()), (((), (), (), ()), ()))) (fun _ => ?_) (Ev.now _))
    cases within k0 1 5 <;> cases h : (dg == 0) <;> simp
/-- a value in order fits a type in order -/
def fits (k : Int) (l : List Int) (s tk dg sc : Int) : Bool := if k = 0 then true else if k ≠ tk then false else if k ≠ 2 then true else (s == sc) && decide (long l ≤ dg)
section
variable (k0 : Int) (y n : Bool) (l : List Int) (s day mo da : Int) (t : ByteArray) (tk dg sc : Int)
theorem vOk_num (h : vOk k0 y n l s day mo da t = true) (h2 : k0 = 2) : decOk n l s = true := by
  unfold vOk bodyOk at h
  rw [if_pos h2] at h
  simp only [Bool.and_eq_true] at h
  exact h.2.2
theorem l4Fits_ev (h : vOk k0 y n l s day mo da t = true) : Ev (fun k => F45 k k0 y n l s day mo da t tk dg sc) ((fits k0 l s tk dg sc, ()), (((), (), (), (), (), (), (), (), (), ()), ((), (), (), ()), ())) := by
  refine Ev.step 2 (fun k => F45_eq k _ _ _ _ _ _ _ _ _ _ _ _) ?_
  unfold fits
  by_cases h0 : k0 = 0
  · simp only [h0, beq_self_eq_true, if_true]; exact Ev.now _
  · simp only [beq_eq_false_iff_ne.2 h0, h0, Bool.false_eq_true, if_false]
    by_cases hk : k0 = tk
    · subst hk
      simp only [bne_self_eq_false, Bool.false_eq_true, if_false, ne_eq, not_true_eq_false]
      by_cases h2 : k0 = 2
      · obtain ⟨b1, _, _⟩ := decOk_of (vOk_num _ _ _ _ _ _ _ _ _ h h2)
        obtain ⟨h16, hr, _, _⟩ := bOk_of b1
        simp only [h2, bne_self_eq_false, Bool.false_eq_true, if_false, not_true_eq_false]
        by_cases hs : s = sc
        · simp only [hs, beq_self_eq_true, if_true, Bool.true_and]
          exact Ev.bind (l1Long_ev hr (by omega)) (Ev.now _)
        · simp only [beq_eq_false_iff_ne.2 hs, Bool.false_eq_true, if_false, Bool.false_and]
          exact Ev.now _
      · simp only [bne_iff_ne.2 h2, if_true, h2, not_false_eq_true]
        exact Ev.now _
    · simp only [bne_iff_ne.2 hk, if_true, ne_eq, hk, not_false_eq_true]
      exact Ev.now _
/-- does a value fit? -/
def vFits : Bool := vOk k0 y n l s day mo da t && (tOk tk dg sc && fits k0 l s tk dg sc)
theorem ValueFits_sp (hl : l.length ≤ 1048576) (ht : t.size ≤ 1048576) : Ev (fun k => F13 k k0 y n l s day mo da t tk dg sc) ((vFits k0 y n l s day mo da t tk dg sc, ()), (((), (), (), (), (), (), (), (), (), ()), ((), (), (), ()), ())) := by
  refine Ev.step 2 (fun k => F13_eq k _ _ _ _ _ _ _ _ _ _ _ _) (Ev.bind (l4Ok_ev k0 y n l s day mo da t hl ht) ?_)
  unfold vFits
  cases hv : vOk k0 y n l s day mo da t with
  | false => simp only [Bool.false_eq_true, if_false, Bool.false_and]; exact Ev.now _
  | true =>
    simp only [if_true, Bool.true_and]
    refine Ev.bind (l4TypeOk_ev tk dg sc) ?_
    cases tOk tk dg sc with
    | false => simp only [Bool.false_eq_true, if_false, Bool.false_and]; exact Ev.now _
    | true =>
      simp only [if_true, Bool.true_and]
      exact Ev.bind (l4Fits_ev k0 y n l s day mo da t tk dg sc hv) (Ev.now _)
theorem ValueFits_im (hl : l.length ≤ 1048576) (ht : t.size ≤ 1048576) : Ev (fun k => F15 k k0 y n l s day mo da t tk dg sc) ((vFits k0 y n l s day mo da t tk dg sc, ()), (((), (), (), (), (), (), (), (), (), ()), ((), (), (), ()), ())) := by
  refine Ev.step 2 (fun k => F15_eq k _ _ _ _ _ _ _ _ _ _ _ _) (Ev.bind (ValueOk_ev k0 y n l s day mo da t hl ht) ?_)
  unfold vFits
  cases hv : vOk k0 y n l s day mo da t with
  | false => simp only [Bool.not_false, if_true, Bool.false_and]; exact Ev.now _
  | true =>
    simp only [Bool.not_true, Bool.false_eq_true, if_false, Bool.true_and]
    refine Ev.bind (TypeOk_ev tk dg sc) ?_
    cases tOk tk dg sc with
    | false => simp only [Bool.not_false, if_true, Bool.false_and]; exact Ev.now _
    | true =>
      simp only [Bool.not_true, Bool.false_eq_true, if_false, Bool.true_and]
      unfold fits
      by_cases h0 : k0 = 0
      · subst h0
        simp only [bne_self_eq_false, Bool.false_eq_true, if_false, show ((0 : Int) != 2) = true from rfl, if_true]
        exact Ev.now _
      · simp only [bne_iff_ne.2 h0, if_true, h0, if_false]
        by_cases hk : k0 = tk
        · subst hk
          simp only [bne_self_eq_false, Bool.false_eq_true, if_false, ne_eq, not_true_eq_false]
          by_cases h2 : k0 = 2
          · obtain ⟨b1, _, _⟩ := decOk_of (vOk_num _ _ _ _ _ _ _ _ _ hv h2)
            obtain ⟨h16, hr, _, _⟩ := bOk_of b1
            simp only [h2, bne_self_eq_false, Bool.false_eq_true, if_false, not_true_eq_false]
            by_cases hs : s = sc
            · simp only [hs, beq_self_eq_true, if_true, Bool.true_and]
              exact Ev.bind (digits_ev hr (by omega)) (Ev.now _)
            · simp only [beq_eq_false_iff_ne.2 hs, Bool.false_eq_true, if_false, Bool.false_and]
              exact Ev.now _
          · simp only [bne_iff_ne.2 h2, if_true, h2, not_false_eq_true]
            exact Ev.now _
        · simp only [bne_iff_ne.2 hk, if_true, ne_eq, hk, not_false_eq_true]
          exact Ev.now _
/-! ### the laws' helpers -/
theorem toValue_ev (hl : l.length ≤ 1048576) : Ev (fun k => F10 k k0 y n l s day mo da t) (((k0, y, n, l, s, day, mo, da, t, ()), ()), (((), (), (), (), (), (), (), (), (), ()), ())) :=
  Ev.step 2 (fun k => F10_eq k _ _ _ _ _ _ _ _ _) (Ev.bind (toDec_ev n l s hl) (Ev.bind (Ev.step 2 (fun k => F36_eq k _ _) (Ev.now _)) (Ev.now _)))
theorem eqValue_ev (hl : l.length ≤ 1048576) : Ev (fun k => F12 k k0 y n l s day mo da t k0 y n l s day mo da t) ((true, ()), (((), (), (), (), (), (), (), (), (), ()), ((), (), (), (), (), (), (), (), (), ()), ())) := by
  have hsp : Ev (fun k => F43 k mo da mo da) ((true, ()), (((), (), ()), ((), (), ()), ())) := by
    refine Ev.step 2 (fun k => F43_eq k _ _ _ _) ?_
    simp only [bne_self_eq_false, Bool.false_eq_true, if_false]
    exact Ev.now _
  refine Ev.step 2 (fun k => F12_eq k _ _ _ _ _ _ _ _ _ _ _ _ _ _ _ _ _ _) ?_
  simp only [bne_self_eq_false, beq_self_eq_true, Bool.not_true, Bool.false_eq_true, if_false]
  refine Ev.bind (eqDec_ev n l s hl) ?_
  simp only [Bool.not_true, Bool.false_eq_true, if_false]
  refine Ev.bind hsp ?_
  simp only [Bool.not_true, Bool.false_eq_true, if_false]
  exact Ev.now _
theorem szValue_ev (hlen : l.length ≤ 9223372036854775807) (htl : t.size ≤ 9223372036854775807) (b : Int) (h0 : 0 ≤ b) (hb : b ≤ 1048576) : ∃ r, Ev (fun k => F8 k k0 y n l s day mo da t b) r ∧ (r.1.1 < 0 ∨ (0 ≤ r.1.1 ∧ r.1.1 ≤ b ∧ l.length ≤ 1048576 ∧ t.size ≤ 1048576)) := by
  obtain ⟨q, g1, g2⟩ := szDec_ev n l s hlen b h0 hb
  rcases g2 with g2 | ⟨g2, g3, g4⟩
  · refine ⟨(((-1 : Int), ()), (((), (), (), (), (), (), (), (), (), ()), (), ())), Ev.step 2 (fun k => F8_eq k _ _ _ _ _ _ _ _ _ _) (Ev.bind g1 ?_), .inl (by show (-1 : Int) < 0; omega)⟩
    simp only [g2, decide_true, if_true]
    exact Ev.now _
  · have e : IntKind.i64.wrap (q.1.1 - (t.size : Int)) = q.1.1 - (t.size : Int) := wrap64 (by omega) (by omega)
    by_cases hn : q.1.1 - (t.size : Int) < 0
    · refine ⟨(((-1 : Int), ()), (((), (), (), (), (), (), (), (), (), ()), (), ())), Ev.step 2 (fun k => F8_eq k _ _ _ _ _ _ _ _ _ _) (Ev.bind g1 ?_), .inl (by show (-1 : Int) < 0; omega)⟩
      simp only [decide_eq_false (show ¬ q.1.1 < 0 by omega), Bool.false_eq_true, if_false, e, decide_eq_true hn, if_true]
      exact Ev.now _
    · refine ⟨((q.1.1 - (t.size : Int), ()), (((), (), (), (), (), (), (), (), (), ()), (), ())), Ev.step 2 (fun k => F8_eq k _ _ _ _ _ _ _ _ _ _) (Ev.bind g1 ?_), .inr ⟨by show 0 ≤ q.1.1 - (t.size : Int); omega, by show q.1.1 - (t.size : Int) ≤ b; omega, g4, by omega⟩⟩
      simp only [decide_eq_false (show ¬ q.1.1 < 0 by omega), Bool.false_eq_true, if_false, e, decide_eq_false hn]
      exact Ev.now _
end
end Go.Proofs.YthpgglegdhjihaaDoor.R
end

section
/-! Rf: rows of values. -/
set_option autoImplicit false
set_option linter.unusedSimpArgs false
set_option linter.unusedVariables false
namespace Go.Proofs.YthpgglegdhjihaaDoor.R
open Go.Rf
abbrev Vl := Int × Bool × Bool × (List Int) × Int × Int × Int × Int × ByteArray × Unit
abbrev Ty := Int × Int × Int × Unit
def vE (v : Vl) : Bool := vOk v.1 v.2.1 v.2.2.1 v.2.2.2.1 v.2.2.2.2.1 v.2.2.2.2.2.1 v.2.2.2.2.2.2.1 v.2.2.2.2.2.2.2.1 v.2.2.2.2.2.2.2.2.1
def tE (t : Ty) : Bool := tOk t.1 t.2.1 t.2.2.1
def fE (v : Vl) (t : Ty) : Bool := fits v.1 v.2.2.2.1 v.2.2.2.2.1 t.1 t.2.1 t.2.2.1
def wE (v : Vl) (t : Ty) : Bool := vFits v.1 v.2.1 v.2.2.1 v.2.2.2.1 v.2.2.2.2.1 v.2.2.2.2.2.1 v.2.2.2.2.2.2.1 v.2.2.2.2.2.2.2.1 v.2.2.2.2.2.2.2.2.1 t.1 t.2.1 t.2.2.1
theorem wE_eq (v : Vl) (t : Ty) : wE v t = (vE v && (tE t && fE v t)) := rfl
def szOk (v : Vl) : Prop := v.2.2.2.1.length ≤ 1048576 ∧ v.2.2.2.2.2.2.2.2.1.size ≤ 1048576
def v0 : Vl := (0, false, false, [], 0, 0, 0, 0, ByteArray.empty, ())
def t0 : Ty := (0, 0, 0, ())
theorem atD {α : Type} {l : List α} {d : α} {i : Nat} (h : i < l.length) : l[i]? = some (l.getD i d) := by
  rw [List.getD_eq_getElem?_getD, List.getElem?_eq_getElem h]; rfl
theorem szD {vs : List Vl} (h : ∀ v ∈ vs, szOk v) {i : Nat} (hi : i < vs.length) : szOk (vs.getD i v0) := h _ (List.mem_of_getElem? (atD hi))
theorem szValueS_ev (vs : List Vl) (hw : wfT (.sl (.pair (.int .i64) (.pair .bool (.pair .bool (.pair (.sl (.int .i64)) (.pair (.int .i64) (.pair (.int .i64) (.pair (.int .i64) (.pair (.int .i64) (.pair .str .unit)))))))))) vs) (b : Int) (h0 : 0 ≤ b) (hb : b ≤ 1048576) :
    ∃ r, Ev (fun k => F26 k vs b) r ∧ (r.1.1 < 0 ∨ (0 ≤ r.1.1 ∧ r.1.1 ≤ b ∧ vs.length ≤ 1048576 ∧ ∀ v ∈ vs, szOk v)) := by
  have hlen : vs.length ≤ 9223372036854775807 := hw.1
  have e : IntKind.i64.wrap (b - (vs.length : Int)) = b - (vs.length : Int) := wrap64 (by omega) (by omega)
  by_cases hn : b - (vs.length : Int) < 0
  · refine ⟨(((-1 : Int), ()), ((), (), ())), Ev.step 2 (fun k => F26_eq k _ _) ?_, .inl (by show (-1 : Int) < 0; omega)⟩
    simp only [e, decide_eq_true hn, if_true]
    exact Ev.now _
  · obtain ⟨r, h1, h2⟩ := size_loop (L := fun k x i => F26c5 k vs x i) (x0 := vs) (g := fun k (v : Vl) x => F8 k v.1 v.2.1 v.2.2.1 v.2.2.2.1 v.2.2.2.2.1 v.2.2.2.2.2.1 v.2.2.2.2.2.2.1 v.2.2.2.2.2.2.2.1 v.2.2.2.2.2.2.2.2.1 x) (p := fun r => r.1.1) (no := (((-1 : Int), ()), ((), (), ()))) (fin := fun x => ((x, ()), ((), (), ()))) (Q := szOk) hlen (B := 1048576)
      (fun k x i => F26c5_eq k _ _ _) (fun v hv x hx0 hxB => by
        have hwv := hw.2 v hv
        obtain ⟨r, h1, h2⟩ := szValue_ev v.1 v.2.1 v.2.2.1 v.2.2.2.1 v.2.2.2.2.1 v.2.2.2.2.2.1 v.2.2.2.2.2.2.1 v.2.2.2.2.2.2.2.1 v.2.2.2.2.2.2.2.2.1 hwv.2.2.2.1.1 hwv.2.2.2.2.2.2.2.2.1 x hx0 hxB
        refine ⟨r, h1, ?_⟩
        rcases h2 with h2 | ⟨h2, h3, h4, h5⟩
        · exact .inl h2
        · exact .inr ⟨h2, h3, h4, h5⟩) (b - vs.length) (by omega) (by omega)
    refine ⟨r, Ev.step 2 (fun k => F26_eq k _ _) ?_, ?_⟩
    · simp only [e, decide_eq_false hn, Bool.false_eq_true, if_false]
      exact h1
    · rcases h2 with rfl | ⟨x, rfl, h3, h4, h5⟩
      · exact .inl (by show (-1 : Int) < 0; omega)
      · exact .inr ⟨h3, by show x ≤ b; omega, by omega, h5⟩
theorem toValueS_ev (vs : List Vl) (hl : vs.length ≤ 1048576) (hs : ∀ v ∈ vs, szOk v) : Ev (fun k => F29 k vs) ((vs, ()), ((), ())) := by
  have h1 := copy_loop (L := fun k x i => F29c3 k vs x i) (x0 := vs) (g := fun k (v : Vl) => F10 k v.1 v.2.1 v.2.2.1 v.2.2.2.1 v.2.2.2.2.1 v.2.2.2.2.2.1 v.2.2.2.2.2.2.1 v.2.2.2.2.2.2.2.1 v.2.2.2.2.2.2.2.2.1) (f := fun r => (r.1.1.1, (r.1.1.2.1, (r.1.1.2.2.1, (r.1.1.2.2.2.1, (r.1.1.2.2.2.2.1, (r.1.1.2.2.2.2.2.1, (r.1.1.2.2.2.2.2.2.1, (r.1.1.2.2.2.2.2.2.2.1, (r.1.1.2.2.2.2.2.2.2.2.1, ())))))))))) (fin := fun x => ((x, ()), ((), ()))) (h := fun v => ((v, ()), (((), (), (), (), (), (), (), (), (), ()), ()))) (by omega)
    (fun k x i => F29c3_eq k _ _ _) (fun v hv => toValue_ev v.1 v.2.1 v.2.2.1 v.2.2.2.1 v.2.2.2.2.1 v.2.2.2.2.2.1 v.2.2.2.2.2.2.1 v.2.2.2.2.2.2.2.1 v.2.2.2.2.2.2.2.2.1 (hs v hv).1) (List.replicate vs.length v0) (by simp)
  refine Ev.step 2 (fun k => F29_eq k _) ?_
  simp only [ge0, decide_eq_true (Int.le_refl (vs.length : Int)), decide_eq_true (show (vs.length : Int) ≤ 1466015503701 by omega), Bool.and_self, if_true, Int.toNat_natCast]
  have e : (vs.map fun (v : Vl) => (v.1, (v.2.1, (v.2.2.1, (v.2.2.2.1, (v.2.2.2.2.1, (v.2.2.2.2.2.1, (v.2.2.2.2.2.2.1, (v.2.2.2.2.2.2.2.1, (v.2.2.2.2.2.2.2.2.1, ())))))))))) = vs := by
    conv => rhs; rw [← List.map_id vs]
    rfl
  have h1 : Ev (fun k => F29c3 k vs (List.replicate vs.length v0) 0) (((vs.map fun (v : Vl) => (v.1, (v.2.1, (v.2.2.1, (v.2.2.2.1, (v.2.2.2.2.1, (v.2.2.2.2.2.1, (v.2.2.2.2.2.2.1, (v.2.2.2.2.2.2.2.1, (v.2.2.2.2.2.2.2.2.1, ())))))))))), ()), ((), ())) := h1
  rw [e] at h1
  exact h1
theorem eqValueS_ev (vs : List Vl) (hl : vs.length ≤ 1048576) (hs : ∀ v ∈ vs, szOk v) : Ev (fun k => F32 k vs vs) ((true, ()), ((), (), ())) := by
  refine Ev.step 2 (fun k => F32_eq k _ _) ?_
  simp only [bne_self_eq_false, Bool.false_eq_true, if_false]
  exact same_loop (L := fun k i => F32c4 k vs vs i) (x0 := vs) (g := fun k (y1 y2 : Vl) => F12 k y1.1 y1.2.1 y1.2.2.1 y1.2.2.2.1 y1.2.2.2.2.1 y1.2.2.2.2.2.1 y1.2.2.2.2.2.2.1 y1.2.2.2.2.2.2.2.1 y1.2.2.2.2.2.2.2.2.1 y2.1 y2.2.1 y2.2.2.1 y2.2.2.2.1 y2.2.2.2.2.1 y2.2.2.2.2.2.1 y2.2.2.2.2.2.2.1 y2.2.2.2.2.2.2.2.1 y2.2.2.2.2.2.2.2.2.1) (p := fun r => r.1.1) (no := ((false, ()), ((), (), ()))) (h := fun _ => ((true, ()), (((), (), (), (), (), (), (), (), (), ()), ((), (), (), (), (), (), (), (), (), ()), ()))) (by omega)
    (fun k i => F32c4_eq k _ _ _) (fun v hv => ⟨eqValue_ev v.1 v.2.1 v.2.2.1 v.2.2.2.1 v.2.2.2.2.1 v.2.2.2.2.2.1 v.2.2.2.2.2.2.1 v.2.2.2.2.2.2.2.1 v.2.2.2.2.2.2.2.2.1 (hs v hv).1, rfl⟩)
end Go.Proofs.YthpgglegdhjihaaDoor.R
end

section
/-! Rf: the law FnExactRowOk, with no machine in sight. -/
set_option autoImplicit false
set_option linter.unusedSimpArgs false
set_option linter.unusedVariables false
namespace Go.Proofs.YthpgglegdhjihaaDoor.R
open Go.Rf
theorem szTypeS_ev (ts : List Ty) (hlen : ts.length ≤ 9223372036854775807) : ∃ r, Ev (fun k => F25 k ts 1048576) r ∧ (r.1.1 < 0 ∨ (0 ≤ r.1.1 ∧ r.1.1 ≤ 1048576 ∧ ts.length ≤ 1048576)) := by
  have e : IntKind.i64.wrap (1048576 - (ts.length : Int)) = 1048576 - (ts.length : Int) := wrap64 (by omega) (by omega)
  by_cases hn : 1048576 - (ts.length : Int) < 0
  · refine ⟨(((-1 : Int), ()), ((), (), ())), Ev.step 2 (fun k => F25_eq k _ _) ?_, .inl (by show (-1 : Int) < 0; omega)⟩
    simp only [e, decide_eq_true hn, if_true]
    exact Ev.now _
  · refine ⟨((1048576 - (ts.length : Int), ()), ((), (), ())), Ev.step 2 (fun k => F25_eq k _ _) ?_, .inr ⟨by show 0 ≤ 1048576 - (ts.length : Int); omega, by show 1048576 - (ts.length : Int) ≤ _; omega, by omega⟩⟩
    simp only [e, decide_eq_false hn, Bool.false_eq_true, if_false]
    exact Ev.now _
theorem toTypeS_ev (ts : List Ty) (hl : ts.length ≤ 1048576) : Ev (fun k => F28 k ts) ((ts, ()), ((), ())) := by
  have h1 := copy_loop (L := fun k x i => F28c3 k ts x i) (x0 := ts) (g := fun k (v : Ty) => F14 k v.1 v.2.1 v.2.2.1) (f := fun r => (r.1.1.1, (r.1.1.2.1, (r.1.1.2.2.1, ())))) (fin := fun x => ((x, ()), ((), ()))) (h := fun v => ((v, ()), (((), (), (), ()), ()))) (by omega)
    (fun k x i => F28c3_eq k _ _ _) (fun v hv => Ev.step 2 (fun k => F14_eq k _ _ _) (Ev.now _)) (List.replicate ts.length t0) (by simp)
  refine Ev.step 2 (fun k => F28_eq k _) ?_
  simp only [ge0, decide_eq_true (Int.le_refl (ts.length : Int)), decide_eq_true (show (ts.length : Int) ≤ 5864062014805 by omega), Bool.and_self, if_true, Int.toNat_natCast]
  have e : (ts.map fun (v : Ty) => (v.1, (v.2.1, (v.2.2.1, ())))) = ts := by
    conv => rhs; rw [← List.map_id ts]
    rfl
  have h1 : Ev (fun k => F28c3 k ts (List.replicate ts.length t0) 0) (((ts.map fun (v : Ty) => (v.1, (v.2.1, (v.2.2.1, ())))), ()), ((), ())) := h1
  rw [e] at h1
  exact h1
theorem eqTypeS_ev (ts : List Ty) (hl : ts.length ≤ 1048576) : Ev (fun k => F31 k ts ts) ((true, ()), ((), (), ())) := by
  refine Ev.step 2 (fun k => F31_eq k _ _) ?_
  simp only [bne_self_eq_false, Bool.false_eq_true, if_false]
  exact same_loop (L := fun k i => F31c4 k ts ts i) (x0 := ts) (g := fun k (y1 y2 : Ty) => F18 k y1.1 y1.2.1 y1.2.2.1 y2.1 y2.2.1 y2.2.2.1) (p := fun r => r.1.1) (no := ((false, ()), ((), (), ()))) (h := fun _ => ((true, ()), (((), (), (), ()), ((), (), (), ()), ()))) (by omega)
    (fun k i => F31c4_eq k _ _ _) (fun v hv => ⟨by
      refine Ev.step 2 (fun k => F18_eq k _ _ _ _ _ _) ?_
      simp only [bne_self_eq_false, Bool.false_eq_true, if_false]
      exact Ev.now _, rfl⟩)
def allT (ts : List Ty) : Bool := (List.range ts.length).all fun i => tE (ts.getD i t0)
def allV (vs : List Vl) : Bool := (List.range vs.length).all fun i => vE (vs.getD i v0)
def allF (ts : List Ty) (vs : List Vl) : Bool := (List.range vs.length).all fun i => fE (vs.getD i v0) (ts.getD i t0)
def allW (ts : List Ty) (vs : List Vl) : Bool := (List.range vs.length).all fun i => wE (vs.getD i v0) (ts.getD i t0)
def rowOk (ts : List Ty) (vs : List Vl) : Bool := within (ts.length : Int) 1 4 && (allT ts && (decide (vs.length = ts.length) && (allV vs && allF ts vs)))
theorem typesOk_ev (ts : List Ty) (hl : ts.length ≤ 1048576) : Ev (fun k => F61 k ts) ((within (ts.length : Int) 1 4 && allT ts, ()), ((), ())) := by
  refine Ev.step 2 (fun k => F61_eq k _) (Ev.bind (in_ev _ _ _) ?_)
  cases within (ts.length : Int) 1 4 with
  | false => simp only [Bool.false_eq_true, if_false, Bool.false_and]; exact Ev.now _
  | true =>
    simp only [if_true, Bool.true_and]
    obtain ⟨r, h1, h2⟩ := find_loop (L := fun k i => F90111c2 k ts (ts.length : Int) i) (n := ts.length) (no := fun i => (((i : Nat) : Int), ()) |> fun x => (x, ((), (), ()))) (yes := (((-1 : Int), ()), ((), (), ()))) (c := fun i => tE (ts.getD i t0))
      (fun i hi hc => by
        refine Ev.step 1 (fun k => F90111c2_eq k _ _ _) ?_
        simp only [lt_true hi, ge0, if_true, Int.toNat_natCast, atD (d := t0) hi, Option.bind_some]
        refine Ev.bind (Ev.step 2 (fun k => F89_eq k _ _ _) (Ev.bind (TypeOk_ev _ _ _) (Ev.now _))) ?_
        have hc : tOk (ts.getD i t0).1 (ts.getD i t0).2.1 (ts.getD i t0).2.2.1 = false := hc
        simp only [hc, Bool.not_false, if_true]
        exact Ev.now _)
      (fun i hi hc r hr => by
        refine Ev.step 1 (fun k => F90111c2_eq k _ _ _) ?_
        simp only [lt_true hi, ge0, if_true, Int.toNat_natCast, atD (d := t0) hi, Option.bind_some]
        refine Ev.bind (Ev.step 2 (fun k => F89_eq k _ _ _) (Ev.bind (TypeOk_ev _ _ _) (Ev.now _))) ?_
        have hc : tOk (ts.getD i t0).1 (ts.getD i t0).2.1 (ts.getD i t0).2.2.1 = true := hc
        simp only [hc, Bool.not_true, Bool.false_eq_true, if_false, wrap_succ (show i < 9223372036854775807 by omega)]
        exact hr)
      (by
        refine Ev.step 1 (fun k => F90111c2_eq k _ _ _) ?_
        simp only [lt_false (Nat.le_refl ts.length), Bool.false_eq_true, if_false]
        exact Ev.now _)
    have hcf : Ev (fun k => F90088 k ts) ((!allT ts, ()), ((), (), ())) := by
      refine Ev.step 2 (fun k => F90088_eq k _) (Ev.bind (Ev.step 2 (fun k => F90111_eq k _) h1) ?_)
      have : decide (r.1.1 ≥ 0) = !allT ts := by
        rcases h2 with ⟨h2, rfl⟩ | ⟨h2, i, _, rfl⟩
        · unfold allT; rw [h2]; rfl
        · unfold allT; rw [h2]; exact decide_eq_true (by show ((i : Nat) : Int) ≥ 0; omega)
      simp only [this]
      exact Ev.now _
    refine Ev.bind hcf ?_
    simp only [Bool.not_not]
    exact Ev.now _
theorem l6TypesOk_ev (ts : List Ty) (hl : ts.length ≤ 1048576) : Ev (fun k => F86 k ts) ((within (ts.length : Int) 1 4 && allT ts, ()), ((), ())) := by
  refine Ev.step 2 (fun k => F86_eq k _) ?_
  have h := all_loop (L := fun k i => F86c2 k ts i) (n := ts.length) (no := ((false, ()), ((), ()))) (yes := ((within (ts.length : Int) 1 4, ()), ((), ()))) (c := fun i => tE (ts.getD i t0))
    (fun i hi hc => by
      refine Ev.step 1 (fun k => F86c2_eq k _ _) ?_
      simp only [lt_true hi, ge0, if_true, Int.toNat_natCast, atD (d := t0) hi, Option.bind_some]
      refine Ev.bind (l4TypeOk_ev _ _ _) ?_
      have hc : tOk (ts.getD i t0).1 (ts.getD i t0).2.1 (ts.getD i t0).2.2.1 = false := hc
      simp only [hc, Bool.not_false, if_true]
      exact Ev.now _)
    (fun i hi hc r hr => by
      refine Ev.step 1 (fun k => F86c2_eq k _ _) ?_
      simp only [lt_true hi, ge0, if_true, Int.toNat_natCast, atD (d := t0) hi, Option.bind_some]
      refine Ev.bind (l4TypeOk_ev _ _ _) ?_
      have hc : tOk (ts.getD i t0).1 (ts.getD i t0).2.1 (ts.getD i t0).2.2.1 = true := hc
      simp only [hc, Bool.not_true, Bool.false_eq_true, if_false, wrap_succ (show i < 9223372036854775807 by omega)]
      exact hr)
    (by
      refine Ev.step 1 (fun k => F86c2_eq k _ _) ?_
      simp only [lt_false (Nat.le_refl ts.length), Bool.false_eq_true, if_false]
      exact Ev.bind (l1In_ev _ _ _) (Ev.now _))
  have e : (if (List.range ts.length).all (fun i => tE (ts.getD i t0)) = true then ((within (ts.length : Int) 1 4, ()), ((), ())) else ((false, ()), ((), ()))) = ((within (ts.length : Int) 1 4 && allT ts, ()), ((), ())) := by
    unfold allT
    cases (List.range ts.length).all (fun i => tE (ts.getD i t0)) <;> simp
  rw [e] at h
  exact h
theorem l5RowOk_ev (vs : List Vl) (hl : vs.length ≤ 1048576) (hs : ∀ v ∈ vs, szOk v) : Ev (fun k => F87 k vs) ((allV vs, ()), ((), ())) := by
  refine Ev.step 2 (fun k => F87_eq k _) ?_
  have h := all_loop (L := fun k i => F87c2 k vs i) (n := vs.length) (no := ((false, ()), ((), ()))) (yes := ((true, ()), ((), ()))) (c := fun i => vE (vs.getD i v0))
    (fun i hi hc => by
      refine Ev.step 1 (fun k => F87c2_eq k _ _) ?_
      simp only [lt_true hi, ge0, if_true, Int.toNat_natCast, atD (d := v0) hi, Option.bind_some]
      refine Ev.bind (l4Ok_ev _ _ _ _ _ _ _ _ _ (szD hs hi).1 (szD hs hi).2) ?_
      have hc : (vE (vs.getD i v0)) = false := hc
      unfold vE at hc
      simp only [hc, Bool.not_false, if_true]
      exact Ev.now _)
    (fun i hi hc r hr => by
      refine Ev.step 1 (fun k => F87c2_eq k _ _) ?_
      simp only [lt_true hi, ge0, if_true, Int.toNat_natCast, atD (d := v0) hi, Option.bind_some]
      refine Ev.bind (l4Ok_ev _ _ _ _ _ _ _ _ _ (szD hs hi).1 (szD hs hi).2) ?_
      have hc : (vE (vs.getD i v0)) = true := hc
      unfold vE at hc
      simp only [hc, Bool.not_true, Bool.false_eq_true, if_false, wrap_succ (show i < 9223372036854775807 by omega)]
      exact hr)
    (by
      refine Ev.step 1 (fun k => F87c2_eq k _ _) ?_
      simp only [lt_false (Nat.le_refl vs.length), Bool.false_eq_true, if_false]
      exact Ev.now _)
  have e : (if (List.range vs.length).all (fun i => vE (vs.getD i v0)) = true then ((true, ()), ((), ())) else ((false, ()), ((), ()))) = ((allV vs, ()), ((), ())) := by
    unfold allV
    cases (List.range vs.length).all (fun i => vE (vs.getD i v0)) <;> simp
  rw [e] at h
  exact h
theorem RowOk_im (ts : List Ty) (vs : List Vl) (hl : ts.length ≤ 1048576) (hv : vs.length ≤ 1048576) (hs : ∀ v ∈ vs, szOk v) : Ev (fun k => F30 k ts vs) ((rowOk ts vs, ()), ((), (), ())) := by
  refine Ev.step 2 (fun k => F30_eq k _ _) (Ev.bind (typesOk_ev ts hl) ?_)
  unfold rowOk
  cases hw : within (ts.length : Int) 1 4 with
  | false => simp only [Bool.false_and, Bool.false_eq_true, if_false]; exact Ev.now _
  | true =>
    cases hT : allT ts with
    | false => simp only [Bool.and_false, Bool.false_and, Bool.false_eq_true, if_false]; exact Ev.now _
    | true =>
      simp only [Bool.and_self, Bool.true_and, if_true]
      have key : Ev (fun k => F16062 k vs ts) ((decide (vs.length = ts.length) && (allV vs && allF ts vs), ()), ((), (), (), ())) := by
        refine Ev.step 2 (fun k => F16062_eq k _ _) ?_
        by_cases hlen : vs.length = ts.length
        · simp only [hlen, bne_self_eq_false, Bool.false_eq_true, if_false, decide_true, Bool.true_and]
          have h := all_loop (L := fun k i => F16062c4 k ts vs (ts.length : Int) i) (n := vs.length) (no := ((false, ()), ((), (), (), ()))) (yes := ((true, ()), ((), (), (), ()))) (c := fun i => wE (vs.getD i v0) (ts.getD i t0))
            (fun i hi hc => by
              refine Ev.step 1 (fun k => F16062c4_eq k _ _ _ _) ?_
              simp only [lt_true (show i < ts.length by omega), ge0, if_true, Int.toNat_natCast, atD (d := v0) hi, atD (d := t0) (show i < ts.length by omega), Option.bind_some]
              refine Ev.bind (ValueFits_im _ _ _ _ _ _ _ _ _ _ _ _ (szD hs hi).1 (szD hs hi).2) ?_
              have hc : wE (vs.getD i v0) (ts.getD i t0) = false := hc
              unfold wE at hc
              simp only [hc, Bool.not_false, if_true]
              exact Ev.now _)
            (fun i hi hc r hr => by
              refine Ev.step 1 (fun k => F16062c4_eq k _ _ _ _) ?_
              simp only [lt_true (show i < ts.length by omega), ge0, if_true, Int.toNat_natCast, atD (d := v0) hi, atD (d := t0) (show i < ts.length by omega), Option.bind_some]
              refine Ev.bind (ValueFits_im _ _ _ _ _ _ _ _ _ _ _ _ (szD hs hi).1 (szD hs hi).2) ?_
              have hc : wE (vs.getD i v0) (ts.getD i t0) = true := hc
              unfold wE at hc
              simp only [hc, Bool.not_true, Bool.false_eq_true, if_false, wrap_succ (show i < 9223372036854775807 by omega)]
              exact hr)
            (by
              refine Ev.step 1 (fun k => F16062c4_eq k _ _ _ _) ?_
              simp only [lt_false (show ts.length ≤ vs.length by omega), Bool.false_eq_true, if_false]
              exact Ev.now _)
          have e : (if (List.range vs.length).all (fun i => wE (vs.getD i v0) (ts.getD i t0)) = true then ((true, ()), ((), (), (), ())) else ((false, ()), ((), (), (), ()))) = ((allV vs && allF ts vs, ()), ((), (), (), ())) := by
            have h2 : (List.range vs.length).all (fun i => wE (vs.getD i v0) (ts.getD i t0)) = (allV vs && allF ts vs) := by
              unfold allV allF
              rw [Bool.eq_iff_iff, Bool.and_eq_true, List.all_eq_true, List.all_eq_true, List.all_eq_true]
              unfold allT at hT
              rw [List.all_eq_true] at hT
              constructor
              · intro h
                refine ⟨fun i hi => ?_, fun i hi => ?_⟩
                · have := h i hi; rw [wE_eq, Bool.and_eq_true] at this; exact this.1
                · have := h i hi; rw [wE_eq, Bool.and_eq_true, Bool.and_eq_true] at this; exact this.2.2
              · rintro ⟨ha, hb⟩ i hi
                rw [wE_eq, ha i hi, hb i hi, hT i (by rw [List.mem_range] at hi ⊢; omega)]
                rfl
            rw [h2]
            cases (allV vs && allF ts vs) <;> simp
          rw [e] at h
          exact h
        · have hne : ((vs.length : Int) != (ts.length : Int)) = true := by rw [bne_iff_ne]; omega
          simp only [hne, if_true, decide_eq_false hlen, Bool.false_and]
          exact Ev.now _
      exact Ev.bind key (Ev.now _)
theorem RowOk_sp (ts : List Ty) (vs : List Vl) (hl : ts.length ≤ 1048576) (hv : vs.length ≤ 1048576) (hs : ∀ v ∈ vs, szOk v) : Ev (fun k => F27 k ts vs) ((rowOk ts vs, ()), ((), (), ())) := by
  have key : Ev (fun k => F60 k ts vs) ((rowOk ts vs, ()), ((), (), ())) := by
    refine Ev.step 2 (fun k => F60_eq k _ _) (Ev.bind (l6TypesOk_ev ts hl) ?_)
    unfold rowOk
    cases hw : (within (ts.length : Int) 1 4 && allT ts) with
    | false =>
      have : (within (ts.length : Int) 1 4 && (allT ts && (decide (vs.length = ts.length) && (allV vs && allF ts vs)))) = false := by rw [← Bool.and_assoc, hw, Bool.false_and]
      rw [this]
      simp only [Bool.not_false, if_true]; exact Ev.now _
    | true =>
      have : (within (ts.length : Int) 1 4 && (allT ts && (decide (vs.length = ts.length) && (allV vs && allF ts vs)))) = (decide (vs.length = ts.length) && (allV vs && allF ts vs)) := by rw [← Bool.and_assoc, hw, Bool.true_and]
      rw [this]
      simp only [Bool.not_true, Bool.false_eq_true, if_false]
      by_cases hlen : vs.length = ts.length
      · simp only [hlen, bne_self_eq_false, Bool.false_eq_true, if_false, decide_true, Bool.true_and]
        refine Ev.bind (l5RowOk_ev vs hv hs) ?_
        cases hV : allV vs with
        | false => simp only [Bool.not_false, if_true, Bool.false_and]; exact Ev.now _
        | true =>
          simp only [Bool.not_true, Bool.false_eq_true, if_false, Bool.true_and]
          have hV' : ∀ i, i < vs.length → vE (vs.getD i v0) = true := fun i hi => by
            unfold allV at hV
            rw [List.all_eq_true] at hV
            exact hV i (List.mem_range.2 hi)
          have h := all_loop (L := fun k i => F60c4 k ts vs i) (n := vs.length) (no := ((false, ()), ((), (), ()))) (yes := ((true, ()), ((), (), ()))) (c := fun i => fE (vs.getD i v0) (ts.getD i t0))
            (fun i hi hc => by
              refine Ev.step 1 (fun k => F60c4_eq k _ _ _) ?_
              simp only [lt_true hi, ge0, if_true, Int.toNat_natCast, atD (d := v0) hi, atD (d := t0) (show i < ts.length by omega), Option.bind_some]
              refine Ev.bind (l4Fits_ev _ _ _ _ _ _ _ _ _ _ _ _ (hV' i hi)) ?_
              have hc : fE (vs.getD i v0) (ts.getD i t0) = false := hc
              unfold fE at hc
              simp only [hc, Bool.not_false, if_true]
              exact Ev.now _)
            (fun i hi hc r hr => by
              refine Ev.step 1 (fun k => F60c4_eq k _ _ _) ?_
              simp only [lt_true hi, ge0, if_true, Int.toNat_natCast, atD (d := v0) hi, atD (d := t0) (show i < ts.length by omega), Option.bind_some]
              refine Ev.bind (l4Fits_ev _ _ _ _ _ _ _ _ _ _ _ _ (hV' i hi)) ?_
              have hc : fE (vs.getD i v0) (ts.getD i t0) = true := hc
              unfold fE at hc
              simp only [hc, Bool.not_true, Bool.false_eq_true, if_false, wrap_succ (show i < 9223372036854775807 by omega)]
              exact hr)
            (by
              refine Ev.step 1 (fun k => F60c4_eq k _ _ _) ?_
              simp only [lt_false (Nat.le_refl vs.length), Bool.false_eq_true, if_false]
              exact Ev.now _)
          have e : (if (List.range vs.length).all (fun i => fE (vs.getD i v0) (ts.getD i t0)) = true then ((true, ()), ((), (), ())) else ((false, ()), ((), (), ()))) = ((allF ts vs, ()), ((), (), ())) := by
            unfold allF
            cases (List.range vs.length).all (fun i => fE (vs.getD i v0) (ts.getD i t0)) <;> simp
          rw [e] at h
          exact h
      · have hne : ((vs.length : Int) != (ts.length : Int)) = true := by rw [bne_iff_ne]; omega
        simp only [hne, if_true, decide_eq_false hlen, Bool.false_and]
        exact Ev.now _
  exact Ev.step 2 (fun k => F27_eq k _ _) (Ev.bind key (Ev.now _))
theorem FnExactRowOk : PureFnExactRowOk := by
  intro ts vs wt wv
  have fin : Ev (fun k => F7 k ts vs) ((true, ()), ((), (), ())) := by
    obtain ⟨r, h1, h2⟩ := szTypeS_ev ts wt.1
    refine Ev.step 2 (fun k => F7_eq k _ _) (Ev.bind h1 ?_)
    rcases h2 with h2 | ⟨h2, h3, h4⟩
    · simp only [h2, decide_true, if_true]
      exact Ev.now _
    · simp only [decide_eq_false (show ¬ r.1.1 < 0 by omega), Bool.false_eq_true, if_false]
      obtain ⟨q, g1, g2⟩ := szValueS_ev vs wv r.1.1 h2 h3
      refine Ev.bind g1 ?_
      rcases g2 with g2 | ⟨g2, _, g4, g5⟩
      · simp only [g2, decide_true, if_true]
        exact Ev.now _
      · simp only [decide_eq_false (show ¬ q.1.1 < 0 by omega), Bool.false_eq_true, if_false]
        have a1 := toTypeS_ev ts h4
        have a2 := toValueS_ev vs g4 g5
        refine Ev.bind a1 (Ev.bind a2 (Ev.bind (RowOk_sp ts vs h4 g4 g5) (Ev.bind a1 (Ev.bind a2 (Ev.bind (RowOk_im ts vs h4 g4 g5) ?_)))))
        simp only [beq_self_eq_true, Bool.not_true, Bool.false_eq_true, if_false]
        refine Ev.bind a1 (Ev.bind (eqTypeS_ev ts h4) ?_)
        simp only [Bool.not_true, Bool.false_eq_true, if_false]
        refine Ev.bind a2 (Ev.bind (eqValueS_ev vs g4 g5) ?_)
        simp only [Bool.not_true, Bool.false_eq_true, if_false]
        exact Ev.now _
  obtain ⟨k, hk⟩ := Ev.get fin
  exact ⟨k, _, hk⟩
end Go.Proofs.YthpgglegdhjihaaDoor.R
end

section
/-- The row, under a short name, for the claim. -/
theorem Go.Proofs.YthpgglegdhjihaaDoor.fnExactRowOk_holds : Go.Proofs.YthpgglegdhjihaaDoor.Rows.FnExactRowOkCardSaid := Go.Proofs.YthpgglegdhjihaaDoor.fnExactRowOk.card Go.Proofs.YthpgglegdhjihaaDoor.R.FnExactRowOk
end
