/- A run of the loaded program over lists, and its soundness (part 2). -/
import Derived.Test.YtldjfonpegffiaaCFnExactTreeGetx1
import Derived.Test.YtldjfonpegffiaaProg
import Derived.KernelRfl
set_option autoImplicit false
/-! Rf: the seat's tables. -/
namespace Go.Proofs.Ytldjfonpegffiaa.R
open Go.Rf
noncomputable def tabs : Tabs where
  ty := [(3, ⟨false, [.int .i64], [], 8⟩),
    (4, ⟨false, [.bool], [], 1⟩),
    (9, ⟨false, [.str], [], 16⟩),
    (27, ⟨false, [.sl .str], [], 24⟩),
    (35, ⟨false, [.sl (.pair .bool (.pair (.sl .str) (.pair (.sl .str) (.pair (.sl (.int .i64)) .unit))))], [], 24⟩),
    (37, ⟨true, [.int .i64, .sl (.pair .bool (.pair (.sl .str) (.pair (.sl .str) (.pair (.sl (.int .i64)) .unit))))], [(0, 1, false), (1, 1, false)], 32⟩),
    (57, ⟨false, [.sl (.pair .bool (.pair (.sl .str) (.pair (.sl .str) (.pair (.sl (.int .i64)) .unit))))], [], 24⟩),
    (59, ⟨true, [.int .i64, .sl (.pair .bool (.pair (.sl .str) (.pair (.sl .str) (.pair (.sl (.int .i64)) .unit))))], [(0, 1, false), (1, 1, false)], 32⟩),
    (81, ⟨false, [.sl (.int .i64)], [], 24⟩),
    (83, ⟨true, [.bool, .sl .str, .sl .str, .sl (.int .i64)], [(0, 1, false), (1, 1, false), (2, 1, false), (3, 1, false)], 80⟩),
    (124, ⟨true, [.bool, .sl .str, .sl .str, .sl (.int .i64)], [(0, 1, false), (1, 1, false), (2, 1, false), (3, 1, false)], 80⟩),
    (125, ⟨false, [.sl .bool], [], 24⟩),
    (131, ⟨true, [.int .i64, .sl (.pair .bool (.pair (.sl .str) (.pair (.sl .str) (.pair (.sl (.int .i64)) .unit)))), .sl .bool, .int .i64], [(0, 2, true), (2, 1, false), (3, 1, false)], 64⟩),
    (161, ⟨false, [.int .u64], [], 8⟩)]
  el := [(27, 9), (35, 83), (57, 124), (81, 3), (125, 4)]
  ifcs := []
  known := [11, 12, 14, 25, 38, 39, 40, 41, 42, 43, 49, 50, 53, 60, 63, 66, 68, 73, 87, 88, 89, 90, 94, 95, 98, 104, 106, 112, 113, 114, 115, 116, 117, 123, 124, 125, 126, 127, 131, 132, 133, 134, 135, 140, 141, 142, 143, 145, 146, 147, 148, 151, 152]
  spec := [(11, ⟨[.agg [.v (.int .i64), .v (.sl (.pair .bool (.pair (.sl .str) (.pair (.sl .str) (.pair (.sl (.int .i64)) .unit)))))]], [.c (.v .bool)]⟩),
    (12, ⟨[.agg [.v (.int .i64), .v (.sl (.pair .bool (.pair (.sl .str) (.pair (.sl .str) (.pair (.sl (.int .i64)) .unit)))))]], [.c (.v .bool)]⟩),
    (14, ⟨[.agg [.v (.int .i64), .v (.sl (.pair .bool (.pair (.sl .str) (.pair (.sl .str) (.pair (.sl (.int .i64)) .unit)))))], .c (.v .str)], [.c (.v .bool)]⟩),
    (25, ⟨[.agg [.v (.int .i64), .v (.sl (.pair .bool (.pair (.sl .str) (.pair (.sl .str) (.pair (.sl (.int .i64)) .unit)))))], .agg [.v (.int .i64), .v (.sl (.pair .bool (.pair (.sl .str) (.pair (.sl .str) (.pair (.sl (.int .i64)) .unit)))))]], [.c (.v .bool)]⟩),
    (38, ⟨[.agg [.v (.int .i64), .v (.sl (.pair .bool (.pair (.sl .str) (.pair (.sl .str) (.pair (.sl (.int .i64)) .unit)))))], .c (.v (.int .i64))], [.c (.v (.int .i64))]⟩),
    (39, ⟨[.agg [.v (.int .i64), .v (.sl (.pair .bool (.pair (.sl .str) (.pair (.sl .str) (.pair (.sl (.int .i64)) .unit)))))]], [.c (.v .bool)]⟩),
    (40, ⟨[.agg [.v (.int .i64), .v (.sl (.pair .bool (.pair (.sl .str) (.pair (.sl .str) (.pair (.sl (.int .i64)) .unit)))))]], [.agg [.v (.int .i64), .v (.sl (.pair .bool (.pair (.sl .str) (.pair (.sl .str) (.pair (.sl (.int .i64)) .unit)))))]]⟩),
    (41, ⟨[.agg [.v (.int .i64), .v (.sl (.pair .bool (.pair (.sl .str) (.pair (.sl .str) (.pair (.sl (.int .i64)) .unit)))))]], [.c (.v .bool)]⟩),
    (42, ⟨[.agg [.v (.int .i64), .v (.sl (.pair .bool (.pair (.sl .str) (.pair (.sl .str) (.pair (.sl (.int .i64)) .unit)))))]], [.c (.v (.int .i64))]⟩),
    (43, ⟨[.agg [.v (.int .i64), .v (.sl (.pair .bool (.pair (.sl .str) (.pair (.sl .str) (.pair (.sl (.int .i64)) .unit)))))]], [.c (.v (.int .i64))]⟩),
    (49, ⟨[.agg [.v (.int .i64), .v (.sl (.pair .bool (.pair (.sl .str) (.pair (.sl .str) (.pair (.sl (.int .i64)) .unit)))))], .c (.v .str)], [.c (.v .str), .c (.v .bool)]⟩),
    (50, ⟨[.agg [.v (.int .i64), .v (.sl (.pair .bool (.pair (.sl .str) (.pair (.sl .str) (.pair (.sl (.int .i64)) .unit)))))], .c (.v .str)], [.c (.v .str), .c (.v .bool)]⟩),
    (53, ⟨[.c (.v (.sl .str)), .c (.v (.sl .str))], [.c (.v .bool)]⟩),
    (60, ⟨[.c (.v (.sl (.pair .bool (.pair (.sl .str) (.pair (.sl .str) (.pair (.sl (.int .i64)) .unit)))))), .c (.v (.sl (.pair .bool (.pair (.sl .str) (.pair (.sl .str) (.pair (.sl (.int .i64)) .unit))))))], [.c (.v .bool)]⟩),
    (63, ⟨[.c (.v (.sl .str)), .c (.v (.int .i64))], [.c (.v (.int .i64))]⟩),
    (66, ⟨[.c (.v (.sl .str))], [.c (.v (.sl .str))]⟩),
    (73, ⟨[.c (.v (.int .i64)), .c (.v (.int .i64)), .c (.v (.int .i64))], [.c (.v .bool)]⟩),
    (87, ⟨[.c (.v (.sl (.pair .bool (.pair (.sl .str) (.pair (.sl .str) (.pair (.sl (.int .i64)) .unit)))))), .c (.v (.int .i64))], [.c (.v (.int .i64))]⟩),
    (88, ⟨[.agg [.v (.int .i64), .v (.sl (.pair .bool (.pair (.sl .str) (.pair (.sl .str) (.pair (.sl (.int .i64)) .unit)))))]], [.c (.v (.int .i64))]⟩),
    (89, ⟨[.c (.v (.sl (.pair .bool (.pair (.sl .str) (.pair (.sl .str) (.pair (.sl (.int .i64)) .unit))))))], [.c (.v (.sl (.pair .bool (.pair (.sl .str) (.pair (.sl .str) (.pair (.sl (.int .i64)) .unit))))))]⟩),
    (90, ⟨[.agg [.v (.int .i64), .v (.sl (.pair .bool (.pair (.sl .str) (.pair (.sl .str) (.pair (.sl (.int .i64)) .unit)))))]], [.c (.v (.int .i64))]⟩),
    (94, ⟨[.agg [.v (.int .i64), .v (.sl (.pair .bool (.pair (.sl .str) (.pair (.sl .str) (.pair (.sl (.int .i64)) .unit)))))], .c (.v .str)], [.c (.v .str), .c (.v .bool)]⟩),
    (95, ⟨[.agg [.v (.int .i64), .v (.sl (.pair .bool (.pair (.sl .str) (.pair (.sl .str) (.pair (.sl (.int .i64)) .unit)))))], .c (.v .str)], [.c (.v .str), .c (.v .bool)]⟩),
    (98, ⟨[.agg [.v .bool, .v (.sl .str), .v (.sl .str), .v (.sl (.int .i64))], .agg [.v .bool, .v (.sl .str), .v (.sl .str), .v (.sl (.int .i64))]], [.c (.v .bool)]⟩),
    (106, ⟨[.c (.v (.int .i64)), .c (.v (.int .i64)), .c (.v (.int .i64))], [.c (.v .bool)]⟩),
    (112, ⟨[.agg [.v .bool, .v (.sl .str), .v (.sl .str), .v (.sl (.int .i64))], .c (.v (.int .i64))], [.c (.v (.int .i64))]⟩),
    (113, ⟨[.agg [.v (.int .i64), .v (.sl (.pair .bool (.pair (.sl .str) (.pair (.sl .str) (.pair (.sl (.int .i64)) .unit)))))], .c (.v (.int .i64)), .c (.v .str), .c (.v .str), .c (.v .bool), .c (.o .bool 4 true)], [.c (.v (.int .i64))]⟩),
    (114, ⟨[.agg [.v .bool, .v (.sl .str), .v (.sl .str), .v (.sl (.int .i64))]], [.c (.v .bool)]⟩),
    (115, ⟨[.agg [.v .bool, .v (.sl .str), .v (.sl .str), .v (.sl (.int .i64))]], [.agg [.v .bool, .v (.sl .str), .v (.sl .str), .v (.sl (.int .i64))]]⟩),
    (116, ⟨[.box [.v (.int .i64), .v (.sl (.pair .bool (.pair (.sl .str) (.pair (.sl .str) (.pair (.sl (.int .i64)) .unit))))), .o .bool 4 true, .v (.int .i64)], .c (.v (.int .i64)), .c (.v (.int .i64)), .c (.v .str), .c (.v .str)], [.c (.v .bool)]⟩),
    (117, ⟨[.agg [.v .bool, .v (.sl .str), .v (.sl .str), .v (.sl (.int .i64))]], [.c (.v .bool)]⟩),
    (123, ⟨[.agg [.v (.int .i64), .v (.sl (.pair .bool (.pair (.sl .str) (.pair (.sl .str) (.pair (.sl (.int .i64)) .unit)))))], .c (.v .str)], [.agg [.v .bool, .v (.sl .str), .v (.sl .str), .v (.sl (.int .i64))]]⟩),
    (124, ⟨[.c (.v (.sl .str)), .c (.v .str)], [.c (.v (.int .i64))]⟩),
    (125, ⟨[.agg [.v (.int .i64), .v (.sl (.pair .bool (.pair (.sl .str) (.pair (.sl .str) (.pair (.sl (.int .i64)) .unit)))))], .c (.v .str)], [.c (.v (.sl (.int .i64)))]⟩),
    (126, ⟨[.c (.v (.sl .str)), .c (.v .str)], [.c (.v (.int .i64)), .c (.v .bool)]⟩),
    (127, ⟨[.c (.v (.sl (.int .i64))), .c (.v (.sl (.int .i64)))], [.c (.v .bool)]⟩),
    (131, ⟨[.c (.v (.sl (.int .i64))), .c (.v (.int .i64))], [.c (.v (.int .i64))]⟩),
    (132, ⟨[.agg [.v .bool, .v (.sl .str), .v (.sl .str), .v (.sl (.int .i64))]], [.c (.v .bool)]⟩),
    (133, ⟨[.c (.v (.sl .str)), .c (.v .str), .c (.v .str)], [.c (.v .bool)]⟩),
    (134, ⟨[.c (.v (.sl (.int .i64)))], [.c (.v (.sl (.int .i64)))]⟩),
    (135, ⟨[.agg [.v .bool, .v (.sl .str), .v (.sl .str), .v (.sl (.int .i64))]], [.c (.v .bool)]⟩),
    (140, ⟨[.c (.v (.sl .str)), .c (.v .str)], [.c (.v (.int .i64))]⟩),
    (141, ⟨[.agg [.v .bool, .v (.sl .str), .v (.sl .str), .v (.sl (.int .i64))], .c (.v .str)], [.c (.v (.int .i64))]⟩),
    (142, ⟨[.c (.v .str), .c (.v .str)], [.c (.v .bool)]⟩),
    (143, ⟨[.c (.v .str)], [.c (.v .bool)]⟩),
    (145, ⟨[.c (.v (.sl .str))], [.c (.v .bool)]⟩),
    (146, ⟨[.c (.v .str)], [.c (.v .bool)]⟩),
    (148, ⟨[.c (.v (.int .i64))], [.c (.v .bool)]⟩),
    (151, ⟨[.c (.v .str)], [.c (.v .bool)]⟩),
    (147068, ⟨[.c (.v (.sl .str)), .clo 146 []], [.c (.v .bool)]⟩),
    (147104, ⟨[.c (.v (.sl .str)), .clo 146 []], [.c (.v (.int .i64))]⟩),
    (149147, ⟨[.c (.v (.sl (.int .i64))), .clo 148 []], [.c (.v .bool)]⟩),
    (149152, ⟨[.c (.v (.sl (.int .i64))), .clo 148 []], [.c (.v (.int .i64))]⟩)]
  cut := [(53, [(4, [(0, .c (.v (.sl .str))), (1, .c (.v (.sl .str))), (5, .c (.v (.int .i64)))])]),
    (60, [(4, [(0, .c (.v (.sl (.pair .bool (.pair (.sl .str) (.pair (.sl .str) (.pair (.sl (.int .i64)) .unit))))))), (1, .c (.v (.sl (.pair .bool (.pair (.sl .str) (.pair (.sl .str) (.pair (.sl (.int .i64)) .unit))))))), (5, .c (.v (.int .i64)))])]),
    (63, [(5, [(0, .c (.v (.sl .str))), (1, .c (.v (.int .i64))), (5, .c (.v (.int .i64)))])]),
    (66, [(3, [(0, .c (.v (.sl .str))), (3, .c (.o .str 9 true)), (4, .c (.v (.int .i64)))])]),
    (87, [(5, [(0, .c (.v (.sl (.pair .bool (.pair (.sl .str) (.pair (.sl .str) (.pair (.sl (.int .i64)) .unit))))))), (1, .c (.v (.int .i64))), (5, .c (.v (.int .i64)))])]),
    (88, [(6, [(1, .box [.v (.int .i64), .v (.sl (.pair .bool (.pair (.sl .str) (.pair (.sl .str) (.pair (.sl (.int .i64)) .unit)))))]), (3, .c (.o .bool 4 true)), (4, .c (.v (.int .i64))), (5, .c (.v (.int .i64)))])]),
    (89, [(3, [(0, .c (.v (.sl (.pair .bool (.pair (.sl .str) (.pair (.sl .str) (.pair (.sl (.int .i64)) .unit))))))), (3, .c (.o (.pair .bool (.pair (.sl .str) (.pair (.sl .str) (.pair (.sl (.int .i64)) .unit)))) 83 true)), (4, .c (.v (.int .i64)))])]),
    (90, [(7, [(3, .box [.v (.int .i64), .v (.sl (.pair .bool (.pair (.sl .str) (.pair (.sl .str) (.pair (.sl (.int .i64)) .unit))))), .o .bool 4 true, .v (.int .i64)]), (26, .c (.v (.sl (.pair .bool (.pair (.sl .str) (.pair (.sl .str) (.pair (.sl (.int .i64)) .unit))))))), (27, .c (.v (.int .i64))), (28, .c (.v (.int .i64)))])]),
    (113, [(11, [(2, .c (.v .str)), (3, .c (.v .str)), (5, .c (.o .bool 4 true)), (6, .box [.v (.int .i64), .v (.sl (.pair .bool (.pair (.sl .str) (.pair (.sl .str) (.pair (.sl (.int .i64)) .unit)))))]), (13, .box [.v .bool, .v (.sl .str), .v (.sl .str), .v (.sl (.int .i64))]), (14, .c (.v (.int .i64))), (15, .c (.v (.int .i64)))]), (17, [(2, .c (.v .str)), (3, .c (.v .str)), (5, .c (.o .bool 4 true)), (6, .box [.v (.int .i64), .v (.sl (.pair .bool (.pair (.sl .str) (.pair (.sl .str) (.pair (.sl (.int .i64)) .unit)))))]), (13, .box [.v .bool, .v (.sl .str), .v (.sl .str), .v (.sl (.int .i64))]), (14, .c (.v (.int .i64))), (15, .c (.v (.int .i64))), (16, .c (.v .str)), (17, .c (.v .str))]), (19, [(2, .c (.v .str)), (3, .c (.v .str)), (5, .c (.o .bool 4 true)), (6, .box [.v (.int .i64), .v (.sl (.pair .bool (.pair (.sl .str) (.pair (.sl .str) (.pair (.sl (.int .i64)) .unit)))))]), (13, .box [.v .bool, .v (.sl .str), .v (.sl .str), .v (.sl (.int .i64))]), (14, .c (.v (.int .i64))), (15, .c (.v (.int .i64))), (16, .c (.v .str)), (17, .c (.v .str))])]),
    (116, [(6, [(0, .box [.v (.int .i64), .v (.sl (.pair .bool (.pair (.sl .str) (.pair (.sl .str) (.pair (.sl (.int .i64)) .unit))))), .o .bool 4 true, .v (.int .i64)]), (2, .c (.v (.int .i64))), (3, .c (.v .str)), (4, .c (.v .str)), (11, .box [.v .bool, .v (.sl .str), .v (.sl .str), .v (.sl (.int .i64))]), (60, .c (.v (.sl .str))), (61, .c (.v (.int .i64))), (62, .c (.v (.int .i64)))]), (14, [(0, .box [.v (.int .i64), .v (.sl (.pair .bool (.pair (.sl .str) (.pair (.sl .str) (.pair (.sl (.int .i64)) .unit))))), .o .bool 4 true, .v (.int .i64)]), (2, .c (.v (.int .i64)))]), (16, [(0, .box [.v (.int .i64), .v (.sl (.pair .bool (.pair (.sl .str) (.pair (.sl .str) (.pair (.sl (.int .i64)) .unit))))), .o .bool 4 true, .v (.int .i64)]), (2, .c (.v (.int .i64))), (3, .c (.v .str)), (4, .c (.v .str)), (11, .box [.v .bool, .v (.sl .str), .v (.sl .str), .v (.sl (.int .i64))]), (97, .c (.v (.sl (.int .i64)))), (98, .c (.v (.int .i64))), (99, .c (.v (.int .i64)))]), (21, [(0, .box [.v (.int .i64), .v (.sl (.pair .bool (.pair (.sl .str) (.pair (.sl .str) (.pair (.sl (.int .i64)) .unit))))), .o .bool 4 true, .v (.int .i64)]), (2, .c (.v (.int .i64))), (3, .c (.v .str)), (4, .c (.v .str)), (11, .box [.v .bool, .v (.sl .str), .v (.sl .str), .v (.sl (.int .i64))]), (14, .c (.v (.int .i64))), (15, .c (.v (.int .i64))), (16, .c (.v .str)), (17, .c (.v .str)), (97, .c (.v (.sl (.int .i64)))), (98, .c (.v (.int .i64))), (99, .c (.v (.int .i64)))]), (23, [(0, .box [.v (.int .i64), .v (.sl (.pair .bool (.pair (.sl .str) (.pair (.sl .str) (.pair (.sl (.int .i64)) .unit))))), .o .bool 4 true, .v (.int .i64)]), (2, .c (.v (.int .i64))), (3, .c (.v .str)), (4, .c (.v .str)), (11, .box [.v .bool, .v (.sl .str), .v (.sl .str), .v (.sl (.int .i64))]), (15, .c (.v (.int .i64))), (16, .c (.v .str)), (17, .c (.v .str)), (97, .c (.v (.sl (.int .i64)))), (98, .c (.v (.int .i64))), (99, .c (.v (.int .i64)))])]),
    (123, [(2, [(1, .c (.v .str)), (2, .box [.v (.int .i64), .v (.sl (.pair .bool (.pair (.sl .str) (.pair (.sl .str) (.pair (.sl (.int .i64)) .unit)))))]), (4, .box [.v .bool, .v (.sl .str), .v (.sl .str), .v (.sl (.int .i64))]), (5, .c (.v (.int .i64)))])]),
    (124, [(2, [(0, .c (.v (.sl .str))), (1, .c (.v .str)), (5, .c (.v (.int .i64)))])]),
    (125, [(2, [(1, .c (.v .str)), (2, .box [.v (.int .i64), .v (.sl (.pair .bool (.pair (.sl .str) (.pair (.sl .str) (.pair (.sl (.int .i64)) .unit)))))]), (5, .c (.o (.int .i64) 3 true))])]),
    (126, [(3, [(0, .c (.v (.sl .str))), (1, .c (.v .str)), (6, .c (.v (.int .i64))), (7, .c (.v (.int .i64))), (8, .c (.v (.int .i64)))])]),
    (127, [(4, [(0, .c (.v (.sl (.int .i64)))), (1, .c (.v (.sl (.int .i64)))), (5, .c (.v (.int .i64)))])]),
    (132, [(5, [(1, .box [.v .bool, .v (.sl .str), .v (.sl .str), .v (.sl (.int .i64))]), (3, .c (.v (.int .i64)))]), (11, [(1, .box [.v .bool, .v (.sl .str), .v (.sl .str), .v (.sl (.int .i64))]), (4, .c (.v (.int .i64)))])]),
    (133, [(2, [(0, .c (.v (.sl .str))), (1, .c (.v .str)), (2, .c (.v .str)), (7, .c (.v (.int .i64)))])]),
    (134, [(3, [(0, .c (.v (.sl (.int .i64)))), (3, .c (.o (.int .i64) 3 true)), (4, .c (.v (.int .i64)))])]),
    (135, [(4, [(1, .box [.v .bool, .v (.sl .str), .v (.sl .str), .v (.sl (.int .i64))]), (10, .c (.v (.sl .str))), (11, .c (.v (.int .i64))), (12, .c (.v (.int .i64)))])]),
    (140, [(2, [(0, .c (.v (.sl .str))), (1, .c (.v .str)), (5, .c (.v (.int .i64)))])]),
    (141, [(4, [(5, .c (.v (.int .i64)))])]),
    (145, [(2, [(0, .c (.v (.sl .str))), (3, .c (.v (.int .i64)))])]),
    (147104, [(2, [(0, .c (.v (.sl .str))), (1, .clo 146 []), (7, .c (.v (.int .i64))), (8, .c (.v (.int .i64)))])]),
    (149152, [(2, [(0, .c (.v (.sl (.int .i64)))), (1, .clo 148 []), (7, .c (.v (.int .i64))), (8, .c (.v (.int .i64)))])])]
theorem tabs_ok : tabs.ok Try.prog = true := by kernel_rfl
noncomputable def cx : Go.Rf.Cx := tabs.cx Try.prog (fun _ => none) (fun _ => false) (fun _ => none)
theorem good : Go.Rf.Good cx := Go.Rf.Tabs.good tabs_ok (fun _ h => by cases h)
theorem told (k f : Nat) (inp : (cx.spec f).In) (out : (cx.spec f).Out) (h : callF cx k f inp = some out) : Go.Rf.Contract cx f inp out := (Go.Rf.run_ok good (fun f g inp out h => by cases h) k).1 f inp out h
end Go.Proofs.Ytldjfonpegffiaa.R
/-! Rf: the functions, and what each answers. -/
set_option linter.unusedVariables false
namespace Go.Proofs.Ytldjfonpegffiaa.R
open Go.Rf
/-! loop.example/jetton/laws.FnExactTreeOk -/
noncomputable def F11 (k : Nat) (a0_0 : Int) (a0_1 : List (Bool × (List ByteArray) × (List ByteArray) × (List Int) × Unit)) : Option ((Bool × Unit) × ((Unit × Unit × Unit) × Unit)) := callF cx k 11 ((a0_0, a0_1, ()), ())
/-! loop.example/jetton/laws.FnExactTreeDeep -/
noncomputable def F12 (k : Nat) (a0_0 : Int) (a0_1 : List (Bool × (List ByteArray) × (List ByteArray) × (List Int) × Unit)) : Option ((Bool × Unit) × ((Unit × Unit × Unit) × Unit)) := callF cx k 12 ((a0_0, a0_1, ()), ())
/-! loop.example/jetton/laws.FnExactTreeGet -/
noncomputable def F14 (k : Nat) (a0_0 : Int) (a0_1 : List (Bool × (List ByteArray) × (List ByteArray) × (List Int) × Unit)) (a1 : ByteArray) : Option ((Bool × Unit) × ((Unit × Unit × Unit) × Unit × Unit)) := callF cx k 14 ((a0_0, a0_1, ()), a1, ())
/-! loop.example/jetton/laws.eqTree -/
noncomputable def F25 (k : Nat) (a0_0 : Int) (a0_1 : List (Bool × (List ByteArray) × (List ByteArray) × (List Int) × Unit)) (a1_0 : Int) (a1_1 : List (Bool × (List ByteArray) × (List ByteArray) × (List Int) × Unit)) : Option ((Bool × Unit) × ((Unit × Unit × Unit) × (Unit × Unit × Unit) × Unit)) := callF cx k 25 ((a0_0, a0_1, ()), (a1_0, a1_1, ()), ())
/-! loop.example/jetton/laws.szTree -/
noncomputable def F38 (k : Nat) (a0_0 : Int) (a0_1 : List (Bool × (List ByteArray) × (List ByteArray) × (List Int) × Unit)) (a1 : Int) : Option ((Int × Unit) × ((Unit × Unit × Unit) × Unit × Unit)) := callF cx k 38 ((a0_0, a0_1, ()), a1, ())
/-! loop.example/jetton/spec.TreeOk -/
noncomputable def F39 (k : Nat) (a0_0 : Int) (a0_1 : List (Bool × (List ByteArray) × (List ByteArray) × (List Int) × Unit)) : Option ((Bool × Unit) × ((Unit × Unit × Unit) × Unit)) := callF cx k 39 ((a0_0, a0_1, ()), ())
/-! loop.example/jetton/laws.toTree -/
noncomputable def F40 (k : Nat) (a0_0 : Int) (a0_1 : List (Bool × (List ByteArray) × (List ByteArray) × (List Int) × Unit)) : Option (((Int × (List (Bool × (List ByteArray) × (List ByteArray) × (List Int) × Unit)) × Unit) × Unit) × ((Unit × Unit × Unit) × Unit)) := callF cx k 40 ((a0_0, a0_1, ()), ())
/-! loop.example/jetton/impl.TreeOk -/
noncomputable def F41 (k : Nat) (a0_0 : Int) (a0_1 : List (Bool × (List ByteArray) × (List ByteArray) × (List Int) × Unit)) : Option ((Bool × Unit) × ((Unit × Unit × Unit) × Unit)) := callF cx k 41 ((a0_0, a0_1, ()), ())
/-! loop.example/jetton/spec.TreeDeep -/
noncomputable def F42 (k : Nat) (a0_0 : Int) (a0_1 : List (Bool × (List ByteArray) × (List ByteArray) × (List Int) × Unit)) : Option ((Int × Unit) × ((Unit × Unit × Unit) × Unit)) := callF cx k 42 ((a0_0, a0_1, ()), ())
/-! loop.example/jetton/impl.TreeDeep -/
noncomputable def F43 (k : Nat) (a0_0 : Int) (a0_1 : List (Bool × (List ByteArray) × (List ByteArray) × (List Int) × Unit)) : Option ((Int × Unit) × ((Unit × Unit × Unit) × Unit)) := callF cx k 43 ((a0_0, a0_1, ()), ())
/-! loop.example/jetton/spec.TreeGet -/
noncomputable def F49 (k : Nat) (a0_0 : Int) (a0_1 : List (Bool × (List ByteArray) × (List ByteArray) × (List Int) × Unit)) (a1 : ByteArray) : Option ((ByteArray × Bool × Unit) × ((Unit × Unit × Unit) × Unit × Unit)) := callF cx k 49 ((a0_0, a0_1, ()), a1, ())
/-! loop.example/jetton/impl.TreeGet -/
noncomputable def F50 (k : Nat) (a0_0 : Int) (a0_1 : List (Bool × (List ByteArray) × (List ByteArray) × (List Int) × Unit)) (a1 : ByteArray) : Option ((ByteArray × Bool × Unit) × ((Unit × Unit × Unit) × Unit × Unit)) := callF cx k 50 ((a0_0, a0_1, ()), a1, ())
/-! loop.example/jetton/laws.eqStringS -/
noncomputable def F53 (k : Nat) (a0 : List ByteArray) (a1 : List ByteArray) : Option ((Bool × Unit) × (Unit × Unit × Unit)) := callF cx k 53 (a0, a1, ())
noncomputable def F53c4 (k : Nat) (x0 : List ByteArray) (x1 : List ByteArray) (x5 : Int) : Option ((Bool × Unit) × (Unit × Unit × Unit)) := cutF cx 53 4 Try.f53 k (x0, x1, x5, ())
/-! loop.example/jetton/laws.eqNodeS -/
noncomputable def F60 (k : Nat) (a0 : List (Bool × (List ByteArray) × (List ByteArray) × (List Int) × Unit)) (a1 : List (Bool × (List ByteArray) × (List ByteArray) × (List Int) × Unit)) : Option ((Bool × Unit) × (Unit × Unit × Unit)) := callF cx k 60 (a0, a1, ())
noncomputable def F60c4 (k : Nat) (x0 : List (Bool × (List ByteArray) × (List ByteArray) × (List Int) × Unit)) (x1 : List (Bool × (List ByteArray) × (List ByteArray) × (List Int) × Unit)) (x5 : Int) : Option ((Bool × Unit) × (Unit × Unit × Unit)) := cutF cx 60 4 Try.f60 k (x0, x1, x5, ())
/-! loop.example/jetton/laws.szStringS -/
noncomputable def F63 (k : Nat) (a0 : List ByteArray) (a1 : Int) : Option ((Int × Unit) × (Unit × Unit × Unit)) := callF cx k 63 (a0, a1, ())
noncomputable def F63c5 (k : Nat) (x0 : List ByteArray) (x1 : Int) (x5 : Int) : Option ((Int × Unit) × (Unit × Unit × Unit)) := cutF cx 63 5 Try.f63 k (x0, x1, x5, ())
/-! loop.example/jetton/laws.toStringS -/
noncomputable def F66 (k : Nat) (a0 : List ByteArray) : Option (((List ByteArray) × Unit) × (Unit × Unit)) := callF cx k 66 (a0, ())
noncomputable def F66c3 (k : Nat) (x0 : List ByteArray) (x3 : List ByteArray) (x4 : Int) : Option (((List ByteArray) × Unit) × (Unit × Unit)) := cutF cx 66 3 Try.f66 k (x0, x3, x4, ())
/-! loop.example/jetton/spec.l1In -/
noncomputable def F73 (k : Nat) (a0 : Int) (a1 : Int) (a2 : Int) : Option ((Bool × Unit) × (Unit × Unit × Unit × Unit)) := callF cx k 73 (a0, a1, a2, ())
/-! loop.example/jetton/laws.szNodeS -/
noncomputable def F87 (k : Nat) (a0 : List (Bool × (List ByteArray) × (List ByteArray) × (List Int) × Unit)) (a1 : Int) : Option ((Int × Unit) × (Unit × Unit × Unit)) := callF cx k 87 (a0, a1, ())
noncomputable def F87c5 (k : Nat) (x0 : List (Bool × (List ByteArray) × (List ByteArray) × (List Int) × Unit)) (x1 : Int) (x5 : Int) : Option ((Int × Unit) × (Unit × Unit × Unit)) := cutF cx 87 5 Try.f87 k (x0, x1, x5, ())
/-! loop.example/jetton/spec.l9Deep -/
noncomputable def F88 (k : Nat) (a0_0 : Int) (a0_1 : List (Bool × (List ByteArray) × (List ByteArray) × (List Int) × Unit)) : Option ((Int × Unit) × ((Unit × Unit × Unit) × Unit)) := callF cx k 88 ((a0_0, a0_1, ()), ())
noncomputable def F88c6 (k : Nat) (x1_0 : Int) (x1_1 : List (Bool × (List ByteArray) × (List ByteArray) × (List Int) × Unit)) (x3 : List Bool) (x4 : Int) (x5 : Int) : Option ((Int × Unit) × ((Unit × Unit × Unit) × Unit)) := cutF cx 88 6 Try.f88 k ((x1_0, x1_1, ()), x3, x4, x5, ())
/-! loop.example/jetton/laws.toNodeS -/
noncomputable def F89 (k : Nat) (a0 : List (Bool × (List ByteArray) × (List ByteArray) × (List Int) × Unit)) : Option (((List (Bool × (List ByteArray) × (List ByteArray) × (List Int) × Unit)) × Unit) × (Unit × Unit)) := callF cx k 89 (a0, ())
noncomputable def F89c3 (k : Nat) (x0 : List (Bool × (List ByteArray) × (List ByteArray) × (List Int) × Unit)) (x3 : List (Bool × (List ByteArray) × (List ByteArray) × (List Int) × Unit)) (x4 : Int) : Option (((List (Bool × (List ByteArray) × (List ByteArray) × (List Int) × Unit)) × Unit) × (Unit × Unit)) := cutF cx 89 3 Try.f89 k (x0, x3, x4, ())
/-! (loop.example/jetton/impl.Tree).deep -/
noncomputable def F90 (k : Nat) (a0_0 : Int) (a0_1 : List (Bool × (List ByteArray) × (List ByteArray) × (List Int) × Unit)) : Option ((Int × Unit) × ((Unit × Unit × Unit) × Unit)) := callF cx k 90 ((a0_0, a0_1, ()), ())
noncomputable def F90c7 (k : Nat) (x3_0 : Int) (x3_1 : List (Bool × (List ByteArray) × (List ByteArray) × (List Int) × Unit)) (x3_2 : List Bool) (x3_3 : Int) (x26 : List (Bool × (List ByteArray) × (List ByteArray) × (List Int) × Unit)) (x27 : Int) (x28 : Int) : Option ((Int × Unit) × ((Unit × Unit × Unit) × Unit)) := cutF cx 90 7 Try.f90 k ((x3_0, x3_1, x3_2, x3_3, ()), x26, x27, x28, ())
/-! loop.example/jetton/spec.l9Get -/
noncomputable def F94 (k : Nat) (a0_0 : Int) (a0_1 : List (Bool × (List ByteArray) × (List ByteArray) × (List Int) × Unit)) (a1 : ByteArray) : Option ((ByteArray × Bool × Unit) × ((Unit × Unit × Unit) × Unit × Unit)) := callF cx k 94 ((a0_0, a0_1, ()), a1, ())
/-! (loop.example/jetton/impl.Tree).get -/
noncomputable def F95 (k : Nat) (a0_0 : Int) (a0_1 : List (Bool × (List ByteArray) × (List ByteArray) × (List Int) × Unit)) (a1 : ByteArray) : Option ((ByteArray × Bool × Unit) × ((Unit × Unit × Unit) × Unit × Unit)) := callF cx k 95 ((a0_0, a0_1, ()), a1, ())
/-! loop.example/jetton/laws.eqNode -/
noncomputable def F98 (k : Nat) (a0_0 : Bool) (a0_1 : List ByteArray) (a0_2 : List ByteArray) (a0_3 : List Int) (a1_0 : Bool) (a1_1 : List ByteArray) (a1_2 : List ByteArray) (a1_3 : List Int) : Option ((Bool × Unit) × ((Unit × Unit × Unit × Unit × Unit) × (Unit × Unit × Unit × Unit × Unit) × Unit)) := callF cx k 98 ((a0_0, a0_1, a0_2, a0_3, ()), (a1_0, a1_1, a1_2, a1_3, ()), ())
/-! loop.example/jetton/impl.in -/
noncomputable def F106 (k : Nat) (a0 : Int) (a1 : Int) (a2 : Int) : Option ((Bool × Unit) × (Unit × Unit × Unit × Unit)) := callF cx k 106 (a0, a1, a2, ())
/-! loop.example/jetton/laws.szNode -/
noncomputable def F112 (k : Nat) (a0_0 : Bool) (a0_1 : List ByteArray) (a0_2 : List ByteArray) (a0_3 : List Int) (a1 : Int) : Option ((Int × Unit) × ((Unit × Unit × Unit × Unit × Unit) × Unit × Unit)) := callF cx k 112 ((a0_0, a0_1, a0_2, a0_3, ()), a1, ())
/-! loop.example/jetton/spec.l9Walk -/
noncomputable def F113 (k : Nat) (a0_0 : Int) (a0_1 : List (Bool × (List ByteArray) × (List ByteArray) × (List Int) × Unit)) (a1 : Int) (a2 : ByteArray) (a3 : ByteArray) (a4 : Bool) (a5 : List Bool) : Option ((Int × Unit) × ((Unit × Unit × Unit) × Unit × Unit × Unit × Unit × (List Bool) × Unit)) := callF cx k 113 ((a0_0, a0_1, ()), a1, a2, a3, a4, a5, ())
noncomputable def F113c11 (k : Nat) (x2 : ByteArray) (x3 : ByteArray) (x5 : List Bool) (x6_0 : Int) (x6_1 : List (Bool × (List ByteArray) × (List ByteArray) × (List Int) × Unit)) (x13_0 : Bool) (x13_1 : List ByteArray) (x13_2 : List ByteArray) (x13_3 : List Int) (x14 : Int) (x15 : Int) : Option ((Int × Unit) × ((Unit × Unit × Unit) × Unit × Unit × Unit × Unit × (List Bool) × Unit)) := cutF cx 113 11 Try.f113 k (x2, x3, x5, (x6_0, x6_1, ()), (x13_0, x13_1, x13_2, x13_3, ()), x14, x15, ())
noncomputable def F113c17 (k : Nat) (x2 : ByteArray) (x3 : ByteArray) (x5 : List Bool) (x6_0 : Int) (x6_1 : List (Bool × (List ByteArray) × (List ByteArray) × (List Int) × Unit)) (x13_0 : Bool) (x13_1 : List ByteArray) (x13_2 : List ByteArray) (x13_3 : List Int) (x14 : Int) (x15 : Int) (x16 : ByteArray) (x17 : ByteArray) : Option ((Int × Unit) × ((Unit × Unit × Unit) × Unit × Unit × Unit × Unit × (List Bool) × Unit)) := cutF cx 113 17 Try.f113 k (x2, x3, x5, (x6_0, x6_1, ()), (x13_0, x13_1, x13_2, x13_3, ()), x14, x15, x16, x17, ())
noncomputable def F113c19 (k : Nat) (x2 : ByteArray) (x3 : ByteArray) (x5 : List Bool) (x6_0 : Int) (x6_1 : List (Bool × (List ByteArray) × (List ByteArray) × (List Int) × Unit)) (x13_0 : Bool) (x13_1 : List ByteArray) (x13_2 : List ByteArray) (x13_3 : List Int) (x14 : Int) (x15 : Int) (x16 : ByteArray) (x17 : ByteArray) : Option ((Int × Unit) × ((Unit × Unit × Unit) × Unit × Unit × Unit × Unit × (List Bool) × Unit)) := cutF cx 113 19 Try.f113 k (x2, x3, x5, (x6_0, x6_1, ()), (x13_0, x13_1, x13_2, x13_3, ()), x14, x15, x16, x17, ())
/-! loop.example/jetton/spec.l9Zero -/
noncomputable def F114 (k : Nat) (a0_0 : Bool) (a0_1 : List ByteArray) (a0_2 : List ByteArray) (a0_3 : List Int) : Option ((Bool × Unit) × ((Unit × Unit × Unit × Unit × Unit) × Unit)) := callF cx k 114 ((a0_0, a0_1, a0_2, a0_3, ()), ())
/-! loop.example/jetton/laws.toNode -/
noncomputable def F115 (k : Nat) (a0_0 : Bool) (a0_1 : List ByteArray) (a0_2 : List ByteArray) (a0_3 : List Int) : Option (((Bool × (List ByteArray) × (List ByteArray) × (List Int) × Unit) × Unit) × ((Unit × Unit × Unit × Unit × Unit) × Unit)) := callF cx k 115 ((a0_0, a0_1, a0_2, a0_3, ()), ())
/-! (*loop.example/jetton/impl.walker).walk -/
noncomputable def F116 (k : Nat) (a0_0 : Int) (a0_1 : List (Bool × (List ByteArray) × (List ByteArray) × (List Int) × Unit)) (a0_2 : List Bool) (a0_3 : Int) (a1 : Int) (a2 : Int) (a3 : ByteArray) (a4 : ByteArray) : Option ((Bool × Unit) × ((Int × (List (Bool × (List ByteArray) × (List ByteArray) × (List Int) × Unit)) × (List Bool) × Int × Unit) × Unit × Unit × Unit × Unit × Unit)) := callF cx k 116 ((a0_0, a0_1, a0_2, a0_3, ()), a1, a2, a3, a4, ())
noncomputable def F116c6 (k : Nat) (x0_0 : Int) (x0_1 : List (Bool × (List ByteArray) × (List ByteArray) × (List Int) × Unit)) (x0_2 : List Bool) (x0_3 : Int) (x2 : Int) (x3 : ByteArray) (x4 : ByteArray) (x11_0 : Bool) (x11_1 : List ByteArray) (x11_2 : List ByteArray) (x11_3 : List Int) (x60 : List ByteArray) (x61 : Int) (x62 : Int) : Option ((Bool × Unit) × ((Int × (List (Bool × (List ByteArray) × (List ByteArray) × (List Int) × Unit)) × (List Bool) × Int × Unit) × Unit × Unit × Unit × Unit × Unit)) := cutF cx 116 6 Try.f116 k ((x0_0, x0_1, x0_2, x0_3, ()), x2, x3, x4, (x11_0, x11_1, x11_2, x11_3, ()), x60, x61, x62, ())
noncomputable def F116c14 (k : Nat) (x0_0 : Int) (x0_1 : List (Bool × (List ByteArray) × (List ByteArray) × (List Int) × Unit)) (x0_2 : List Bool) (x0_3 : Int) (x2 : Int) : Option ((Bool × Unit) × ((Int × (List (Bool × (List ByteArray) × (List ByteArray) × (List Int) × Unit)) × (List Bool) × Int × Unit) × Unit × Unit × Unit × Unit × Unit)) := cutF cx 116 14 Try.f116 k ((x0_0, x0_1, x0_2, x0_3, ()), x2, ())
noncomputable def F116c16 (k : Nat) (x0_0 : Int) (x0_1 : List (Bool × (List ByteArray) × (List ByteArray) × (List Int) × Unit)) (x0_2 : List Bool) (x0_3 : Int) (x2 : Int) (x3 : ByteArray) (x4 : ByteArray) (x11_0 : Bool) (x11_1 : List ByteArray) (x11_2 : List ByteArray) (x11_3 : List Int) (x97 : List Int) (x98 : Int) (x99 : Int) : Option ((Bool × Unit) × ((Int × (List (Bool × (List ByteArray) × (List ByteArray) × (List Int) × Unit)) × (List Bool) × Int × Unit) × Unit × Unit × Unit × Unit × Unit)) := cutF cx 116 16 Try.f116 k ((x0_0, x0_1, x0_2, x0_3, ()), x2, x3, x4, (x11_0, x11_1, x11_2, x11_3, ()), x97, x98, x99, ())
noncomputable def F116c21 (k : Nat) (x0_0 : Int) (x0_1 : List (Bool × (List ByteArray) × (List ByteArray) × (List Int) × Unit)) (x0_2 : List Bool) (x0_3 : Int) (x2 : Int) (x3 : ByteArray) (x4 : ByteArray) (x11_0 : Bool) (x11_1 : List ByteArray) (x11_2 : List ByteArray) (x11_3 : List Int) (x14 : Int) (x15 : Int) (x16 : ByteArray) (x17 : ByteArray) (x97 : List Int) (x98 : Int) (x99 : Int) : Option ((Bool × Unit) × ((Int × (List (Bool × (List ByteArray) × (List ByteArray) × (List Int) × Unit)) × (List Bool) × Int × Unit) × Unit × Unit × Unit × Unit × Unit)) := cutF cx 116 21 Try.f116 k ((x0_0, x0_1, x0_2, x0_3, ()), x2, x3, x4, (x11_0, x11_1, x11_2, x11_3, ()), x14, x15, x16, x17, x97, x98, x99, ())
noncomputable def F116c23 (k : Nat) (x0_0 : Int) (x0_1 : List (Bool × (List ByteArray) × (List ByteArray) × (List Int) × Unit)) (x0_2 : List Bool) (x0_3 : Int) (x2 : Int) (x3 : ByteArray) (x4 : ByteArray) (x11_0 : Bool) (x11_1 : List ByteArray) (x11_2 : List ByteArray) (x11_3 : List Int) (x15 : Int) (x16 : ByteArray) (x17 : ByteArray) (x97 : List Int) (x98 : Int) (x99 : Int) : Option ((Bool × Unit) × ((Int × (List (Bool × (List ByteArray) × (List ByteArray) × (List Int) × Unit)) × (List Bool) × Int × Unit) × Unit × Unit × Unit × Unit × Unit)) := cutF cx 116 23 Try.f116 k ((x0_0, x0_1, x0_2, x0_3, ()), x2, x3, x4, (x11_0, x11_1, x11_2, x11_3, ()), x15, x16, x17, x97, x98, x99, ())
/-! (loop.example/jetton/impl.Node).zero -/
noncomputable def F117 (k : Nat) (a0_0 : Bool) (a0_1 : List ByteArray) (a0_2 : List ByteArray) (a0_3 : List Int) : Option ((Bool × Unit) × ((Unit × Unit × Unit × Unit × Unit) × Unit)) := callF cx k 117 ((a0_0, a0_1, a0_2, a0_3, ()), ())
/-! loop.example/jetton/spec.l9Leaf -/
noncomputable def F123 (k : Nat) (a0_0 : Int) (a0_1 : List (Bool × (List ByteArray) × (List ByteArray) × (List Int) × Unit)) (a1 : ByteArray) : Option (((Bool × (List ByteArray) × (List ByteArray) × (List Int) × Unit) × Unit) × ((Unit × Unit × Unit) × Unit × Unit)) := callF cx k 123 ((a0_0, a0_1, ()), a1, ())
noncomputable def F123c2 (k : Nat) (x1 : ByteArray) (x2_0 : Int) (x2_1 : List (Bool × (List ByteArray) × (List ByteArray) × (List Int) × Unit)) (x4_0 : Bool) (x4_1 : List ByteArray) (x4_2 : List ByteArray) (x4_3 : List Int) (x5 : Int) : Option (((Bool × (List ByteArray) × (List ByteArray) × (List Int) × Unit) × Unit) × ((Unit × Unit × Unit) × Unit × Unit)) := cutF cx 123 2 Try.f123 k (x1, (x2_0, x2_1, ()), (x4_0, x4_1, x4_2, x4_3, ()), x5, ())
/-! loop.example/jetton/spec.l9Place -/
noncomputable def F124 (k : Nat) (a0 : List ByteArray) (a1 : ByteArray) : Option ((Int × Unit) × (Unit × Unit × Unit)) := callF cx k 124 (a0, a1, ())
noncomputable def F124c2 (k : Nat) (x0 : List ByteArray) (x1 : ByteArray) (x5 : Int) : Option ((Int × Unit) × (Unit × Unit × Unit)) := cutF cx 124 2 Try.f124 k (x0, x1, x5, ())
/-! (loop.example/jetton/impl.Tree).path -/
noncomputable def F125 (k : Nat) (a0_0 : Int) (a0_1 : List (Bool × (List ByteArray) × (List ByteArray) × (List Int) × Unit)) (a1 : ByteArray) : Option (((List Int) × Unit) × ((Unit × Unit × Unit) × Unit × Unit)) := callF cx k 125 ((a0_0, a0_1, ()), a1, ())
noncomputable def F125c2 (k : Nat) (x1 : ByteArray) (x2_0 : Int) (x2_1 : List (Bool × (List ByteArray) × (List ByteArray) × (List Int) × Unit)) (x5 : List Int) : Option (((List Int) × Unit) × ((Unit × Unit × Unit) × Unit × Unit)) := cutF cx 125 2 Try.f125 k (x1, (x2_0, x2_1, ()), x5, ())
/-! slices.BinarySearch[[]string,string] -/
noncomputable def F126 (k : Nat) (a0 : List ByteArray) (a1 : ByteArray) : Option ((Int × Bool × Unit) × (Unit × Unit × Unit)) := callF cx k 126 (a0, a1, ())
noncomputable def F126c3 (k : Nat) (x0 : List ByteArray) (x1 : ByteArray) (x6 : Int) (x7 : Int) (x8 : Int) : Option ((Int × Bool × Unit) × (Unit × Unit × Unit)) := cutF cx 126 3 Try.f126 k (x0, x1, x6, x7, x8, ())
/-! loop.example/jetton/laws.eqIntS -/
noncomputable def F127 (k : Nat) (a0 : List Int) (a1 : List Int) : Option ((Bool × Unit) × (Unit × Unit × Unit)) := callF cx k 127 (a0, a1, ())
noncomputable def F127c4 (k : Nat) (x0 : List Int) (x1 : List Int) (x5 : Int) : Option ((Bool × Unit) × (Unit × Unit × Unit)) := cutF cx 127 4 Try.f127 k (x0, x1, x5, ())
/-! loop.example/jetton/laws.szIntS -/
noncomputable def F131 (k : Nat) (a0 : List Int) (a1 : Int) : Option ((Int × Unit) × (Unit × Unit × Unit)) := callF cx k 131 (a0, a1, ())
/-! loop.example/jetton/spec.l9NodeOk -/
noncomputable def F132 (k : Nat) (a0_0 : Bool) (a0_1 : List ByteArray) (a0_2 : List ByteArray) (a0_3 : List Int) : Option ((Bool × Unit) × ((Unit × Unit × Unit × Unit × Unit) × Unit)) := callF cx k 132 ((a0_0, a0_1, a0_2, a0_3, ()), ())
noncomputable def F132c5 (k : Nat) (x1_0 : Bool) (x1_1 : List ByteArray) (x1_2 : List ByteArray) (x1_3 : List Int) (x3 : Int) : Option ((Bool × Unit) × ((Unit × Unit × Unit × Unit × Unit) × Unit)) := cutF cx 132 5 Try.f132 k ((x1_0, x1_1, x1_2, x1_3, ()), x3, ())
noncomputable def F132c11 (k : Nat) (x1_0 : Bool) (x1_1 : List ByteArray) (x1_2 : List ByteArray) (x1_3 : List Int) (x4 : Int) : Option ((Bool × Unit) × ((Unit × Unit × Unit × Unit × Unit) × Unit)) := cutF cx 132 11 Try.f132 k ((x1_0, x1_1, x1_2, x1_3, ()), x4, ())
/-! loop.example/jetton/spec.l9Within -/
noncomputable def F133 (k : Nat) (a0 : List ByteArray) (a1 : ByteArray) (a2 : ByteArray) : Option ((Bool × Unit) × (Unit × Unit × Unit × Unit)) := callF cx k 133 (a0, a1, a2, ())
noncomputable def F133c2 (k : Nat) (x0 : List ByteArray) (x1 : ByteArray) (x2 : ByteArray) (x7 : Int) : Option ((Bool × Unit) × (Unit × Unit × Unit × Unit)) := cutF cx 133 2 Try.f133 k (x0, x1, x2, x7, ())
/-! loop.example/jetton/laws.toIntS -/
noncomputable def F134 (k : Nat) (a0 : List Int) : Option (((List Int) × Unit) × (Unit × Unit)) := callF cx k 134 (a0, ())
noncomputable def F134c3 (k : Nat) (x0 : List Int) (x3 : List Int) (x4 : Int) : Option (((List Int) × Unit) × (Unit × Unit)) := cutF cx 134 3 Try.f134 k (x0, x3, x4, ())
/-! (loop.example/jetton/impl.Node).ok -/
noncomputable def F135 (k : Nat) (a0_0 : Bool) (a0_1 : List ByteArray) (a0_2 : List ByteArray) (a0_3 : List Int) : Option ((Bool × Unit) × ((Unit × Unit × Unit × Unit × Unit) × Unit)) := callF cx k 135 ((a0_0, a0_1, a0_2, a0_3, ()), ())
noncomputable def F135c4 (k : Nat) (x1_0 : Bool) (x1_1 : List ByteArray) (x1_2 : List ByteArray) (x1_3 : List Int) (x10 : List ByteArray) (x11 : Int) (x12 : Int) : Option ((Bool × Unit) × ((Unit × Unit × Unit × Unit × Unit) × Unit)) := cutF cx 135 4 Try.f135 k ((x1_0, x1_1, x1_2, x1_3, ()), x10, x11, x12, ())
/-! loop.example/jetton/spec.l9Kid -/
noncomputable def F140 (k : Nat) (a0 : List ByteArray) (a1 : ByteArray) : Option ((Int × Unit) × (Unit × Unit × Unit)) := callF cx k 140 (a0, a1, ())
noncomputable def F140c2 (k : Nat) (x0 : List ByteArray) (x1 : ByteArray) (x5 : Int) : Option ((Int × Unit) × (Unit × Unit × Unit)) := cutF cx 140 2 Try.f140 k (x0, x1, x5, ())
/-! (loop.example/jetton/impl.Node).place -/
noncomputable def F141 (k : Nat) (a0_0 : Bool) (a0_1 : List ByteArray) (a0_2 : List ByteArray) (a0_3 : List Int) (a1 : ByteArray) : Option ((Int × Unit) × ((Unit × Unit × Unit × Unit × Unit) × Unit × Unit)) := callF cx k 141 ((a0_0, a0_1, a0_2, a0_3, ()), a1, ())
noncomputable def F141c4 (k : Nat) (x5 : Int) : Option ((Int × Unit) × ((Unit × Unit × Unit × Unit × Unit) × Unit × Unit)) := cutF cx 141 4 Try.f141 k (x5, ())
/-! cmp.Less[string] -/
noncomputable def F142 (k : Nat) (a0 : ByteArray) (a1 : ByteArray) : Option ((Bool × Unit) × (Unit × Unit × Unit)) := callF cx k 142 (a0, a1, ())
/-! slices.isNaN[string] -/
noncomputable def F143 (k : Nat) (a0 : ByteArray) : Option ((Bool × Unit) × (Unit × Unit)) := callF cx k 143 (a0, ())
/-! loop.example/jetton/spec.l9KeysOk -/
noncomputable def F145 (k : Nat) (a0 : List ByteArray) : Option ((Bool × Unit) × (Unit × Unit)) := callF cx k 145 (a0, ())
noncomputable def F145c2 (k : Nat) (x0 : List ByteArray) (x3 : Int) : Option ((Bool × Unit) × (Unit × Unit)) := cutF cx 145 2 Try.f145 k (x0, x3, ())
/-! (loop.example/jetton/impl.Node).ok$1 -/
noncomputable def F146 (k : Nat) (a0 : ByteArray) : Option ((Bool × Unit) × (Unit × Unit)) := callF cx k 146 (a0, ())
/-! (loop.example/jetton/impl.Node).ok$2 -/
noncomputable def F148 (k : Nat) (a0 : Int) : Option ((Bool × Unit) × (Unit × Unit)) := callF cx k 148 (a0, ())
/-! cmp.isNaN[string] -/
noncomputable def F151 (k : Nat) (a0 : ByteArray) : Option ((Bool × Unit) × (Unit × Unit)) := callF cx k 151 (a0, ())
/-! slices.ContainsFunc[[]string,string] -/
noncomputable def F147068 (k : Nat) (a0 : List ByteArray) : Option ((Bool × Unit) × (Unit × Unit × Unit)) := callF cx k 147068 (a0, (()), ())
/-! slices.IndexFunc[[]string,string] -/
noncomputable def F147104 (k : Nat) (a0 : List ByteArray) : Option ((Int × Unit) × (Unit × Unit × Unit)) := callF cx k 147104 (a0, (()), ())
noncomputable def F147104c2 (k : Nat) (x0 : List ByteArray) (x7 : Int) (x8 : Int) : Option ((Int × Unit) × (Unit × Unit × Unit)) := cutF cx 147104 2 Try.f104 k (x0, (()), x7, x8, ())
/-! slices.ContainsFunc[[]int,int] -/
noncomputable def F149147 (k : Nat) (a0 : List Int) : Option ((Bool × Unit) × (Unit × Unit × Unit)) := callF cx k 149147 (a0, (()), ())
/-! slices.IndexFunc[[]int,int] -/
noncomputable def F149152 (k : Nat) (a0 : List Int) : Option ((Int × Unit) × (Unit × Unit × Unit)) := callF cx k 149152 (a0, (()), ())
noncomputable def F149152c2 (k : Nat) (x0 : List Int) (x7 : Int) (x8 : Int) : Option ((Int × Unit) × (Unit × Unit × Unit)) := cutF cx 149152 2 Try.f152 k (x0, (()), x7, x8, ())
theorem F11_eq (k : Nat) (a0_0 : Int) (a0_1 : List (Bool × (List ByteArray) × (List ByteArray) × (List Int) × Unit)) : F11 (k + 2) a0_0 a0_1 =
    (F38 k a0_0 a0_1 (1048576 : Int)).bind fun r1 => if (decide (r1.1.1 < (0 : Int))) = true then some ((true, ()), (((), (), ()), ())) else (F40 k a0_0 a0_1).bind fun r2 => (F39 k r2.1.1.1 r2.1.1.2.1).bind fun r3 => (F40 k a0_0 a0_1).bind fun r4 => (F41 k r4.1.1.1 r4.1.1.2.1).bind fun r5 => if (!(r5.1.1 == r3.1.1)) = true then some ((false, ()), (((), (), ()), ())) else (F40 k a0_0 a0_1).bind fun r6 => (F25 k r4.1.1.1 r4.1.1.2.1 r6.1.1.1 r6.1.1.2.1).bind fun r7 => if (!r7.1.1) = true then some ((false, ()), (((), (), ()), ())) else some ((true, ()), (((), (), ()), ())) := by kernel_rfl
theorem F12_eq (k : Nat) (a0_0 : Int) (a0_1 : List (Bool × (List ByteArray) × (List ByteArray) × (List Int) × Unit)) : F12 (k + 2) a0_0 a0_1 =
    (F38 k a0_0 a0_1 (1048576 : Int)).bind fun r1 => if (decide (r1.1.1 < (0 : Int))) = true then some ((true, ()), (((), (), ()), ())) else (F40 k a0_0 a0_1).bind fun r2 => (F42 k r2.1.1.1 r2.1.1.2.1).bind fun r3 => (F40 k a0_0 a0_1).bind fun r4 => (F43 k r4.1.1.1 r4.1.1.2.1).bind fun r5 => if (r5.1.1 != r3.1.1) = true then some ((false, ()), (((), (), ()), ())) else (F40 k a0_0 a0_1).bind fun r6 => (F25 k r4.1.1.1 r4.1.1.2.1 r6.1.1.1 r6.1.1.2.1).bind fun r7 => if (!r7.1.1) = true then some ((false, ()), (((), (), ()), ())) else some ((true, ()), (((), (), ()), ())) := by kernel_rfl
theorem F14_eq (k : Nat) (a0_0 : Int) (a0_1 : List (Bool × (List ByteArray) × (List ByteArray) × (List Int) × Unit)) (a1 : ByteArray) : F14 (k + 2) a0_0 a0_1 a1 =
    if (decide ((a1.size : Int) > (1048576 : Int))) = true then some ((true, ()), (((), (), ()), (), ())) else (F38 k a0_0 a0_1 (1048576 : Int)).bind fun r1 => if (decide (r1.1.1 < (0 : Int))) = true then some ((true, ()), (((), (), ()), (), ())) else (F40 k a0_0 a0_1).bind fun r2 => (F49 k r2.1.1.1 r2.1.1.2.1 a1).bind fun r3 => (F40 k a0_0 a0_1).bind fun r4 => (F50 k r4.1.1.1 r4.1.1.2.1 a1).bind fun r5 => if (!(r5.1.1.toList == r3.1.1.toList)) = true then some ((false, ()), (((), (), ()), (), ())) else if (!(r5.1.2.1 == r3.1.2.1)) = true then some ((false, ()), (((), (), ()), (), ())) else (F40 k a0_0 a0_1).bind fun r6 => (F25 k r4.1.1.1 r4.1.1.2.1 r6.1.1.1 r6.1.1.2.1).bind fun r7 => if (!r7.1.1) = true then some ((false, ()), (((), (), ()), (), ())) else some ((true, ()), (((), (), ()), (), ())) := by kernel_rfl
theorem F25_eq (k : Nat) (a0_0 : Int) (a0_1 : List (Bool × (List ByteArray) × (List ByteArray) × (List Int) × Unit)) (a1_0 : Int) (a1_1 : List (Bool × (List ByteArray) × (List ByteArray) × (List Int) × Unit)) : F25 (k + 2) a0_0 a0_1 a1_0 a1_1 =
    if (a0_0 != a1_0) = true then some ((false, ()), (((), (), ()), ((), (), ()), ())) else (F60 k a0_1 a1_1).bind fun r1 => if (!r1.1.1) = true then some ((false, ()), (((), (), ()), ((), (), ()), ())) else some ((true, ()), (((), (), ()), ((), (), ()), ())) := by kernel_rfl
theorem F38_eq (k : Nat) (a0_0 : Int) (a0_1 : List (Bool × (List ByteArray) × (List ByteArray) × (List Int) × Unit)) (a1 : Int) : F38 (k + 2) a0_0 a0_1 a1 =
    (F87 k a0_1 a1).bind fun r1 => if (decide (r1.1.1 < (0 : Int))) = true then some (((-1 : Int), ()), (((), (), ()), (), ())) else some ((r1.1.1, ()), (((), (), ()), (), ())) := by kernel_rfl
theorem F39_eq (k : Nat) (a0_0 : Int) (a0_1 : List (Bool × (List ByteArray) × (List ByteArray) × (List Int) × Unit)) : F39 (k + 2) a0_0 a0_1 =
    (F88 k a0_0 a0_1).bind fun r1 => some ((decide (r1.1.1 > (0 : Int)), ()), (((), (), ()), ())) := by kernel_rfl
theorem F40_eq (k : Nat) (a0_0 : Int) (a0_1 : List (Bool × (List ByteArray) × (List ByteArray) × (List Int) × Unit)) : F40 (k + 2) a0_0 a0_1 =
    (F89 k a0_1).bind fun r1 => some (((a0_0, r1.1.1, ()), ()), (((), (), ()), ())) := by kernel_rfl
theorem F41_eq (k : Nat) (a0_0 : Int) (a0_1 : List (Bool × (List ByteArray) × (List ByteArray) × (List Int) × Unit)) : F41 (k + 2) a0_0 a0_1 =
    (F90 k a0_0 a0_1).bind fun r1 => some ((decide (r1.1.1 > (0 : Int)), ()), (((), (), ()), ())) := by kernel_rfl
theorem F42_eq (k : Nat) (a0_0 : Int) (a0_1 : List (Bool × (List ByteArray) × (List ByteArray) × (List Int) × Unit)) : F42 (k + 2) a0_0 a0_1 =
    (F88 k a0_0 a0_1).bind fun r1 => if (decide (r1.1.1 < (0 : Int))) = true then some (((0 : Int), ()), (((), (), ()), ())) else some ((r1.1.1, ()), (((), (), ()), ())) := by kernel_rfl
theorem F43_eq (k : Nat) (a0_0 : Int) (a0_1 : List (Bool × (List ByteArray) × (List ByteArray) × (List Int) × Unit)) : F43 (k + 2) a0_0 a0_1 =
    (F90 k a0_0 a0_1).bind fun r1 => some ((r1.1.1, ()), (((), (), ()), ())) := by kernel_rfl
theorem F49_eq (k : Nat) (a0_0 : Int) (a0_1 : List (Bool × (List ByteArray) × (List ByteArray) × (List Int) × Unit)) (a1 : ByteArray) : F49 (k + 2) a0_0 a0_1 a1 =
    (F88 k a0_0 a0_1).bind fun r1 => if (decide (r1.1.1 < (0 : Int))) = true then some (((⟨#[]⟩ : ByteArray), false, ()), (((), (), ()), (), ())) else (F94 k a0_0 a0_1 a1).bind fun r2 => some ((r2.1.1, r2.1.2.1, ()), (((), (), ()), (), ())) := by kernel_rfl
theorem F50_eq (k : Nat) (a0_0 : Int) (a0_1 : List (Bool × (List ByteArray) × (List ByteArray) × (List Int) × Unit)) (a1 : ByteArray) : F50 (k + 2) a0_0 a0_1 a1 =
    (F41 k a0_0 a0_1).bind fun r1 => if (!r1.1.1) = true then some (((⟨#[]⟩ : ByteArray), false, ()), (((), (), ()), (), ())) else (F95 k a0_0 a0_1 a1).bind fun r2 => some ((r2.1.1, r2.1.2.1, ()), (((), (), ()), (), ())) := by kernel_rfl
theorem F53_eq (k : Nat) (a0 : List ByteArray) (a1 : List ByteArray) : F53 (k + 2) a0 a1 =
    if ((a0.length : Int) != (a1.length : Int)) = true then some ((false, ()), ((), (), ())) else F53c4 k a0 a1 (0 : Int) := by kernel_rfl
theorem F53c4_eq (k : Nat) (x0 : List ByteArray) (x1 : List ByteArray) (x5 : Int) : F53c4 (k + 1) x0 x1 x5 =
    if (decide (x5 < (x0.length : Int))) = true then if (decide (0 ≤ x5)) = true then (x0[x5.toNat]?).bind fun y1 => if (decide (0 ≤ x5)) = true then (x1[x5.toNat]?).bind fun y2 => if (!(y1.toList == y2.toList)) = true then some ((false, ()), ((), (), ())) else F53c4 k x0 x1 (IntKind.i64.wrap (x5 + (1 : Int))) else none else none else some ((true, ()), ((), (), ())) := by kernel_rfl
theorem F60_eq (k : Nat) (a0 : List (Bool × (List ByteArray) × (List ByteArray) × (List Int) × Unit)) (a1 : List (Bool × (List ByteArray) × (List ByteArray) × (List Int) × Unit)) : F60 (k + 2) a0 a1 =
    if ((a0.length : Int) != (a1.length : Int)) = true then some ((false, ()), ((), (), ())) else F60c4 k a0 a1 (0 : Int) := by kernel_rfl
theorem F60c4_eq (k : Nat) (x0 : List (Bool × (List ByteArray) × (List ByteArray) × (List Int) × Unit)) (x1 : List (Bool × (List ByteArray) × (List ByteArray) × (List Int) × Unit)) (x5 : Int) : F60c4 (k + 1) x0 x1 x5 =
    if (decide (x5 < (x0.length : Int))) = true then if (decide (0 ≤ x5)) = true then (x0[x5.toNat]?).bind fun y1 => if (decide (0 ≤ x5)) = true then (x1[x5.toNat]?).bind fun y2 => (F98 k y1.1 y1.2.1 y1.2.2.1 y1.2.2.2.1 y2.1 y2.2.1 y2.2.2.1 y2.2.2.2.1).bind fun r3 => if (!r3.1.1) = true then some ((false, ()), ((), (), ())) else F60c4 k x0 x1 (IntKind.i64.wrap (x5 + (1 : Int))) else none else none else some ((true, ()), ((), (), ())) := by kernel_rfl
theorem F63_eq (k : Nat) (a0 : List ByteArray) (a1 : Int) : F63 (k + 2) a0 a1 =
    if (decide ((IntKind.i64.wrap (a1 - (a0.length : Int))) < (0 : Int))) = true then some (((-1 : Int), ()), ((), (), ())) else F63c5 k a0 (IntKind.i64.wrap (a1 - (a0.length : Int))) (0 : Int) := by kernel_rfl
theorem F63c5_eq (k : Nat) (x0 : List ByteArray) (x1 : Int) (x5 : Int) : F63c5 (k + 1) x0 x1 x5 =
    if (decide (x5 < (x0.length : Int))) = true then if (decide (0 ≤ x5)) = true then (x0[x5.toNat]?).bind fun y1 => if (decide ((IntKind.i64.wrap (x1 - (y1.size : Int))) < (0 : Int))) = true then some (((-1 : Int), ()), ((), (), ())) else F63c5 k x0 (IntKind.i64.wrap (x1 - (y1.size : Int))) (IntKind.i64.wrap (x5 + (1 : Int))) else none else some ((x1, ()), ((), (), ())) := by kernel_rfl
theorem F66_eq (k : Nat) (a0 : List ByteArray) : F66 (k + 2) a0 =
    if (decide (0 ≤ (a0.length : Int)) && decide ((a0.length : Int) ≤ (a0.length : Int)) && decide ((a0.length : Int) ≤ (8796093022208 : Int))) = true then F66c3 k a0 (List.replicate (a0.length : Int).toNat ByteArray.empty) (0 : Int) else none := by kernel_rfl
theorem F66c3_eq (k : Nat) (x0 : List ByteArray) (x3 : List ByteArray) (x4 : Int) : F66c3 (k + 1) x0 x3 x4 =
    if (decide (x4 < (x0.length : Int))) = true then if (decide (0 ≤ x4)) = true then (x0[x4.toNat]?).bind fun y1 => if (decide (0 ≤ x4) && decide (x4 < (x3.length : Int))) = true then (x3[x4.toNat]?).bind fun y2 => F66c3 k x0 (x3.set x4.toNat y1) (IntKind.i64.wrap (x4 + (1 : Int))) else none else none else some ((x3, ()), ((), ())) := by kernel_rfl
theorem F73_eq (k : Nat) (a0 : Int) (a1 : Int) (a2 : Int) : F73 (k + 2) a0 a1 a2 =
    if (decide (a0 ≥ a1)) = true then some ((decide (a0 ≤ a2), ()), ((), (), (), ())) else some ((false, ()), ((), (), (), ())) := by kernel_rfl
theorem F87_eq (k : Nat) (a0 : List (Bool × (List ByteArray) × (List ByteArray) × (List Int) × Unit)) (a1 : Int) : F87 (k + 2) a0 a1 =
    if (decide ((IntKind.i64.wrap (a1 - (a0.length : Int))) < (0 : Int))) = true then some (((-1 : Int), ()), ((), (), ())) else F87c5 k a0 (IntKind.i64.wrap (a1 - (a0.length : Int))) (0 : Int) := by kernel_rfl
theorem F87c5_eq (k : Nat) (x0 : List (Bool × (List ByteArray) × (List ByteArray) × (List Int) × Unit)) (x1 : Int) (x5 : Int) : F87c5 (k + 1) x0 x1 x5 =
    if (decide (x5 < (x0.length : Int))) = true then if (decide (0 ≤ x5)) = true then (x0[x5.toNat]?).bind fun y1 => (F112 k y1.1 y1.2.1 y1.2.2.1 y1.2.2.2.1 x1).bind fun r2 => if (decide (r2.1.1 < (0 : Int))) = true then some (((-1 : Int), ()), ((), (), ())) else F87c5 k x0 r2.1.1 (IntKind.i64.wrap (x5 + (1 : Int))) else none else some ((x1, ()), ((), (), ())) := by kernel_rfl
theorem F88_eq (k : Nat) (a0_0 : Int) (a0_1 : List (Bool × (List ByteArray) × (List ByteArray) × (List Int) × Unit)) : F88 (k + 2) a0_0 a0_1 =
    if ((a0_1.length : Int) != (19 : Int)) = true then some (((-1 : Int), ()), (((), (), ()), ())) else (F73 k a0_0 (0 : Int) (18 : Int)).bind fun r1 => if (!r1.1.1) = true then some (((-1 : Int), ()), (((), (), ()), ())) else if (decide (0 ≤ (19 : Int)) && decide ((19 : Int) ≤ (19 : Int)) && decide ((19 : Int) ≤ (140737488355328 : Int))) = true then (F113 k a0_0 a0_1 a0_0 (⟨#[]⟩ : ByteArray) (⟨#[]⟩ : ByteArray) true (List.replicate 19 false)).bind fun r2 => F88c6 k a0_0 a0_1 r2.2.2.2.2.2.2.1 r2.1.1 (0 : Int) else none := by kernel_rfl
theorem F88c6_eq (k : Nat) (x1_0 : Int) (x1_1 : List (Bool × (List ByteArray) × (List ByteArray) × (List Int) × Unit)) (x3 : List Bool) (x4 : Int) (x5 : Int) : F88c6 (k + 1) x1_0 x1_1 x3 x4 x5 =
    if (decide (x5 < (x3.length : Int))) = true then if (decide (0 ≤ x5) && decide (x5 < (x3.length : Int))) = true then (x3[x5.toNat]?).bind fun y3 => if (!y3) = true then if (decide (0 ≤ x5)) = true then (x1_1[x5.toNat]?).bind fun y4 => (F114 k y4.1 y4.2.1 y4.2.2.1 y4.2.2.2.1).bind fun r5 => if (!r5.1.1) = true then some (((-1 : Int), ()), (((), (), ()), ())) else F88c6 k x1_0 x1_1 x3 x4 (IntKind.i64.wrap (x5 + (1 : Int))) else none else F88c6 k x1_0 x1_1 x3 x4 (IntKind.i64.wrap (x5 + (1 : Int))) else none else some ((x4, ()), (((), (), ()), ())) := by kernel_rfl
theorem F89_eq (k : Nat) (a0 : List (Bool × (List ByteArray) × (List ByteArray) × (List Int) × Unit)) : F89 (k + 2) a0 =
    if (decide (0 ≤ (a0.length : Int)) && decide ((a0.length : Int) ≤ (a0.length : Int)) && decide ((a0.length : Int) ≤ (1759218604441 : Int))) = true then F89c3 k a0 (List.replicate (a0.length : Int).toNat (false, (([] : List ByteArray), (([] : List ByteArray), (([] : List Int), ()))))) (0 : Int) else none := by kernel_rfl
theorem F89c3_eq (k : Nat) (x0 : List (Bool × (List ByteArray) × (List ByteArray) × (List Int) × Unit)) (x3 : List (Bool × (List ByteArray) × (List ByteArray) × (List Int) × Unit)) (x4 : Int) : F89c3 (k + 1) x0 x3 x4 =
    if (decide (x4 < (x0.length : Int))) = true then if (decide (0 ≤ x4)) = true then (x0[x4.toNat]?).bind fun y1 => (F115 k y1.1 y1.2.1 y1.2.2.1 y1.2.2.2.1).bind fun r2 => if (decide (0 ≤ x4) && decide (x4 < (x3.length : Int))) = true then (x3[x4.toNat]?).bind fun y3 => F89c3 k x0 (x3.set x4.toNat (r2.1.1.1, (r2.1.1.2.1, (r2.1.1.2.2.1, (r2.1.1.2.2.2.1, ()))))) (IntKind.i64.wrap (x4 + (1 : Int))) else none else none else some ((x3, ()), ((), ())) := by kernel_rfl
theorem F90_eq (k : Nat) (a0_0 : Int) (a0_1 : List (Bool × (List ByteArray) × (List ByteArray) × (List Int) × Unit)) : F90 (k + 2) a0_0 a0_1 =
    if ((a0_1.length : Int) != (19 : Int)) = true then some (((0 : Int), ()), (((), (), ()), ())) else (F106 k a0_0 (0 : Int) (18 : Int)).bind fun r1 => if (!r1.1.1) = true then some (((0 : Int), ()), (((), (), ()), ())) else if (decide (0 ≤ (19 : Int)) && decide ((19 : Int) ≤ (19 : Int)) && decide ((19 : Int) ≤ (140737488355328 : Int))) = true then (F116 k a0_0 a0_1 (List.replicate 19 false) (0 : Int) a0_0 (1 : Int) (⟨#[]⟩ : ByteArray) (⟨#[]⟩ : ByteArray)).bind fun r2 => if (!r2.1.1) = true then some (((0 : Int), ()), (((), (), ()), ())) else F90c7 k r2.2.1.1 r2.2.1.2.1 r2.2.1.2.2.1 r2.2.1.2.2.2.1 a0_1 (a0_1.length : Int) (0 : Int) else none := by kernel_rfl
theorem F90c7_eq (k : Nat) (x3_0 : Int) (x3_1 : List (Bool × (List ByteArray) × (List ByteArray) × (List Int) × Unit)) (x3_2 : List Bool) (x3_3 : Int) (x26 : List (Bool × (List ByteArray) × (List ByteArray) × (List Int) × Unit)) (x27 : Int) (x28 : Int) : F90c7 (k + 1) x3_0 x3_1 x3_2 x3_3 x26 x27 x28 =
    if (decide (x28 < x27)) = true then if (decide (0 ≤ x28)) = true then (x26[x28.toNat]?).bind fun y3 => if (decide (0 ≤ x28) && decide (x28 < (x3_2.length : Int))) = true then (x3_2[x28.toNat]?).bind fun y4 => if (!y4) = true then (F117 k y3.1 y3.2.1 y3.2.2.1 y3.2.2.2.1).bind fun r5 => if (!r5.1.1) = true then some (((0 : Int), ()), (((), (), ()), ())) else F90c7 k x3_0 x3_1 x3_2 x3_3 x26 x27 (IntKind.i64.wrap (x28 + (1 : Int))) else F90c7 k x3_0 x3_1 x3_2 x3_3 x26 x27 (IntKind.i64.wrap (x28 + (1 : Int))) else none else none else some ((x3_3, ()), (((), (), ()), ())) := by kernel_rfl
theorem F94_eq (k : Nat) (a0_0 : Int) (a0_1 : List (Bool × (List ByteArray) × (List ByteArray) × (List Int) × Unit)) (a1 : ByteArray) : F94 (k + 2) a0_0 a0_1 a1 =
    (F123 k a0_0 a0_1 a1).bind fun r1 => (F124 k r1.1.1.2.1 a1).bind fun r2 => if (decide (r2.1.1 < (r1.1.1.2.1.length : Int))) = true then if (decide (0 ≤ r2.1.1)) = true then (r1.1.1.2.1[r2.1.1.toNat]?).bind fun y3 => if (y3.toList == a1.toList) = true then if (decide (0 ≤ r2.1.1)) = true then (r1.1.1.2.2.1[r2.1.1.toNat]?).bind fun y4 => some ((y4, true, ()), (((), (), ()), (), ())) else none else some (((⟨#[]⟩ : ByteArray), false, ()), (((), (), ()), (), ())) else none else some (((⟨#[]⟩ : ByteArray), false, ()), (((), (), ()), (), ())) := by kernel_rfl
theorem F95_eq (k : Nat) (a0_0 : Int) (a0_1 : List (Bool × (List ByteArray) × (List ByteArray) × (List Int) × Unit)) (a1 : ByteArray) : F95 (k + 2) a0_0 a0_1 a1 =
    (F125 k a0_0 a0_1 a1).bind fun r1 => if (decide (0 ≤ (IntKind.i64.wrap ((r1.1.1.length : Int) - (1 : Int))))) = true then (r1.1.1[(IntKind.i64.wrap ((r1.1.1.length : Int) - (1 : Int))).toNat]?).bind fun y2 => if (decide (0 ≤ y2)) = true then (a0_1[y2.toNat]?).bind fun y3 => (F126 k y3.2.1 a1).bind fun r4 => if (!r4.1.2.1) = true then some (((⟨#[]⟩ : ByteArray), false, ()), (((), (), ()), (), ())) else if (decide (0 ≤ r4.1.1)) = true then (y3.2.2.1[r4.1.1.toNat]?).bind fun y5 => some ((y5, true, ()), (((), (), ()), (), ())) else none else none else none := by kernel_rfl
theorem F98_eq (k : Nat) (a0_0 : Bool) (a0_1 : List ByteArray) (a0_2 : List ByteArray) (a0_3 : List Int) (a1_0 : Bool) (a1_1 : List ByteArray) (a1_2 : List ByteArray) (a1_3 : List Int) : F98 (k + 2) a0_0 a0_1 a0_2 a0_3 a1_0 a1_1 a1_2 a1_3 =
    if (!(a0_0 == a1_0)) = true then some ((false, ()), (((), (), (), (), ()), ((), (), (), (), ()), ())) else (F53 k a0_1 a1_1).bind fun r1 => if (!r1.1.1) = true then some ((false, ()), (((), (), (), (), ()), ((), (), (), (), ()), ())) else (F53 k a0_2 a1_2).bind fun r2 => if (!r2.1.1) = true then some ((false, ()), (((), (), (), (), ()), ((), (), (), (), ()), ())) else (F127 k a0_3 a1_3).bind fun r3 => if (!r3.1.1) = true then some ((false, ()), (((), (), (), (), ()), ((), (), (), (), ()), ())) else some ((true, ()), (((), (), (), (), ()), ((), (), (), (), ()), ())) := by kernel_rfl
theorem F106_eq (k : Nat) (a0 : Int) (a1 : Int) (a2 : Int) : F106 (k + 2) a0 a1 a2 =
    if (decide (a0 ≥ a1)) = true then some ((decide (a0 ≤ a2), ()), ((), (), (), ())) else some ((false, ()), ((), (), (), ())) := by kernel_rfl
theorem F112_eq (k : Nat) (a0_0 : Bool) (a0_1 : List ByteArray) (a0_2 : List ByteArray) (a0_3 : List Int) (a1 : Int) : F112 (k + 2) a0_0 a0_1 a0_2 a0_3 a1 =
    (F63 k a0_1 a1).bind fun r1 => if (decide (r1.1.1 < (0 : Int))) = true then some (((-1 : Int), ()), (((), (), (), (), ()), (), ())) else (F63 k a0_2 r1.1.1).bind fun r2 => if (decide (r2.1.1 < (0 : Int))) = true then some (((-1 : Int), ()), (((), (), (), (), ()), (), ())) else (F131 k a0_3 r2.1.1).bind fun r3 => if (decide (r3.1.1 < (0 : Int))) = true then some (((-1 : Int), ()), (((), (), (), (), ()), (), ())) else some ((r3.1.1, ()), (((), (), (), (), ()), (), ())) := by kernel_rfl
theorem F113_eq (k : Nat) (a0_0 : Int) (a0_1 : List (Bool × (List ByteArray) × (List ByteArray) × (List Int) × Unit)) (a1 : Int) (a2 : ByteArray) (a3 : ByteArray) (a4 : Bool) (a5 : List Bool) : F113 (k + 2) a0_0 a0_1 a1 a2 a3 a4 a5 =
    if (decide (0 ≤ a1) && decide (a1 < (a5.length : Int))) = true then (a5[a1.toNat]?).bind fun y1 => if y1 = true then some (((-1 : Int), ()), (((), (), ()), (), (), (), (), a5, ())) else if (decide (0 ≤ a1) && decide (a1 < (a5.length : Int))) = true then (a5[a1.toNat]?).bind fun y2 => if (decide (0 ≤ a1)) = true then (a0_1[a1.toNat]?).bind fun y3 => (F132 k y3.1 y3.2.1 y3.2.2.1 y3.2.2.2.1).bind fun r4 => if (!r4.1.1) = true then some (((-1 : Int), ()), (((), (), ()), (), (), (), (), a5.set a1.toNat true, ())) else (F133 k y3.2.1 a2 a3).bind fun r5 => if (!r5.1.1) = true then some (((-1 : Int), ()), (((), (), ()), (), (), (), (), a5.set a1.toNat true, ())) else if (!a4) = true then if (decide ((y3.2.1.length : Int) < (2 : Int))) = true then some (((-1 : Int), ()), (((), (), ()), (), (), (), (), a5.set a1.toNat true, ())) else if y3.1 = true then some (((1 : Int), ()), (((), (), ()), (), (), (), (), a5.set a1.toNat true, ())) else F113c11 k a2 a3 (a5.set a1.toNat true) a0_0 a0_1 y3.1 y3.2.1 y3.2.2.1 y3.2.2.2.1 (0 : Int) (0 : Int) else if y3.1 = true then some (((1 : Int), ()), (((), (), ()), (), (), (), (), a5.set a1.toNat true, ())) else F113c11 k a2 a3 (a5.set a1.toNat true) a0_0 a0_1 y3.1 y3.2.1 y3.2.2.1 y3.2.2.2.1 (0 : Int) (0 : Int) else none else none else none := by kernel_rfl
theorem F113c11_eq (k : Nat) (x2 : ByteArray) (x3 : ByteArray) (x5 : List Bool) (x6_0 : Int) (x6_1 : List (Bool × (List ByteArray) × (List ByteArray) × (List Int) × Unit)) (x13_0 : Bool) (x13_1 : List ByteArray) (x13_2 : List ByteArray) (x13_3 : List Int) (x14 : Int) (x15 : Int) : F113c11 (k + 1) x2 x3 x5 x6_0 x6_1 x13_0 x13_1 x13_2 x13_3 x14 x15 =
    if (decide (x15 < (x13_3.length : Int))) = true then if (decide (x15 > (0 : Int))) = true then if (decide (0 ≤ (IntKind.i64.wrap (x15 - (1 : Int))))) = true then (x13_1[(IntKind.i64.wrap (x15 - (1 : Int))).toNat]?).bind fun y6 => F113c17 k x2 x3 x5 x6_0 x6_1 x13_0 x13_1 x13_2 x13_3 x14 x15 y6 x3 else none else F113c17 k x2 x3 x5 x6_0 x6_1 x13_0 x13_1 x13_2 x13_3 x14 x15 x2 x3 else some (((IntKind.i64.wrap (x14 + (1 : Int))), ()), (((), (), ()), (), (), (), (), x5, ())) := by kernel_rfl
theorem F113c17_eq (k : Nat) (x2 : ByteArray) (x3 : ByteArray) (x5 : List Bool) (x6_0 : Int) (x6_1 : List (Bool × (List ByteArray) × (List ByteArray) × (List Int) × Unit)) (x13_0 : Bool) (x13_1 : List ByteArray) (x13_2 : List ByteArray) (x13_3 : List Int) (x14 : Int) (x15 : Int) (x16 : ByteArray) (x17 : ByteArray) : F113c17 (k + 1) x2 x3 x5 x6_0 x6_1 x13_0 x13_1 x13_2 x13_3 x14 x15 x16 x17 =
    if (decide (x15 < (x13_1.length : Int))) = true then if (decide (0 ≤ x15)) = true then (x13_1[x15.toNat]?).bind fun y7 => F113c19 k x2 x3 x5 x6_0 x6_1 x13_0 x13_1 x13_2 x13_3 x14 x15 x16 y7 else none else F113c19 k x2 x3 x5 x6_0 x6_1 x13_0 x13_1 x13_2 x13_3 x14 x15 x16 x17 := by kernel_rfl
theorem F113c19_eq (k : Nat) (x2 : ByteArray) (x3 : ByteArray) (x5 : List Bool) (x6_0 : Int) (x6_1 : List (Bool × (List ByteArray) × (List ByteArray) × (List Int) × Unit)) (x13_0 : Bool) (x13_1 : List ByteArray) (x13_2 : List ByteArray) (x13_3 : List Int) (x14 : Int) (x15 : Int) (x16 : ByteArray) (x17 : ByteArray) : F113c19 (k + 1) x2 x3 x5 x6_0 x6_1 x13_0 x13_1 x13_2 x13_3 x14 x15 x16 x17 =
    if (decide (0 ≤ x15)) = true then (x13_3[x15.toNat]?).bind fun y8 => (F113 k x6_0 x6_1 y8 x16 x17 false x5).bind fun r9 => if (decide (r9.1.1 < (0 : Int))) = true then some (((-1 : Int), ()), (((), (), ()), (), (), (), (), r9.2.2.2.2.2.2.1, ())) else if (decide (x14 > (0 : Int))) = true then if (r9.1.1 != x14) = true then some (((-1 : Int), ()), (((), (), ()), (), (), (), (), r9.2.2.2.2.2.2.1, ())) else F113c11 k x2 x3 r9.2.2.2.2.2.2.1 x6_0 x6_1 x13_0 x13_1 x13_2 x13_3 r9.1.1 (IntKind.i64.wrap (x15 + (1 : Int))) else F113c11 k x2 x3 r9.2.2.2.2.2.2.1 x6_0 x6_1 x13_0 x13_1 x13_2 x13_3 r9.1.1 (IntKind.i64.wrap (x15 + (1 : Int))) else none := by kernel_rfl
theorem F114_eq (k : Nat) (a0_0 : Bool) (a0_1 : List ByteArray) (a0_2 : List ByteArray) (a0_3 : List Int) : F114 (k + 2) a0_0 a0_1 a0_2 a0_3 =
    if (!a0_0) = true then if ((a0_1.length : Int) == (0 : Int)) = true then if ((a0_2.length : Int) == (0 : Int)) = true then some ((((a0_3.length : Int) == (0 : Int)), ()), (((), (), (), (), ()), ())) else some ((false, ()), (((), (), (), (), ()), ())) else some ((false, ()), (((), (), (), (), ()), ())) else some ((false, ()), (((), (), (), (), ()), ())) := by kernel_rfl
theorem F115_eq (k : Nat) (a0_0 : Bool) (a0_1 : List ByteArray) (a0_2 : List ByteArray) (a0_3 : List Int) : F115 (k + 2) a0_0 a0_1 a0_2 a0_3 =
    (F66 k a0_1).bind fun r1 => (F66 k a0_2).bind fun r2 => (F134 k a0_3).bind fun r3 => some (((a0_0, r1.1.1, r2.1.1, r3.1.1, ()), ()), (((), (), (), (), ()), ())) := by kernel_rfl
theorem F116_eq (k : Nat) (a0_0 : Int) (a0_1 : List (Bool × (List ByteArray) × (List ByteArray) × (List Int) × Unit)) (a0_2 : List Bool) (a0_3 : Int) (a1 : Int) (a2 : Int) (a3 : ByteArray) (a4 : ByteArray) : F116 (k + 2) a0_0 a0_1 a0_2 a0_3 a1 a2 a3 a4 =
    if (decide (0 ≤ a1)) = true then (a0_1[a1.toNat]?).bind fun y1 => if (decide (0 ≤ a1) && decide (a1 < (a0_2.length : Int))) = true then (a0_2[a1.toNat]?).bind fun y2 => if y2 = true then some ((false, ()), ((a0_0, a0_1, a0_2, a0_3, ()), (), (), (), (), ())) else (F135 k y1.1 y1.2.1 y1.2.2.1 y1.2.2.2.1).bind fun r3 => if (!r3.1.1) = true then some ((false, ()), ((a0_0, a0_1, a0_2, a0_3, ()), (), (), (), (), ())) else if (a1 != a0_0) = true then if (decide ((y1.2.1.length : Int) < (2 : Int))) = true then some ((false, ()), ((a0_0, a0_1, a0_2, a0_3, ()), (), (), (), (), ())) else if (decide (0 ≤ a1) && decide (a1 < (a0_2.length : Int))) = true then (a0_2[a1.toNat]?).bind fun y4 => F116c6 k a0_0 a0_1 (a0_2.set a1.toNat true) a0_3 a2 a3 a4 y1.1 y1.2.1 y1.2.2.1 y1.2.2.2.1 y1.2.1 (y1.2.1.length : Int) (0 : Int) else none else if (decide (0 ≤ a1) && decide (a1 < (a0_2.length : Int))) = true then (a0_2[a1.toNat]?).bind fun y5 => F116c6 k a0_0 a0_1 (a0_2.set a1.toNat true) a0_3 a2 a3 a4 y1.1 y1.2.1 y1.2.2.1 y1.2.2.2.1 y1.2.1 (y1.2.1.length : Int) (0 : Int) else none else none else none := by kernel_rfl
theorem F116c6_eq (k : Nat) (x0_0 : Int) (x0_1 : List (Bool × (List ByteArray) × (List ByteArray) × (List Int) × Unit)) (x0_2 : List Bool) (x0_3 : Int) (x2 : Int) (x3 : ByteArray) (x4 : ByteArray) (x11_0 : Bool) (x11_1 : List ByteArray) (x11_2 : List ByteArray) (x11_3 : List Int) (x60 : List ByteArray) (x61 : Int) (x62 : Int) : F116c6 (k + 1) x0_0 x0_1 x0_2 x0_3 x2 x3 x4 x11_0 x11_1 x11_2 x11_3 x60 x61 x62 =
    if (decide (x62 < x61)) = true then if (decide (0 ≤ x62)) = true then (x60[x62.toNat]?).bind fun y6 => if (Op.bytesLess y6.toList x3.toList) = true then some ((false, ()), ((x0_0, x0_1, x0_2, x0_3, ()), (), (), (), (), ())) else if (!(x4.toList == (⟨#[]⟩ : ByteArray).toList)) = true then if (!(Op.bytesLess y6.toList x4.toList)) = true then some ((false, ()), ((x0_0, x0_1, x0_2, x0_3, ()), (), (), (), (), ())) else F116c6 k x0_0 x0_1 x0_2 x0_3 x2 x3 x4 x11_0 x11_1 x11_2 x11_3 x60 x61 (IntKind.i64.wrap (x62 + (1 : Int))) else F116c6 k x0_0 x0_1 x0_2 x0_3 x2 x3 x4 x11_0 x11_1 x11_2 x11_3 x60 x61 (IntKind.i64.wrap (x62 + (1 : Int))) else none else if x11_0 = true then if (x0_3 == (0 : Int)) = true then F116c14 k x0_0 x0_1 x0_2 x2 x2 else F116c14 k x0_0 x0_1 x0_2 x0_3 x2 else F116c16 k x0_0 x0_1 x0_2 x0_3 x2 x3 x4 x11_0 x11_1 x11_2 x11_3 x11_3 (x11_3.length : Int) (0 : Int) := by kernel_rfl
theorem F116c14_eq (k : Nat) (x0_0 : Int) (x0_1 : List (Bool × (List ByteArray) × (List ByteArray) × (List Int) × Unit)) (x0_2 : List Bool) (x0_3 : Int) (x2 : Int) : F116c14 (k + 1) x0_0 x0_1 x0_2 x0_3 x2 =
    some (((x0_3 == x2), ()), ((x0_0, x0_1, x0_2, x0_3, ()), (), (), (), (), ())) := by kernel_rfl
theorem F116c16_eq (k : Nat) (x0_0 : Int) (x0_1 : List (Bool × (List ByteArray) × (List ByteArray) × (List Int) × Unit)) (x0_2 : List Bool) (x0_3 : Int) (x2 : Int) (x3 : ByteArray) (x4 : ByteArray) (x11_0 : Bool) (x11_1 : List ByteArray) (x11_2 : List ByteArray) (x11_3 : List Int) (x97 : List Int) (x98 : Int) (x99 : Int) : F116c16 (k + 1) x0_0 x0_1 x0_2 x0_3 x2 x3 x4 x11_0 x11_1 x11_2 x11_3 x97 x98 x99 =
    if (decide (x99 < x98)) = true then if (decide (0 ≤ x99)) = true then (x97[x99.toNat]?).bind fun y7 => if (decide (x99 > (0 : Int))) = true then if (decide (0 ≤ (IntKind.i64.wrap (x99 - (1 : Int))))) = true then (x11_1[(IntKind.i64.wrap (x99 - (1 : Int))).toNat]?).bind fun y8 => F116c21 k x0_0 x0_1 x0_2 x0_3 x2 x3 x4 x11_0 x11_1 x11_2 x11_3 x99 y7 y8 x4 x97 x98 x99 else none else F116c21 k x0_0 x0_1 x0_2 x0_3 x2 x3 x4 x11_0 x11_1 x11_2 x11_3 x99 y7 x3 x4 x97 x98 x99 else none else some ((true, ()), ((x0_0, x0_1, x0_2, x0_3, ()), (), (), (), (), ())) := by kernel_rfl
theorem F116c21_eq (k : Nat) (x0_0 : Int) (x0_1 : List (Bool × (List ByteArray) × (List ByteArray) × (List Int) × Unit)) (x0_2 : List Bool) (x0_3 : Int) (x2 : Int) (x3 : ByteArray) (x4 : ByteArray) (x11_0 : Bool) (x11_1 : List ByteArray) (x11_2 : List ByteArray) (x11_3 : List Int) (x14 : Int) (x15 : Int) (x16 : ByteArray) (x17 : ByteArray) (x97 : List Int) (x98 : Int) (x99 : Int) : F116c21 (k + 1) x0_0 x0_1 x0_2 x0_3 x2 x3 x4 x11_0 x11_1 x11_2 x11_3 x14 x15 x16 x17 x97 x98 x99 =
    if (decide (x14 < (x11_1.length : Int))) = true then if (decide (0 ≤ x14)) = true then (x11_1[x14.toNat]?).bind fun y9 => F116c23 k x0_0 x0_1 x0_2 x0_3 x2 x3 x4 x11_0 x11_1 x11_2 x11_3 x15 x16 y9 x97 x98 x99 else none else F116c23 k x0_0 x0_1 x0_2 x0_3 x2 x3 x4 x11_0 x11_1 x11_2 x11_3 x15 x16 x17 x97 x98 x99 := by kernel_rfl
theorem F116c23_eq (k : Nat) (x0_0 : Int) (x0_1 : List (Bool × (List ByteArray) × (List ByteArray) × (List Int) × Unit)) (x0_2 : List Bool) (x0_3 : Int) (x2 : Int) (x3 : ByteArray) (x4 : ByteArray) (x11_0 : Bool) (x11_1 : List ByteArray) (x11_2 : List ByteArray) (x11_3 : List Int) (x15 : Int) (x16 : ByteArray) (x17 : ByteArray) (x97 : List Int) (x98 : Int) (x99 : Int) : F116c23 (k + 1) x0_0 x0_1 x0_2 x0_3 x2 x3 x4 x11_0 x11_1 x11_2 x11_3 x15 x16 x17 x97 x98 x99 =
    (F116 k x0_0 x0_1 x0_2 x0_3 x15 (IntKind.i64.wrap (x2 + (1 : Int))) x16 x17).bind fun r10 => if (!r10.1.1) = true then some ((false, ()), ((r10.2.1.1, r10.2.1.2.1, r10.2.1.2.2.1, r10.2.1.2.2.2.1, ()), (), (), (), (), ())) else F116c16 k r10.2.1.1 r10.2.1.2.1 r10.2.1.2.2.1 r10.2.1.2.2.2.1 x2 x3 x4 x11_0 x11_1 x11_2 x11_3 x97 x98 (IntKind.i64.wrap (x99 + (1 : Int))) := by kernel_rfl
theorem F117_eq (k : Nat) (a0_0 : Bool) (a0_1 : List ByteArray) (a0_2 : List ByteArray) (a0_3 : List Int) : F117 (k + 2) a0_0 a0_1 a0_2 a0_3 =
    if (!a0_0) = true then if ((a0_1.length : Int) == (0 : Int)) = true then if ((a0_2.length : Int) == (0 : Int)) = true then some ((((a0_3.length : Int) == (0 : Int)), ()), (((), (), (), (), ()), ())) else some ((false, ()), (((), (), (), (), ()), ())) else some ((false, ()), (((), (), (), (), ()), ())) else some ((false, ()), (((), (), (), (), ()), ())) := by kernel_rfl
theorem F123_eq (k : Nat) (a0_0 : Int) (a0_1 : List (Bool × (List ByteArray) × (List ByteArray) × (List Int) × Unit)) (a1 : ByteArray) : F123 (k + 2) a0_0 a0_1 a1 =
    F123c2 k a1 a0_0 a0_1 false ([] : List ByteArray) ([] : List ByteArray) ([] : List Int) a0_0 := by kernel_rfl
theorem F123c2_eq (k : Nat) (x1 : ByteArray) (x2_0 : Int) (x2_1 : List (Bool × (List ByteArray) × (List ByteArray) × (List Int) × Unit)) (x4_0 : Bool) (x4_1 : List ByteArray) (x4_2 : List ByteArray) (x4_3 : List Int) (x5 : Int) : F123c2 (k + 1) x1 x2_0 x2_1 x4_0 x4_1 x4_2 x4_3 x5 =
    if (decide (0 ≤ x5)) = true then (x2_1[x5.toNat]?).bind fun y1 => if (!y1.1) = true then if (decide (0 ≤ x5)) = true then (x2_1[x5.toNat]?).bind fun y2 => if (decide (0 ≤ x5)) = true then (x2_1[x5.toNat]?).bind fun y3 => (F140 k y3.2.1 x1).bind fun r4 => if (decide (0 ≤ r4.1.1)) = true then (y2.2.2.2.1[r4.1.1.toNat]?).bind fun y5 => F123c2 k x1 x2_0 x2_1 x4_0 x4_1 x4_2 x4_3 y5 else none else none else none else if (decide (0 ≤ x5)) = true then (x2_1[x5.toNat]?).bind fun y6 => some (((y6.1, y6.2.1, y6.2.2.1, y6.2.2.2.1, ()), ()), (((), (), ()), (), ())) else none else none := by kernel_rfl
theorem F124_eq (k : Nat) (a0 : List ByteArray) (a1 : ByteArray) : F124 (k + 2) a0 a1 =
    F124c2 k a0 a1 (0 : Int) := by kernel_rfl
theorem F124c2_eq (k : Nat) (x0 : List ByteArray) (x1 : ByteArray) (x5 : Int) : F124c2 (k + 1) x0 x1 x5 =
    if (decide (x5 < (x0.length : Int))) = true then if (decide (0 ≤ x5)) = true then (x0[x5.toNat]?).bind fun y1 => if (Op.bytesLess y1.toList x1.toList) = true then F124c2 k x0 x1 (IntKind.i64.wrap (x5 + (1 : Int))) else some ((x5, ()), ((), (), ())) else none else some ((x5, ()), ((), (), ())) := by kernel_rfl
theorem F125_eq (k : Nat) (a0_0 : Int) (a0_1 : List (Bool × (List ByteArray) × (List ByteArray) × (List Int) × Unit)) (a1 : ByteArray) : F125 (k + 2) a0_0 a0_1 a1 =
    F125c2 k a1 a0_0 a0_1 [a0_0] := by kernel_rfl
theorem F125c2_eq (k : Nat) (x1 : ByteArray) (x2_0 : Int) (x2_1 : List (Bool × (List ByteArray) × (List ByteArray) × (List Int) × Unit)) (x5 : List Int) : F125c2 (k + 1) x1 x2_0 x2_1 x5 =
    if (decide (0 ≤ (IntKind.i64.wrap ((x5.length : Int) - (1 : Int)))) && decide ((IntKind.i64.wrap ((x5.length : Int) - (1 : Int))) < (x5.length : Int))) = true then (x5[(IntKind.i64.wrap ((x5.length : Int) - (1 : Int))).toNat]?).bind fun y1 => if (decide (0 ≤ y1)) = true then (x2_1[y1.toNat]?).bind fun y2 => if y2.1 = true then some ((x5, ()), (((), (), ()), (), ())) else (F141 k y2.1 y2.2.1 y2.2.2.1 y2.2.2.2.1 x1).bind fun r3 => if (decide (0 ≤ r3.1.1)) = true then (y2.2.2.2.1[r3.1.1.toNat]?).bind fun y4 => if (decide (x5.length + [y4].length ≤ 17592186044416)) = true then F125c2 k x1 x2_0 x2_1 (x5 ++ [y4]) else none else none else none else none := by kernel_rfl
theorem F126_eq (k : Nat) (a0 : List ByteArray) (a1 : ByteArray) : F126 (k + 2) a0 a1 =
    F126c3 k a0 a1 (a0.length : Int) (0 : Int) (a0.length : Int) := by kernel_rfl
theorem F126c3_eq (k : Nat) (x0 : List ByteArray) (x1 : ByteArray) (x6 : Int) (x7 : Int) (x8 : Int) : F126c3 (k + 1) x0 x1 x6 x7 x8 =
    if (decide (x7 < x8)) = true then if (decide (0 ≤ (IntKind.i64.wrap ((IntKind.u64.wrap (IntKind.i64.wrap (x7 + x8))).fdiv (2 ^ min (1 : Int).toNat IntKind.u64.bits))))) = true then (x0[(IntKind.i64.wrap ((IntKind.u64.wrap (IntKind.i64.wrap (x7 + x8))).fdiv (2 ^ min (1 : Int).toNat IntKind.u64.bits))).toNat]?).bind fun y1 => (F142 k y1 x1).bind fun r2 => if r2.1.1 = true then F126c3 k x0 x1 x6 (IntKind.i64.wrap ((IntKind.i64.wrap ((IntKind.u64.wrap (IntKind.i64.wrap (x7 + x8))).fdiv (2 ^ min (1 : Int).toNat IntKind.u64.bits))) + (1 : Int))) x8 else F126c3 k x0 x1 x6 x7 (IntKind.i64.wrap ((IntKind.u64.wrap (IntKind.i64.wrap (x7 + x8))).fdiv (2 ^ min (1 : Int).toNat IntKind.u64.bits))) else none else if (decide (x7 < x6)) = true then if (decide (0 ≤ x7)) = true then (x0[x7.toNat]?).bind fun y3 => if (y3.toList == x1.toList) = true then some ((x7, true, ()), ((), (), ())) else if (decide (0 ≤ x7)) = true then (x0[x7.toNat]?).bind fun y4 => (F143 k y4).bind fun r5 => if r5.1.1 = true then (F143 k x1).bind fun r6 => some ((x7, r6.1.1, ()), ((), (), ())) else some ((x7, false, ()), ((), (), ())) else none else none else some ((x7, false, ()), ((), (), ())) := by kernel_rfl
theorem F127_eq (k : Nat) (a0 : List Int) (a1 : List Int) : F127 (k + 2) a0 a1 =
    if ((a0.length : Int) != (a1.length : Int)) = true then some ((false, ()), ((), (), ())) else F127c4 k a0 a1 (0 : Int) := by kernel_rfl
theorem F127c4_eq (k : Nat) (x0 : List Int) (x1 : List Int) (x5 : Int) : F127c4 (k + 1) x0 x1 x5 =
    if (decide (x5 < (x0.length : Int))) = true then if (decide (0 ≤ x5)) = true then (x0[x5.toNat]?).bind fun y1 => if (decide (0 ≤ x5)) = true then (x1[x5.toNat]?).bind fun y2 => if (y1 != y2) = true then some ((false, ()), ((), (), ())) else F127c4 k x0 x1 (IntKind.i64.wrap (x5 + (1 : Int))) else none else none else some ((true, ()), ((), (), ())) := by kernel_rfl
theorem F131_eq (k : Nat) (a0 : List Int) (a1 : Int) : F131 (k + 2) a0 a1 =
    if (decide ((IntKind.i64.wrap (a1 - (a0.length : Int))) < (0 : Int))) = true then some (((-1 : Int), ()), ((), (), ())) else some (((IntKind.i64.wrap (a1 - (a0.length : Int))), ()), ((), (), ())) := by kernel_rfl
theorem F132_eq (k : Nat) (a0_0 : Bool) (a0_1 : List ByteArray) (a0_2 : List ByteArray) (a0_3 : List Int) : F132 (k + 2) a0_0 a0_1 a0_2 a0_3 =
    (F145 k a0_1).bind fun r1 => if (!r1.1.1) = true then some ((false, ()), (((), (), (), (), ()), ())) else if a0_0 = true then F132c5 k a0_0 a0_1 a0_2 a0_3 (0 : Int) else F132c11 k a0_0 a0_1 a0_2 a0_3 (0 : Int) := by kernel_rfl
theorem F132c5_eq (k : Nat) (x1_0 : Bool) (x1_1 : List ByteArray) (x1_2 : List ByteArray) (x1_3 : List Int) (x3 : Int) : F132c5 (k + 1) x1_0 x1_1 x1_2 x1_3 x3 =
    if (decide (x3 < (x1_2.length : Int))) = true then if (decide (0 ≤ x3)) = true then (x1_2[x3.toNat]?).bind fun y2 => if (decide ((y2.size : Int) > (140 : Int))) = true then some ((false, ()), (((), (), (), (), ()), ())) else F132c5 k x1_0 x1_1 x1_2 x1_3 (IntKind.i64.wrap (x3 + (1 : Int))) else none else if ((x1_2.length : Int) == (x1_1.length : Int)) = true then some ((((x1_3.length : Int) == (0 : Int)), ()), (((), (), (), (), ()), ())) else some ((false, ()), (((), (), (), (), ()), ())) := by kernel_rfl
theorem F132c11_eq (k : Nat) (x1_0 : Bool) (x1_1 : List ByteArray) (x1_2 : List ByteArray) (x1_3 : List Int) (x4 : Int) : F132c11 (k + 1) x1_0 x1_1 x1_2 x1_3 x4 =
    if (decide (x4 < (x1_3.length : Int))) = true then if (decide (0 ≤ x4)) = true then (x1_3[x4.toNat]?).bind fun y3 => (F73 k y3 (0 : Int) (18 : Int)).bind fun r4 => if (!r4.1.1) = true then some ((false, ()), (((), (), (), (), ()), ())) else F132c11 k x1_0 x1_1 x1_2 x1_3 (IntKind.i64.wrap (x4 + (1 : Int))) else none else if ((x1_2.length : Int) == (0 : Int)) = true then if (decide ((x1_1.length : Int) > (0 : Int))) = true then some ((((x1_3.length : Int) == (IntKind.i64.wrap ((x1_1.length : Int) + (1 : Int)))), ()), (((), (), (), (), ()), ())) else some ((false, ()), (((), (), (), (), ()), ())) else some ((false, ()), (((), (), (), (), ()), ())) := by kernel_rfl
theorem F133_eq (k : Nat) (a0 : List ByteArray) (a1 : ByteArray) (a2 : ByteArray) : F133 (k + 2) a0 a1 a2 =
    F133c2 k a0 a1 a2 (0 : Int) := by kernel_rfl
theorem F133c2_eq (k : Nat) (x0 : List ByteArray) (x1 : ByteArray) (x2 : ByteArray) (x7 : Int) : F133c2 (k + 1) x0 x1 x2 x7 =
    if (decide (x7 < (x0.length : Int))) = true then if (decide (0 ≤ x7)) = true then (x0[x7.toNat]?).bind fun y1 => if (Op.bytesLess y1.toList x1.toList) = true then some ((false, ()), ((), (), (), ())) else if (!(x2.toList == (⟨#[]⟩ : ByteArray).toList)) = true then if (decide (0 ≤ x7)) = true then (x0[x7.toNat]?).bind fun y2 => if (!(Op.bytesLess y2.toList x2.toList)) = true then some ((false, ()), ((), (), (), ())) else F133c2 k x0 x1 x2 (IntKind.i64.wrap (x7 + (1 : Int))) else none else F133c2 k x0 x1 x2 (IntKind.i64.wrap (x7 + (1 : Int))) else none else some ((true, ()), ((), (), (), ())) := by kernel_rfl
theorem F134_eq (k : Nat) (a0 : List Int) : F134 (k + 2) a0 =
    if (decide (0 ≤ (a0.length : Int)) && decide ((a0.length : Int) ≤ (a0.length : Int)) && decide ((a0.length : Int) ≤ (17592186044416 : Int))) = true then F134c3 k a0 (List.replicate (a0.length : Int).toNat (0 : Int)) (0 : Int) else none := by kernel_rfl
theorem F134c3_eq (k : Nat) (x0 : List Int) (x3 : List Int) (x4 : Int) : F134c3 (k + 1) x0 x3 x4 =
    if (decide (x4 < (x0.length : Int))) = true then if (decide (0 ≤ x4)) = true then (x0[x4.toNat]?).bind fun y1 => if (decide (0 ≤ x4) && decide (x4 < (x3.length : Int))) = true then (x3[x4.toNat]?).bind fun y2 => F134c3 k x0 (x3.set x4.toNat y1) (IntKind.i64.wrap (x4 + (1 : Int))) else none else none else some ((x3, ()), ((), ())) := by kernel_rfl
theorem F135_eq (k : Nat) (a0_0 : Bool) (a0_1 : List ByteArray) (a0_2 : List ByteArray) (a0_3 : List Int) : F135 (k + 2) a0_0 a0_1 a0_2 a0_3 =
    if (decide ((a0_1.length : Int) > (4 : Int))) = true then some ((false, ()), (((), (), (), (), ()), ())) else F135c4 k a0_0 a0_1 a0_2 a0_3 a0_1 (a0_1.length : Int) (0 : Int) := by kernel_rfl
theorem F135c4_eq (k : Nat) (x1_0 : Bool) (x1_1 : List ByteArray) (x1_2 : List ByteArray) (x1_3 : List Int) (x10 : List ByteArray) (x11 : Int) (x12 : Int) : F135c4 (k + 1) x1_0 x1_1 x1_2 x1_3 x10 x11 x12 =
    if (decide (x12 < x11)) = true then if (decide (0 ≤ x12)) = true then (x10[x12.toNat]?).bind fun y1 => (F106 k (y1.size : Int) (1 : Int) (96 : Int)).bind fun r2 => if (!r2.1.1) = true then some ((false, ()), (((), (), (), (), ()), ())) else if (decide (x12 > (0 : Int))) = true then if (decide (0 ≤ (IntKind.i64.wrap (x12 - (1 : Int))))) = true then (x1_1[(IntKind.i64.wrap (x12 - (1 : Int))).toNat]?).bind fun y3 => if (!(Op.bytesLess y3.toList y1.toList)) = true then some ((false, ()), (((), (), (), (), ()), ())) else F135c4 k x1_0 x1_1 x1_2 x1_3 x10 x11 (IntKind.i64.wrap (x12 + (1 : Int))) else none else F135c4 k x1_0 x1_1 x1_2 x1_3 x10 x11 (IntKind.i64.wrap (x12 + (1 : Int))) else none else if x1_0 = true then if ((x1_3.length : Int) == (0 : Int)) = true then if ((x1_2.length : Int) == (x1_1.length : Int)) = true then (F147068 k x1_2).bind fun r4 => some (((!r4.1.1), ()), (((), (), (), (), ()), ())) else some ((false, ()), (((), (), (), (), ()), ())) else some ((false, ()), (((), (), (), (), ()), ())) else if ((x1_2.length : Int) == (0 : Int)) = true then if (decide ((x1_1.length : Int) > (0 : Int))) = true then if ((x1_3.length : Int) == (IntKind.i64.wrap ((x1_1.length : Int) + (1 : Int)))) = true then (F149147 k x1_3).bind fun r5 => some (((!r5.1.1), ()), (((), (), (), (), ()), ())) else some ((false, ()), (((), (), (), (), ()), ())) else some ((false, ()), (((), (), (), (), ()), ())) else some ((false, ()), (((), (), (), (), ()), ())) := by kernel_rfl
theorem F140_eq (k : Nat) (a0 : List ByteArray) (a1 : ByteArray) : F140 (k + 2) a0 a1 =
    F140c2 k a0 a1 (0 : Int) := by kernel_rfl
theorem F140c2_eq (k : Nat) (x0 : List ByteArray) (x1 : ByteArray) (x5 : Int) : F140c2 (k + 1) x0 x1 x5 =
    if (decide (x5 < (x0.length : Int))) = true then if (decide (0 ≤ x5)) = true then (x0[x5.toNat]?).bind fun y1 => if (Op.bytesLess y1.toList x1.toList || y1.toList == x1.toList) = true then F140c2 k x0 x1 (IntKind.i64.wrap (x5 + (1 : Int))) else some ((x5, ()), ((), (), ())) else none else some ((x5, ()), ((), (), ())) := by kernel_rfl
theorem F141_eq (k : Nat) (a0_0 : Bool) (a0_1 : List ByteArray) (a0_2 : List ByteArray) (a0_3 : List Int) (a1 : ByteArray) : F141 (k + 2) a0_0 a0_1 a0_2 a0_3 a1 =
    (F126 k a0_1 a1).bind fun r1 => if r1.1.2.1 = true then F141c4 k (IntKind.i64.wrap (r1.1.1 + (1 : Int))) else F141c4 k r1.1.1 := by kernel_rfl
theorem F141c4_eq (k : Nat) (x5 : Int) : F141c4 (k + 1) x5 =
    some ((x5, ()), (((), (), (), (), ()), (), ())) := by kernel_rfl
theorem F142_eq (k : Nat) (a0 : ByteArray) (a1 : ByteArray) : F142 (k + 2) a0 a1 =
    (F151 k a0).bind fun r1 => if r1.1.1 = true then (F151 k a1).bind fun r2 => if (!r2.1.1) = true then some ((true, ()), ((), (), ())) else some ((Op.bytesLess a0.toList a1.toList, ()), ((), (), ())) else some ((Op.bytesLess a0.toList a1.toList, ()), ((), (), ())) := by kernel_rfl
theorem F143_eq (k : Nat) (a0 : ByteArray) : F143 (k + 2) a0 =
    some (((!(a0.toList == a0.toList)), ()), ((), ())) := by kernel_rfl
theorem F145_eq (k : Nat) (a0 : List ByteArray) : F145 (k + 2) a0 =
    F145c2 k a0 (0 : Int) := by kernel_rfl
theorem F145c2_eq (k : Nat) (x0 : List ByteArray) (x3 : Int) : F145c2 (k + 1) x0 x3 =
    if (decide (x3 < (x0.length : Int))) = true then if (decide (0 ≤ x3)) = true then (x0[x3.toNat]?).bind fun y1 => (F73 k (y1.size : Int) (1 : Int) (96 : Int)).bind fun r2 => if (!r2.1.1) = true then some ((false, ()), ((), ())) else if (decide (x3 > (0 : Int))) = true then if (decide (0 ≤ x3)) = true then (x0[x3.toNat]?).bind fun y3 => if (decide (0 ≤ (IntKind.i64.wrap (x3 - (1 : Int))))) = true then (x0[(IntKind.i64.wrap (x3 - (1 : Int))).toNat]?).bind fun y4 => if (Op.bytesLess y3.toList y4.toList || y3.toList == y4.toList) = true then some ((false, ()), ((), ())) else F145c2 k x0 (IntKind.i64.wrap (x3 + (1 : Int))) else none else none else F145c2 k x0 (IntKind.i64.wrap (x3 + (1 : Int))) else none else some ((decide ((x0.length : Int) ≤ (4 : Int)), ()), ((), ())) := by kernel_rfl
theorem F146_eq (k : Nat) (a0 : ByteArray) : F146 (k + 2) a0 =
    some ((decide ((a0.size : Int) > (140 : Int)), ()), ((), ())) := by kernel_rfl
theorem F148_eq (k : Nat) (a0 : Int) : F148 (k + 2) a0 =
    (F106 k a0 (0 : Int) (18 : Int)).bind fun r1 => some (((!r1.1.1), ()), ((), ())) := by kernel_rfl
theorem F151_eq (k : Nat) (a0 : ByteArray) : F151 (k + 2) a0 =
    some (((!(a0.toList == a0.toList)), ()), ((), ())) := by kernel_rfl
theorem F147068_eq (k : Nat) (a0 : List ByteArray) : F147068 (k + 2) a0 =
    (F147104 k a0).bind fun r1 => some ((decide (r1.1.1 ≥ (0 : Int)), ()), ((), (), ())) := by kernel_rfl
theorem F147104_eq (k : Nat) (a0 : List ByteArray) : F147104 (k + 2) a0 =
    F147104c2 k a0 (a0.length : Int) (0 : Int) := by kernel_rfl
theorem F147104c2_eq (k : Nat) (x0 : List ByteArray) (x7 : Int) (x8 : Int) : F147104c2 (k + 1) x0 x7 x8 =
    if (decide (x8 < x7)) = true then if (decide (0 ≤ x8)) = true then (x0[x8.toNat]?).bind fun y1 => (F146 k y1).bind fun r2 => if r2.1.1 = true then some ((x8, ()), ((), (), ())) else F147104c2 k x0 x7 (IntKind.i64.wrap (x8 + (1 : Int))) else none else some (((-1 : Int), ()), ((), (), ())) := by kernel_rfl
theorem F149147_eq (k : Nat) (a0 : List Int) : F149147 (k + 2) a0 =
    (F149152 k a0).bind fun r1 => some ((decide (r1.1.1 ≥ (0 : Int)), ()), ((), (), ())) := by kernel_rfl
theorem F149152_eq (k : Nat) (a0 : List Int) : F149152 (k + 2) a0 =
    F149152c2 k a0 (a0.length : Int) (0 : Int) := by kernel_rfl
theorem F149152c2_eq (k : Nat) (x0 : List Int) (x7 : Int) (x8 : Int) : F149152c2 (k + 1) x0 x7 x8 =
    if (decide (x8 < x7)) = true then if (decide (0 ≤ x8)) = true then (x0[x8.toNat]?).bind fun y1 => (F148 k y1).bind fun r2 => if r2.1.1 = true then some ((x8, ()), ((), (), ())) else F149152c2 k x0 x7 (IntKind.i64.wrap (x8 + (1 : Int))) else none else some (((-1 : Int), ()), ((), (), ())) := by kernel_rfl
end Go.Proofs.Ytldjfonpegffiaa.R
/-! Rf, trees: copies, comparisons, bulk. -/
namespace Go.Proofs.Ytldjfonpegffiaa.R
open Go.Rf

abbrev NodeT : Type := Bool × List ByteArray × List ByteArray × List Int × Unit
def okLen (n : Nat) : Prop := n ≤ 1048576
def okNode (n : NodeT) : Prop := okLen n.2.1.length ∧ okLen n.2.2.1.length ∧ okLen n.2.2.2.1.length

theorem F66_ev (l : List ByteArray) (h : okLen l.length) : Ev (fun k => F66 k l) ((l, ()), ((), ())) := by
  unfold okLen at h
  refine Ev.step 2 (fun k => F66_eq k l) ?_
  have c : (decide (0 ≤ (l.length : Int)) && decide ((l.length : Int) ≤ (l.length : Int)) && decide ((l.length : Int) ≤ (8796093022208 : Int))) = true := by simp; omega
  simp only [c, if_true]
  have := copy_loop (L := fun k x3 i => F66c3 k l x3 i) (x0 := l) (g := fun _ y => some y) (f := id) (fin := fun x => ((x, ()), ((), ()))) (h := id) (by omega) (fun k x3 i => F66c3_eq k l x3 i) (fun y _ => Ev.now y)
    (List.replicate (l.length : Int).toNat ByteArray.empty) (by simp)
  simpa using this
theorem F134_ev (l : List Int) (h : okLen l.length) : Ev (fun k => F134 k l) ((l, ()), ((), ())) := by
  unfold okLen at h
  refine Ev.step 2 (fun k => F134_eq k l) ?_
  have c : (decide (0 ≤ (l.length : Int)) && decide ((l.length : Int) ≤ (l.length : Int)) && decide ((l.length : Int) ≤ (17592186044416 : Int))) = true := by simp; omega
  simp only [c, if_true]
  have := copy_loop (L := fun k x3 i => F134c3 k l x3 i) (x0 := l) (g := fun _ y => some y) (f := id) (fin := fun x => ((x, ()), ((), ()))) (h := id) (by omega) (fun k x3 i => F134c3_eq k l x3 i) (fun y _ => Ev.now y)
    (List.replicate (l.length : Int).toNat (0 : Int)) (by simp)
  simpa using this
theorem F115_ev (n : NodeT) (h : okNode n) : Ev (fun k => F115 k n.1 n.2.1 n.2.2.1 n.2.2.2.1) ((n, ()), (((), (), (), (), ()), ())) := by
  obtain ⟨h1, h2, h3⟩ := h
  refine Ev.step 2 (fun k => F115_eq k _ _ _ _) ?_
  refine Ev.bind (F66_ev _ h1) ?_
  refine Ev.bind (F66_ev _ h2) ?_
  exact Ev.bind (F134_ev _ h3) (Ev.now _)
theorem F89_ev (l : List NodeT) (h : okLen l.length) (hl : ∀ n, n ∈ l → okNode n) : Ev (fun k => F89 k l) ((l, ()), ((), ())) := by
  unfold okLen at h
  refine Ev.step 2 (fun k => F89_eq k l) ?_
  have c : (decide (0 ≤ (l.length : Int)) && decide ((l.length : Int) ≤ (l.length : Int)) && decide ((l.length : Int) ≤ (1759218604441 : Int))) = true := by simp; omega
  simp only [c, if_true]
  have := copy_loop (L := fun k x3 i => F89c3 k l x3 i) (x0 := l) (g := fun k y => F115 k y.1 y.2.1 y.2.2.1 y.2.2.2.1) (f := fun r => (r.1.1.1, (r.1.1.2.1, (r.1.1.2.2.1, (r.1.1.2.2.2.1, ()))))) (fin := fun x => ((x, ()), ((), ())))
    (h := fun n => ((n, ()), (((), (), (), (), ()), ()))) (by omega) (fun k x3 i => F89c3_eq k l x3 i) (fun y hy => F115_ev y (hl y hy))
    (List.replicate (l.length : Int).toNat (false, (([] : List ByteArray), (([] : List ByteArray), (([] : List Int), ()))))) (by simp)
  simpa using this
theorem F40_ev (t : Int) (l : List NodeT) (h : okLen l.length) (hl : ∀ n, n ∈ l → okNode n) : Ev (fun k => F40 k t l) (((t, l, ()), ()), (((), (), ()), ())) := by
  refine Ev.step 2 (fun k => F40_eq k t l) ?_
  exact Ev.bind (F89_ev l h hl) (Ev.now _)

/-! what is compared with itself is alike -/
theorem F53_ev (l : List ByteArray) (h : okLen l.length) : Ev (fun k => F53 k l l) ((true, ()), ((), (), ())) := by
  unfold okLen at h
  refine Ev.step 2 (fun k => F53_eq k l l) ?_
  simp only [bne_self_eq_false, Bool.false_eq_true, if_false]
  exact same_loop (L := fun k i => F53c4 k l l i) (x0 := l) (g := fun _ y1 y2 => some (y1.toList == y2.toList)) (p := id) (no := ((false, ()), ((), (), ()))) (h := fun _ => true) (by omega) (fun k i => F53c4_eq k l l i) (fun y _ => by
    simp only [beq_self_eq_true]
    exact ⟨Ev.now _, rfl⟩)
theorem F127_ev (l : List Int) (h : okLen l.length) : Ev (fun k => F127 k l l) ((true, ()), ((), (), ())) := by
  unfold okLen at h
  refine Ev.step 2 (fun k => F127_eq k l l) ?_
  simp only [bne_self_eq_false, Bool.false_eq_true, if_false]
  exact same_loop (L := fun k i => F127c4 k l l i) (x0 := l) (g := fun _ y1 y2 => some (y1 == y2)) (p := id) (no := ((false, ()), ((), (), ()))) (h := fun _ => true) (by omega) (fun k i => F127c4_eq k l l i) (fun y _ => by
    simp only [beq_self_eq_true]
    exact ⟨Ev.now _, rfl⟩)
theorem F98_ev (n : NodeT) (h : okNode n) : Ev (fun k => F98 k n.1 n.2.1 n.2.2.1 n.2.2.2.1 n.1 n.2.1 n.2.2.1 n.2.2.2.1) ((true, ()), (((), (), (), (), ()), ((), (), (), (), ()), ())) := by
  obtain ⟨h1, h2, h3⟩ := h
  refine Ev.step 2 (fun k => F98_eq k _ _ _ _ _ _ _ _) ?_
  simp only [beq_self_eq_true, Bool.not_true, Bool.false_eq_true, if_false]
  refine Ev.bind (F53_ev _ h1) ?_
  simp only [Bool.not_true, Bool.false_eq_true, if_false]
  refine Ev.bind (F53_ev _ h2) ?_
  simp only [Bool.not_true, Bool.false_eq_true, if_false]
  refine Ev.bind (F127_ev _ h3) ?_
  simp only [Bool.not_true, Bool.false_eq_true, if_false]
  exact Ev.now _
theorem F60_ev (l : List NodeT) (h : okLen l.length) (hl : ∀ n, n ∈ l → okNode n) : Ev (fun k => F60 k l l) ((true, ()), ((), (), ())) := by
  unfold okLen at h
  refine Ev.step 2 (fun k => F60_eq k l l) ?_
  simp only [bne_self_eq_false, Bool.false_eq_true, if_false]
  exact same_loop (L := fun k i => F60c4 k l l i) (x0 := l) (g := fun k y1 y2 => F98 k y1.1 y1.2.1 y1.2.2.1 y1.2.2.2.1 y2.1 y2.2.1 y2.2.2.1 y2.2.2.2.1) (p := fun r => r.1.1) (no := ((false, ()), ((), (), ())))
    (h := fun _ => ((true, ()), (((), (), (), (), ()), ((), (), (), (), ()), ()))) (by omega) (fun k i => F60c4_eq k l l i) (fun y hy => ⟨F98_ev y (hl y hy), rfl⟩)
theorem F25_ev (t : Int) (l : List NodeT) (h : okLen l.length) (hl : ∀ n, n ∈ l → okNode n) : Ev (fun k => F25 k t l t l) ((true, ()), (((), (), ()), ((), (), ()), ())) := by
  refine Ev.step 2 (fun k => F25_eq k t l t l) ?_
  simp only [bne_self_eq_false, Bool.false_eq_true, if_false]
  refine Ev.bind (F60_ev l h hl) ?_
  simp only [Bool.not_true, Bool.false_eq_true, if_false]
  exact Ev.now _

/-! bulk -/
theorem F63_ev (l : List ByteArray) (hlen : l.length ≤ 9223372036854775807) (b : Int) (h0 : 0 ≤ b) (hb : b ≤ 1048576) (hs : ∀ y, y ∈ l → y.size ≤ 9223372036854775807) :
    ∃ r, Ev (fun k => F63 k l b) r ∧ (r.1.1 < 0 ∨ (0 ≤ r.1.1 ∧ r.1.1 ≤ b ∧ okLen l.length)) := by
  have st : ∀ {r}, Ev (fun k => if decide (IntKind.i64.wrap (b - (l.length : Int)) < (0 : Int)) = true then some (((-1 : Int), ()), ((), (), ())) else F63c5 k l (IntKind.i64.wrap (b - (l.length : Int))) (0 : Int)) r → Ev (fun k => F63 k l b) r := fun h => Ev.step 2 (fun k => F63_eq k l b) h
  rw [wrap64 (by omega) (by omega)] at st
  by_cases hn : b - (l.length : Int) < 0
  · refine ⟨(((-1 : Int), ()), ((), (), ())), st ?_, .inl (by decide : (-1 : Int) < 0)⟩
    simp only [hn, decide_true, if_true]
    exact Ev.now _
  · obtain ⟨r, h1, h2⟩ := size_loop (L := fun k b i => F63c5 k l b i) (x0 := l) (g := fun _ y b => some (IntKind.i64.wrap (b - (y.size : Int)))) (p := id) (no := (((-1 : Int), ()), ((), (), ()))) (fin := fun b => ((b, ()), ((), (), ()))) (Q := fun _ => True) hlen (fun k b i => F63c5_eq k l b i)
      (B := 1048576) (fun y hy b hb0 hb1 => ⟨_, Ev.now _, by
        have := hs y hy
        simp only [id]
        rw [wrap64 (by omega) (by omega)]
        by_cases hc : b - (y.size : Int) < 0
        · exact .inl hc
        · exact .inr ⟨by omega, by omega, trivial⟩⟩) (b - (l.length : Int)) (by omega) (by omega)
    refine ⟨r, st ?_, ?_⟩
    · have : decide (b - (l.length : Int) < 0) = false := by simp; omega
      simp only [this, Bool.false_eq_true, if_false]
      exact h1
    · rcases h2 with rfl | ⟨b', rfl, h3, h4, _⟩
      · exact .inl (by decide : (-1 : Int) < 0)
      · exact .inr ⟨h3, by show b' ≤ b; omega, by unfold okLen; omega⟩
theorem F131_ev (l : List Int) (hlen : l.length ≤ 9223372036854775807) (b : Int) (h0 : 0 ≤ b) (hb : b ≤ 1048576) : ∃ r, Ev (fun k => F131 k l b) r ∧ (r.1.1 < 0 ∨ (0 ≤ r.1.1 ∧ r.1.1 ≤ b ∧ okLen l.length)) := by
  have st : ∀ {r}, Ev (fun _ => if decide (IntKind.i64.wrap (b - (l.length : Int)) < (0 : Int)) = true then some (((-1 : Int), ()), ((), (), ())) else some (((IntKind.i64.wrap (b - (l.length : Int))), ()), ((), (), ()))) r → Ev (fun k => F131 k l b) r := fun h => Ev.step 2 (fun k => F131_eq k l b) h
  rw [wrap64 (by omega) (by omega)] at st
  by_cases hn : b - (l.length : Int) < 0
  · refine ⟨(((-1 : Int), ()), ((), (), ())), st ?_, .inl (by decide : (-1 : Int) < 0)⟩
    simp only [hn, decide_true, if_true]
    exact Ev.now _
  · refine ⟨(((b - (l.length : Int)), ()), ((), (), ())), st ?_, .inr ?_⟩
    · have : decide (b - (l.length : Int) < 0) = false := by simp; omega
      simp only [this, Bool.false_eq_true, if_false]
      exact Ev.now _
    · exact ⟨by show 0 ≤ b - (l.length : Int); omega, by show b - (l.length : Int) ≤ b; omega, by unfold okLen; omega⟩
/-- no string and no row longer than can be counted -/
def fits (n : NodeT) : Prop := n.2.1.length ≤ 9223372036854775807 ∧ (∀ y, y ∈ n.2.1 → y.size ≤ 9223372036854775807) ∧ n.2.2.1.length ≤ 9223372036854775807 ∧ (∀ y, y ∈ n.2.2.1 → y.size ≤ 9223372036854775807) ∧ n.2.2.2.1.length ≤ 9223372036854775807
theorem F112_ev (n : NodeT) (hf : fits n) (b : Int) (h0 : 0 ≤ b) (hb : b ≤ 1048576) : ∃ r, Ev (fun k => F112 k n.1 n.2.1 n.2.2.1 n.2.2.2.1 b) r ∧ (r.1.1 < 0 ∨ (0 ≤ r.1.1 ∧ r.1.1 ≤ b ∧ okNode n)) := by
  obtain ⟨f1, f2, f3, f4, f5⟩ := hf
  have e := fun k => F112_eq k n.1 n.2.1 n.2.2.1 n.2.2.2.1 b
  have neg1 : ((-1 : Int) < 0) := by decide
  obtain ⟨r1, h1, c1⟩ := F63_ev n.2.1 f1 b h0 hb f2
  rcases c1 with c1 | ⟨c1, d1, e1⟩
  · refine ⟨(((-1 : Int), ()), (((), (), (), (), ()), (), ())), Ev.step 2 e (Ev.bind h1 ?_), .inl neg1⟩
    simp only [c1, decide_true, if_true]
    exact Ev.now _
  obtain ⟨r2, h2, c2⟩ := F63_ev n.2.2.1 f3 r1.1.1 c1 (by omega) f4
  have n1 : decide (r1.1.1 < 0) = false := by simp; omega
  rcases c2 with c2 | ⟨c2, d2, e2⟩
  · refine ⟨(((-1 : Int), ()), (((), (), (), (), ()), (), ())), Ev.step 2 e (Ev.bind h1 ?_), .inl neg1⟩
    simp only [n1, Bool.false_eq_true, if_false]
    refine Ev.bind h2 ?_
    simp only [c2, decide_true, if_true]
    exact Ev.now _
  obtain ⟨r3, h3, c3⟩ := F131_ev n.2.2.2.1 f5 r2.1.1 c2 (by omega)
  have n2 : decide (r2.1.1 < 0) = false := by simp; omega
  rcases c3 with c3 | ⟨c3, d3, e3⟩
  · refine ⟨(((-1 : Int), ()), (((), (), (), (), ()), (), ())), Ev.step 2 e (Ev.bind h1 ?_), .inl neg1⟩
    simp only [n1, Bool.false_eq_true, if_false]
    refine Ev.bind h2 ?_
    simp only [n2, Bool.false_eq_true, if_false]
    refine Ev.bind h3 ?_
    simp only [c3, decide_true, if_true]
    exact Ev.now _
  · have n3 : decide (r3.1.1 < 0) = false := by simp; omega
    refine ⟨((r3.1.1, ()), (((), (), (), (), ()), (), ())), Ev.step 2 e (Ev.bind h1 ?_), .inr ⟨c3, by show r3.1.1 ≤ b; omega, e1, e2, e3⟩⟩
    simp only [n1, Bool.false_eq_true, if_false]
    refine Ev.bind h2 ?_
    simp only [n2, Bool.false_eq_true, if_false]
    refine Ev.bind h3 ?_
    simp only [n3, Bool.false_eq_true, if_false]
    exact Ev.now _
theorem F87_ev (l : List NodeT) (hlen : l.length ≤ 9223372036854775807) (hf : ∀ n, n ∈ l → fits n) (b : Int) (h0 : 0 ≤ b) (hb : b ≤ 1048576) : ∃ r, Ev (fun k => F87 k l b) r ∧ (r.1.1 < 0 ∨ (0 ≤ r.1.1 ∧ okLen l.length ∧ ∀ n, n ∈ l → okNode n)) := by
  have st : ∀ {r}, Ev (fun k => if decide (IntKind.i64.wrap (b - (l.length : Int)) < (0 : Int)) = true then some (((-1 : Int), ()), ((), (), ())) else F87c5 k l (IntKind.i64.wrap (b - (l.length : Int))) (0 : Int)) r → Ev (fun k => F87 k l b) r := fun h => Ev.step 2 (fun k => F87_eq k l b) h
  rw [wrap64 (by omega) (by omega)] at st
  by_cases hn : b - (l.length : Int) < 0
  · refine ⟨(((-1 : Int), ()), ((), (), ())), st ?_, .inl (by decide : (-1 : Int) < 0)⟩
    simp only [hn, decide_true, if_true]
    exact Ev.now _
  · obtain ⟨r, h1, h2⟩ := size_loop (L := fun k b i => F87c5 k l b i) (x0 := l) (g := fun k y b => F112 k y.1 y.2.1 y.2.2.1 y.2.2.2.1 b) (p := fun r => r.1.1) (no := (((-1 : Int), ()), ((), (), ()))) (fin := fun b => ((b, ()), ((), (), ()))) (Q := okNode) hlen (fun k b i => F87c5_eq k l b i)
      (B := 1048576) (fun y hy b hb0 hb1 => F112_ev y (hf y hy) b hb0 hb1) (b - (l.length : Int)) (by omega) (by omega)
    refine ⟨r, st ?_, ?_⟩
    · have : decide (b - (l.length : Int) < 0) = false := by simp; omega
      simp only [this, Bool.false_eq_true, if_false]
      exact h1
    · rcases h2 with rfl | ⟨b', rfl, h3, h4, h5⟩
      · exact .inl (by decide : (-1 : Int) < 0)
      · exact .inr ⟨h3, by unfold okLen; omega, h5⟩
theorem F38_ev (t : Int) (l : List NodeT) (hlen : l.length ≤ 9223372036854775807) (hf : ∀ n, n ∈ l → fits n) : ∃ r, Ev (fun k => F38 k t l 1048576) r ∧ (r.1.1 < 0 ∨ (0 ≤ r.1.1 ∧ okLen l.length ∧ ∀ n, n ∈ l → okNode n)) := by
  obtain ⟨r, h1, h2⟩ := F87_ev l hlen hf 1048576 (by decide) (by decide)
  rcases h2 with h2 | ⟨h2, h3⟩
  · refine ⟨(((-1 : Int), ()), (((), (), ()), (), ())), Ev.step 2 (fun k => F38_eq k t l 1048576) (Ev.bind h1 ?_), .inl (by decide : (-1 : Int) < 0)⟩
    simp only [h2, decide_true, if_true]
    exact Ev.now _
  · refine ⟨((r.1.1, ()), (((), (), ()), (), ())), Ev.step 2 (fun k => F38_eq k t l 1048576) (Ev.bind h1 ?_), .inr ⟨h2, h3⟩⟩
    have : decide (r.1.1 < 0) = false := by simp; omega
    simp only [this, Bool.false_eq_true, if_false]
    exact Ev.now _
end Go.Proofs.Ytldjfonpegffiaa.R
/-! Rf, trees: what a node must meet; both sides ask the same. -/
namespace Go.Proofs.Ytldjfonpegffiaa.R
open Go.Rf

def within (n lo hi : Int) : Bool := decide (n ≥ lo) && decide (n ≤ hi)
theorem F73_ev (n lo hi : Int) : Ev (fun k => F73 k n lo hi) ((within n lo hi, ()), ((), (), (), ())) := by
  refine Ev.step 2 (fun k => F73_eq k n lo hi) ?_
  unfold within
  cases h : decide (n ≥ lo) with
  | true => exact Ev.now _
  | false => exact Ev.now _
theorem F106_ev (n lo hi : Int) : Ev (fun k => F106 k n lo hi) ((within n lo hi, ()), ((), (), (), ())) := by
  refine Ev.step 2 (fun k => F106_eq k n lo hi) ?_
  unfold within
  cases h : decide (n ≥ lo) with
  | true => exact Ev.now _
  | false => exact Ev.now _
/-- the i-th key: its size, its place behind the one before -/
def keyOk (l : List ByteArray) (i : Nat) : Bool := within ((l.getD i ByteArray.empty).size : Int) 1 96 && (i == 0 || Op.bytesLess (l.getD (i - 1) ByteArray.empty).toList (l.getD i ByteArray.empty).toList)
def keysOk' (l : List ByteArray) : Bool := (List.range l.length).all (keyOk l)
theorem getD_of {l : List ByteArray} {i : Nat} (h : i < l.length) : l[i]? = some (l.getD i ByteArray.empty) := by
  rw [List.getD_eq_getElem?_getD, List.getElem?_eq_getElem h]
  rfl
theorem gt0 {i : Nat} : decide ((i : Int) > 0) = !(i == 0) := by
  cases i with
  | zero => rfl
  | succ i => simp
theorem pred64 {i : Nat} (h : 0 < i) (hn : i ≤ 4611686018427387904) : IntKind.i64.wrap ((i : Int) - 1) = ((i - 1 : Nat) : Int) := by
  rw [wrap64 (by omega) (by omega)]
  omega
theorem F145_ev (l : List ByteArray) (h : okLen l.length) : Ev (fun k => F145 k l) ((keysOk' l && decide ((l.length : Int) ≤ 4), ()), ((), ())) := by
  unfold okLen at h
  refine Ev.step 2 (fun k => F145_eq k l) ?_
  have := all_loop (L := fun k i => F145c2 k l i) (n := l.length) (no := ((false, ()), ((), ()))) (yes := ((decide ((l.length : Int) ≤ 4), ()), ((), ()))) (c := keyOk l) ?_ ?_ ?_
  · unfold keysOk'
    refine (congrArg (Ev _) ?_).mp this
    cases (List.range l.length).all (keyOk l) <;> rfl
  · intro i hi hc
    refine Ev.step 1 (fun k => F145c2_eq k l i) ?_
    simp only [lt_true hi, ge0, if_true, Int.toNat_natCast, getD_of hi, Option.bind_some]
    refine Ev.bind (F73_ev _ 1 96) ?_
    simp only [gt0]
    unfold keyOk at hc
    cases hw : within ((l.getD i ByteArray.empty).size : Int) 1 96 with
    | false => exact Ev.now _
    | true =>
      rw [hw] at hc
      simp only [Bool.true_and, Bool.or_eq_false_iff] at hc
      have hp : 0 < i := by
        rcases Nat.eq_zero_or_pos i with h0 | h0
        · rw [h0] at hc; cases hc.1
        · exact h0
      have hi2 : i - 1 < l.length := by omega
      simp only [hc.1, Bool.not_false, Bool.not_true, Bool.false_eq_true, if_false, if_true, pred64 hp (by omega), ge0, Int.toNat_natCast, getD_of hi2, Option.bind_some]
      have := not_less (l.getD (i - 1) ByteArray.empty).toList (l.getD i ByteArray.empty).toList
      rw [hc.2] at this
      simp only [← this, Bool.not_false, if_true]
      exact Ev.now _
  · intro i hi hc r hr
    refine Ev.step 1 (fun k => F145c2_eq k l i) ?_
    simp only [lt_true hi, ge0, if_true, Int.toNat_natCast, getD_of hi, Option.bind_some]
    refine Ev.bind (F73_ev _ 1 96) ?_
    unfold keyOk at hc
    simp only [Bool.and_eq_true, Bool.or_eq_true] at hc
    simp only [gt0, hc.1, Bool.not_true, Bool.false_eq_true, if_false]
    rw [wrap_succ (by omega)]
    cases h0 : (i == 0) with
    | true => exact hr
    | false =>
      have hp : 0 < i := by
        rcases Nat.eq_zero_or_pos i with h1 | h1
        · rw [h1] at h0; cases h0
        · exact h1
      have hi2 : i - 1 < l.length := by omega
      rcases hc.2 with hc2 | hc2
      · rw [h0] at hc2; cases hc2
      · simp only [Bool.not_false, if_true, pred64 hp (by omega), ge0, Int.toNat_natCast, getD_of hi2, Option.bind_some]
        have := not_less (l.getD (i - 1) ByteArray.empty).toList (l.getD i ByteArray.empty).toList
        rw [hc2] at this
        simp only [← this, Bool.not_true, Bool.false_eq_true, if_false]
        exact hr
  · refine Ev.step 1 (fun k => F145c2_eq k l l.length) ?_
    simp only [lt_false (Nat.le_refl l.length), Bool.false_eq_true, if_false]
    exact Ev.now _
def valsOk (l : List ByteArray) : Bool := (List.range l.length).all fun i => !decide (((l.getD i ByteArray.empty).size : Int) > 140)
def kidsOk (l : List Int) : Bool := (List.range l.length).all fun i => within (l.getD i 0) 0 18
def nodeOk (n : NodeT) : Bool := keysOk' n.2.1 && decide ((n.2.1.length : Int) ≤ 4) && (if n.1 = true then valsOk n.2.2.1 && ((n.2.2.1.length : Int) == (n.2.1.length : Int)) && ((n.2.2.2.1.length : Int) == 0)
  else kidsOk n.2.2.2.1 && ((n.2.2.1.length : Int) == 0) && decide ((n.2.1.length : Int) > 0) && ((n.2.2.2.1.length : Int) == (n.2.1.length : Int) + 1))
theorem getI_of {l : List Int} {i : Nat} (h : i < l.length) : l[i]? = some (l.getD i 0) := by
  rw [List.getD_eq_getElem?_getD, List.getElem?_eq_getElem h]
  rfl
theorem F132_ev (n : NodeT) (h : okNode n) : Ev (fun k => F132 k n.1 n.2.1 n.2.2.1 n.2.2.2.1) ((nodeOk n, ()), (((), (), (), (), ()), ())) := by
  obtain ⟨h1, h2, h3⟩ := h
  obtain ⟨leaf, keys, vals, kids, u⟩ := n
  simp only at h1 h2 h3 ⊢
  refine Ev.step 2 (fun k => F132_eq k leaf keys vals kids) ?_
  refine Ev.bind (F145_ev keys h1) ?_
  unfold okLen at h1 h2 h3
  unfold nodeOk
  cases hk : (keysOk' keys && decide ((keys.length : Int) ≤ 4)) with
  | false =>
    simp only [Bool.false_and]
    exact Ev.now _
  | true =>
    simp only [Bool.true_and, Bool.not_true, Bool.false_eq_true, if_false]
    cases leaf with
    | true =>
      simp only [if_true]
      have := all_loop (L := fun k i => F132c5 k true keys vals kids i) (n := vals.length) (no := ((false, ()), (((), (), (), (), ()), ()))) (yes := ((((vals.length : Int) == (keys.length : Int)) && ((kids.length : Int) == 0), ()), (((), (), (), (), ()), ())))
        (c := fun i => !decide (((vals.getD i ByteArray.empty).size : Int) > 140)) ?_ ?_ ?_
      · unfold valsOk
        refine (congrArg (Ev _) ?_).mp this
        cases (List.range vals.length).all _ <;> simp
      · intro i hi hc
        refine Ev.step 1 (fun k => F132c5_eq k true keys vals kids i) ?_
        simp only [Bool.not_eq_false'] at hc
        simp only [lt_true hi, ge0, if_true, Int.toNat_natCast, getD_of hi, Option.bind_some, hc]
        exact Ev.now _
      · intro i hi hc r hr
        refine Ev.step 1 (fun k => F132c5_eq k true keys vals kids i) ?_
        simp only [Bool.not_eq_true'] at hc
        simp only [lt_true hi, ge0, if_true, Int.toNat_natCast, getD_of hi, Option.bind_some, hc, Bool.false_eq_true, if_false]
        rw [wrap_succ (by omega)]
        exact hr
      · refine Ev.step 1 (fun k => F132c5_eq k true keys vals kids vals.length) ?_
        simp only [lt_false (Nat.le_refl vals.length), Bool.false_eq_true, if_false]
        cases ((vals.length : Int) == (keys.length : Int)) with
        | true => exact Ev.now _
        | false => exact Ev.now _
    | false =>
      simp only [Bool.false_eq_true, if_false]
      have := all_loop (L := fun k i => F132c11 k false keys vals kids i) (n := kids.length) (no := ((false, ()), (((), (), (), (), ()), ()))) (yes := ((((vals.length : Int) == 0) && decide ((keys.length : Int) > 0) && ((kids.length : Int) == (keys.length : Int) + 1), ()), (((), (), (), (), ()), ())))
        (c := fun i => within (kids.getD i 0) 0 18) ?_ ?_ ?_
      · unfold kidsOk
        refine (congrArg (Ev _) ?_).mp this
        cases (List.range kids.length).all _ <;> simp
      · intro i hi hc
        refine Ev.step 1 (fun k => F132c11_eq k false keys vals kids i) ?_
        simp only [lt_true hi, ge0, if_true, Int.toNat_natCast, getI_of hi, Option.bind_some]
        refine Ev.bind (F73_ev _ 0 18) ?_
        simp only [hc, Bool.not_false, if_true]
        exact Ev.now _
      · intro i hi hc r hr
        refine Ev.step 1 (fun k => F132c11_eq k false keys vals kids i) ?_
        simp only [lt_true hi, ge0, if_true, Int.toNat_natCast, getI_of hi, Option.bind_some]
        refine Ev.bind (F73_ev _ 0 18) ?_
        simp only [hc, Bool.not_true, Bool.false_eq_true, if_false]
        rw [wrap_succ (by omega)]
        exact hr
      · refine Ev.step 1 (fun k => F132c11_eq k false keys vals kids kids.length) ?_
        simp only [lt_false (Nat.le_refl kids.length), Bool.false_eq_true, if_false]
        rw [wrap64 (n := (keys.length : Int) + 1) (by omega) (by omega)]
        cases ((vals.length : Int) == 0) with
        | false => exact Ev.now _
        | true =>
          cases decide ((keys.length : Int) > 0) with
          | true => exact Ev.now _
          | false => exact Ev.now _
/-! the other side -/
theorem F147104_ev (l : List ByteArray) (h : okLen l.length) : ∃ r, Ev (fun k => F147104 k l) r ∧ decide (r.1.1 ≥ (0 : Int)) = !valsOk l := by
  unfold okLen at h
  obtain ⟨r, h1, h2⟩ := find_loop (L := fun k i => F147104c2 k l (l.length : Int) i) (n := l.length) (no := fun i => (((i : Int), ()), ((), (), ()))) (yes := (((-1 : Int), ()), ((), (), ()))) (c := fun i => !decide (((l.getD i ByteArray.empty).size : Int) > 140)) (fun i hi hc => by
      refine Ev.step 1 (fun k => F147104c2_eq k l _ i) ?_
      simp only [Bool.not_eq_false'] at hc
      simp only [lt_true hi, ge0, if_true, Int.toNat_natCast, getD_of hi, Option.bind_some]
      refine Ev.bind (Ev.step 2 (fun k => F146_eq k _) (Ev.now _)) ?_
      simp only [hc, if_true]
      exact Ev.now _) (fun i hi hc r hr => by
      refine Ev.step 1 (fun k => F147104c2_eq k l _ i) ?_
      simp only [Bool.not_eq_true'] at hc
      simp only [lt_true hi, ge0, if_true, Int.toNat_natCast, getD_of hi, Option.bind_some]
      refine Ev.bind (Ev.step 2 (fun k => F146_eq k _) (Ev.now _)) ?_
      simp only [hc, Bool.false_eq_true, if_false]
      rw [wrap_succ (by omega)]
      exact hr) (by
      refine Ev.step 1 (fun k => F147104c2_eq k l _ l.length) ?_
      simp only [lt_false (Nat.le_refl l.length), Bool.false_eq_true, if_false]
      exact Ev.now _)
  refine ⟨r, Ev.step 2 (fun k => F147104_eq k l) h1, ?_⟩
  unfold valsOk
  rcases h2 with ⟨h2, rfl⟩ | ⟨h2, i, _, rfl⟩
  · rw [h2]; rfl
  · rw [h2]; simp
theorem F147068_ev (l : List ByteArray) (h : okLen l.length) : Ev (fun k => F147068 k l) ((!valsOk l, ()), ((), (), ())) := by
  obtain ⟨r, h1, h2⟩ := F147104_ev l h
  refine Ev.step 2 (fun k => F147068_eq k l) (Ev.bind h1 ?_)
  simp only [h2]
  exact Ev.now _
theorem F149152_ev (l : List Int) (h : okLen l.length) : ∃ r, Ev (fun k => F149152 k l) r ∧ decide (r.1.1 ≥ (0 : Int)) = !kidsOk l := by
  unfold okLen at h
  obtain ⟨r, h1, h2⟩ := find_loop (L := fun k i => F149152c2 k l (l.length : Int) i) (n := l.length) (no := fun i => (((i : Int), ()), ((), (), ()))) (yes := (((-1 : Int), ()), ((), (), ()))) (c := fun i => within (l.getD i 0) 0 18) (fun i hi hc => by
      refine Ev.step 1 (fun k => F149152c2_eq k l _ i) ?_
      simp only [lt_true hi, ge0, if_true, Int.toNat_natCast, getI_of hi, Option.bind_some]
      refine Ev.bind (Ev.step 2 (fun k => F148_eq k _) (Ev.bind (F106_ev _ _ _) (Ev.now _))) ?_
      simp only [hc, Bool.not_false, if_true]
      exact Ev.now _) (fun i hi hc r hr => by
      refine Ev.step 1 (fun k => F149152c2_eq k l _ i) ?_
      simp only [lt_true hi, ge0, if_true, Int.toNat_natCast, getI_of hi, Option.bind_some]
      refine Ev.bind (Ev.step 2 (fun k => F148_eq k _) (Ev.bind (F106_ev _ _ _) (Ev.now _))) ?_
      simp only [hc, Bool.not_true, Bool.false_eq_true, if_false]
      rw [wrap_succ (by omega)]
      exact hr) (by
      refine Ev.step 1 (fun k => F149152c2_eq k l _ l.length) ?_
      simp only [lt_false (Nat.le_refl l.length), Bool.false_eq_true, if_false]
      exact Ev.now _)
  refine ⟨r, Ev.step 2 (fun k => F149152_eq k l) h1, ?_⟩
  unfold kidsOk
  rcases h2 with ⟨h2, rfl⟩ | ⟨h2, i, _, rfl⟩
  · rw [h2]; rfl
  · rw [h2]; simp
theorem F149147_ev (l : List Int) (h : okLen l.length) : Ev (fun k => F149147 k l) ((!kidsOk l, ()), ((), (), ())) := by
  obtain ⟨r, h1, h2⟩ := F149152_ev l h
  refine Ev.step 2 (fun k => F149147_eq k l) (Ev.bind h1 ?_)
  simp only [h2]
  exact Ev.now _
theorem F135_ev (n : NodeT) (h : okNode n) : Ev (fun k => F135 k n.1 n.2.1 n.2.2.1 n.2.2.2.1) ((nodeOk n, ()), (((), (), (), (), ()), ())) := by
  obtain ⟨h1, h2, h3⟩ := h
  obtain ⟨leaf, keys, vals, kids, u⟩ := n
  simp only at h1 h2 h3 ⊢
  refine Ev.step 2 (fun k => F135_eq k leaf keys vals kids) ?_
  unfold nodeOk
  cases h4 : decide ((keys.length : Int) > 4) with
  | true =>
    have h5 : decide ((keys.length : Int) ≤ 4) = false := by simp at h4 ⊢; omega
    simp only [h5, Bool.and_false, Bool.false_and, if_true]
    exact Ev.now _
  | false =>
    have h5 : decide ((keys.length : Int) ≤ 4) = true := by simp at h4 ⊢; omega
    simp only [h5, Bool.and_true, Bool.false_eq_true, if_false]
    have hl := h1
    unfold okLen at hl
    have := all_loop (L := fun k i => F135c4 k leaf keys vals kids keys (keys.length : Int) i) (n := keys.length) (no := ((false, ()), (((), (), (), (), ()), ())))
      (yes := ((if leaf = true then valsOk vals && ((vals.length : Int) == (keys.length : Int)) && ((kids.length : Int) == 0) else kidsOk kids && ((vals.length : Int) == 0) && decide ((keys.length : Int) > 0) && ((kids.length : Int) == (keys.length : Int) + 1), ()), (((), (), (), (), ()), ())))
      (c := keyOk keys) ?_ ?_ ?_
    · unfold keysOk'
      refine (congrArg (Ev _) ?_).mp this
      cases (List.range keys.length).all (keyOk keys) <;> simp
    · intro i hi hc
      refine Ev.step 1 (fun k => F135c4_eq k leaf keys vals kids keys _ i) ?_
      simp only [lt_true hi, ge0, if_true, Int.toNat_natCast, getD_of hi, Option.bind_some]
      refine Ev.bind (F106_ev _ 1 96) ?_
      simp only [gt0]
      unfold keyOk at hc
      cases hw : within ((keys.getD i ByteArray.empty).size : Int) 1 96 with
      | false => exact Ev.now _
      | true =>
        rw [hw] at hc
        simp only [Bool.true_and, Bool.or_eq_false_iff] at hc
        have hp : 0 < i := by
          rcases Nat.eq_zero_or_pos i with h0 | h0
          · rw [h0] at hc; cases hc.1
          · exact h0
        have hi2 : i - 1 < keys.length := by omega
        simp only [hc.1, Bool.not_false, Bool.not_true, Bool.false_eq_true, if_false, if_true, pred64 hp (by omega), ge0, Int.toNat_natCast, getD_of hi2, Option.bind_some, hc.2]
        exact Ev.now _
    · intro i hi hc r hr
      refine Ev.step 1 (fun k => F135c4_eq k leaf keys vals kids keys _ i) ?_
      simp only [lt_true hi, ge0, if_true, Int.toNat_natCast, getD_of hi, Option.bind_some]
      refine Ev.bind (F106_ev _ 1 96) ?_
      unfold keyOk at hc
      simp only [Bool.and_eq_true, Bool.or_eq_true] at hc
      simp only [gt0, hc.1, Bool.not_true, Bool.false_eq_true, if_false]
      rw [wrap_succ (by omega)]
      cases h0 : (i == 0) with
      | true => exact hr
      | false =>
        have hp : 0 < i := by
          rcases Nat.eq_zero_or_pos i with h1 | h1
          · rw [h1] at h0; cases h0
          · exact h1
        have hi2 : i - 1 < keys.length := by omega
        rcases hc.2 with hc2 | hc2
        · rw [h0] at hc2; cases hc2
        · simp only [Bool.not_false, if_true, pred64 hp (by omega), ge0, Int.toNat_natCast, getD_of hi2, Option.bind_some, hc2, Bool.not_true, Bool.false_eq_true, if_false]
          exact hr
    · refine Ev.step 1 (fun k => F135c4_eq k leaf keys vals kids keys _ keys.length) ?_
      simp only [lt_false (Nat.le_refl keys.length), Bool.false_eq_true, if_false]
      rw [wrap64 (n := (keys.length : Int) + 1) (by omega) (by omega)]
      cases leaf with
      | true =>
        simp only [if_true]
        cases ((kids.length : Int) == 0) with
        | false => simp only [Bool.and_false]; exact Ev.now _
        | true =>
          cases ((vals.length : Int) == (keys.length : Int)) with
          | false => simp only [Bool.and_false, Bool.false_and]; exact Ev.now _
          | true =>
            simp only [if_true, Bool.and_true]
            refine Ev.bind (F147068_ev vals h2) ?_
            simp only [Bool.not_not]
            exact Ev.now _
      | false =>
        simp only [Bool.false_eq_true, if_false]
        cases ((vals.length : Int) == 0) with
        | false => simp only [Bool.and_false, Bool.false_and]; exact Ev.now _
        | true =>
          cases decide ((keys.length : Int) > 0) with
          | false => simp only [Bool.and_false, Bool.false_and]; exact Ev.now _
          | true =>
            cases ((kids.length : Int) == (keys.length : Int) + 1) with
            | false => simp only [Bool.and_false]; exact Ev.now _
            | true =>
              simp only [if_true, Bool.and_true]
              refine Ev.bind (F149147_ev kids h3) ?_
              simp only [Bool.not_not]
              exact Ev.now _
/-! nodes that are empty; keys within bounds -/
def nodeZero (n : NodeT) : Bool := !n.1 && ((n.2.1.length : Int) == 0) && ((n.2.2.1.length : Int) == 0) && ((n.2.2.2.1.length : Int) == 0)
theorem F114_ev (n : NodeT) : Ev (fun k => F114 k n.1 n.2.1 n.2.2.1 n.2.2.2.1) ((nodeZero n, ()), (((), (), (), (), ()), ())) := by
  refine Ev.step 2 (fun k => F114_eq k _ _ _ _) ?_
  unfold nodeZero
  cases n.1 with
  | true => exact Ev.now _
  | false =>
    cases ((n.2.1.length : Int) == 0) with
    | false => exact Ev.now _
    | true => cases ((n.2.2.1.length : Int) == 0) with
      | false => exact Ev.now _
      | true => exact Ev.now _
theorem F117_ev (n : NodeT) : Ev (fun k => F117 k n.1 n.2.1 n.2.2.1 n.2.2.2.1) ((nodeZero n, ()), (((), (), (), (), ()), ())) := by
  refine Ev.step 2 (fun k => F117_eq k _ _ _ _) ?_
  unfold nodeZero
  cases n.1 with
  | true => exact Ev.now _
  | false =>
    cases ((n.2.1.length : Int) == 0) with
    | false => exact Ev.now _
    | true => cases ((n.2.2.1.length : Int) == 0) with
      | false => exact Ev.now _
      | true => exact Ev.now _
def inKey (l : List ByteArray) (low high : ByteArray) (i : Nat) : Bool := !(Op.bytesLess (l.getD i ByteArray.empty).toList low.toList) && (high.toList == (⟨#[]⟩ : ByteArray).toList || Op.bytesLess (l.getD i ByteArray.empty).toList high.toList)
def inKeys (l : List ByteArray) (low high : ByteArray) : Bool := (List.range l.length).all (inKey l low high)
theorem F133_ev (l : List ByteArray) (h : okLen l.length) (low high : ByteArray) : Ev (fun k => F133 k l low high) ((inKeys l low high, ()), ((), (), (), ())) := by
  unfold okLen at h
  refine Ev.step 2 (fun k => F133_eq k l low high) ?_
  have := all_loop (L := fun k i => F133c2 k l low high i) (n := l.length) (no := ((false, ()), ((), (), (), ()))) (yes := ((true, ()), ((), (), (), ()))) (c := inKey l low high) ?_ ?_ ?_
  · unfold inKeys
    refine (congrArg (Ev _) ?_).mp this
    cases (List.range l.length).all (inKey l low high) <;> rfl
  · intro i hi hc
    refine Ev.step 1 (fun k => F133c2_eq k l low high i) ?_
    simp only [lt_true hi, ge0, if_true, Int.toNat_natCast, getD_of hi, Option.bind_some]
    unfold inKey at hc
    cases h1 : Op.bytesLess (l.getD i ByteArray.empty).toList low.toList with
    | true => exact Ev.now _
    | false =>
      rw [h1] at hc
      simp only [Bool.not_false, Bool.true_and, Bool.or_eq_false_iff] at hc
      simp only [hc.1, hc.2, Bool.not_false, Bool.false_eq_true, if_false, if_true]
      exact Ev.now _
  · intro i hi hc r hr
    refine Ev.step 1 (fun k => F133c2_eq k l low high i) ?_
    simp only [lt_true hi, ge0, if_true, Int.toNat_natCast, getD_of hi, Option.bind_some]
    unfold inKey at hc
    simp only [Bool.and_eq_true, Bool.not_eq_true', Bool.or_eq_true] at hc
    simp only [hc.1, Bool.false_eq_true, if_false]
    rw [wrap_succ (by omega)]
    cases h2 : (high.toList == (⟨#[]⟩ : ByteArray).toList) with
    | true => exact hr
    | false =>
      rcases hc.2 with hc2 | hc2
      · rw [h2] at hc2; cases hc2
      · simp only [Bool.not_false, if_true, hc2, Bool.not_true, Bool.false_eq_true, if_false]
        exact hr
  · refine Ev.step 1 (fun k => F133c2_eq k l low high l.length) ?_
    simp only [lt_false (Nat.le_refl l.length), Bool.false_eq_true, if_false]
    exact Ev.now _
end Go.Proofs.Ytldjfonpegffiaa.R
/-! Rf, trees: the two walks go hand in hand. -/
namespace Go.Proofs.Ytldjfonpegffiaa.R
open Go.Rf

def lo (keys : List ByteArray) (low : ByteArray) (i : Nat) : ByteArray := if i = 0 then low else keys.getD (i - 1) ByteArray.empty
def hi' (keys : List ByteArray) (high : ByteArray) (i : Nat) : ByteArray := if i < keys.length then keys.getD i ByteArray.empty else high
theorem gt0_pos {i : Nat} (h : 0 < i) : decide ((i : Int) > 0) = true := by simp; omega

section
variable {root : Nat} {l : List NodeT} {low high : ByteArray} {leaf : Bool} {keys vals : List ByteArray} {kids : List Int}
theorem spec_step {seen : List Bool} {deep : Int} {i : Nat} (hik : i < kids.length) (hk : kids.length ≤ keys.length + 1) (hl : keys.length ≤ 1048576) {r9 q} (h9 : Ev (fun k => F113 k root l (kids.getD i 0) (lo keys low i) (hi' keys high i) false seen) r9)
    (hq : Ev (fun k => if (decide (r9.1.1 < (0 : Int))) = true then some (((-1 : Int), ()), (((), (), ()), (), (), (), (), r9.2.2.2.2.2.2.1, ())) else if (decide (deep > (0 : Int))) = true then if (r9.1.1 != deep) = true then some (((-1 : Int), ()), (((), (), ()), (), (), (), (), r9.2.2.2.2.2.2.1, ())) else
      F113c11 k low high r9.2.2.2.2.2.2.1 root l leaf keys vals kids r9.1.1 ((i + 1 : Nat) : Int) else F113c11 k low high r9.2.2.2.2.2.2.1 root l leaf keys vals kids r9.1.1 ((i + 1 : Nat) : Int)) q) :
    Ev (fun k => F113c11 k low high seen root l leaf keys vals kids deep (i : Int)) q := by
  have h19 : ∀ from' to', from' = lo keys low i → to' = hi' keys high i → Ev (fun k => F113c19 k low high seen root l leaf keys vals kids deep (i : Int) from' to') q := by
    rintro _ _ rfl rfl
    refine Ev.step 1 (fun k => F113c19_eq k _ _ _ _ _ _ _ _ _ _ _ _ _) ?_
    simp only [ge0, if_true, Int.toNat_natCast, getI_of hik, Option.bind_some]
    refine Ev.bind h9 ?_
    rw [wrap_succ (by omega)]
    exact hq
  have h17 : ∀ from', from' = lo keys low i → Ev (fun k => F113c17 k low high seen root l leaf keys vals kids deep (i : Int) from' high) q := by
    intro from' hf
    refine Ev.step 1 (fun k => F113c17_eq k _ _ _ _ _ _ _ _ _ _ _ _ _) ?_
    by_cases h : i < keys.length
    · simp only [lt_true h, ge0, if_true, Int.toNat_natCast, getD_of h, Option.bind_some]
      exact h19 _ _ hf (by simp [hi', h])
    · simp only [lt_false (Nat.le_of_not_lt h), Bool.false_eq_true, if_false]
      exact h19 _ _ hf (by simp [hi', h])
  refine Ev.step 1 (fun k => F113c11_eq k _ _ _ _ _ _ _ _ _ _ _) ?_
  by_cases h0 : 0 < i
  · have hi2 : i - 1 < keys.length := by omega
    simp only [lt_true hik, if_true, gt0_pos h0, pred64 h0 (by omega), ge0, Int.toNat_natCast, getD_of hi2, Option.bind_some]
    exact h17 _ (by simp [lo, show i ≠ 0 by omega])
  · have : i = 0 := by omega
    subst this
    simp only [lt_true hik, if_true, gt0, beq_self_eq_true, Bool.not_true, Bool.false_eq_true, if_false]
    exact h17 _ (by simp [lo])
theorem impl_step {seen : List Bool} {D δ : Int} {i : Nat} (hik : i < kids.length) (hk : kids.length ≤ keys.length + 1) (hl : keys.length ≤ 1048576) (hδ : 0 ≤ δ) (hδ' : δ ≤ 1000) {r10 q} (h10 : Ev (fun k => F116 k root l seen D (kids.getD i 0) (δ + 1) (lo keys low i) (hi' keys high i)) r10)
    (hq : Ev (fun k => if (!r10.1.1) = true then some ((false, ()), ((r10.2.1.1, r10.2.1.2.1, r10.2.1.2.2.1, r10.2.1.2.2.2.1, ()), (), (), (), (), ())) else F116c16 k r10.2.1.1 r10.2.1.2.1 r10.2.1.2.2.1 r10.2.1.2.2.2.1 δ low high leaf keys vals kids kids (kids.length : Int) ((i + 1 : Nat) : Int)) q) :
    Ev (fun k => F116c16 k root l seen D δ low high leaf keys vals kids kids (kids.length : Int) (i : Int)) q := by
  have h23 : ∀ from' to', from' = lo keys low i → to' = hi' keys high i → Ev (fun k => F116c23 k root l seen D δ low high leaf keys vals kids (kids.getD i 0) from' to' kids (kids.length : Int) (i : Int)) q := by
    rintro _ _ rfl rfl
    refine Ev.step 1 (fun k => F116c23_eq k _ _ _ _ _ _ _ _ _ _ _ _ _ _ _ _ _) ?_
    rw [wrap64 (n := δ + 1) (by omega) (by omega), wrap_succ (by omega)]
    exact Ev.bind h10 hq
  have h21 : ∀ from', from' = lo keys low i → Ev (fun k => F116c21 k root l seen D δ low high leaf keys vals kids (i : Int) (kids.getD i 0) from' high kids (kids.length : Int) (i : Int)) q := by
    intro from' hf
    refine Ev.step 1 (fun k => F116c21_eq k _ _ _ _ _ _ _ _ _ _ _ _ _ _ _ _ _ _) ?_
    by_cases h : i < keys.length
    · simp only [lt_true h, ge0, if_true, Int.toNat_natCast, getD_of h, Option.bind_some]
      exact h23 _ _ hf (by simp [hi', h])
    · simp only [lt_false (Nat.le_of_not_lt h), Bool.false_eq_true, if_false]
      exact h23 _ _ hf (by simp [hi', h])
  refine Ev.step 1 (fun k => F116c16_eq k _ _ _ _ _ _ _ _ _ _ _ _ _ _) ?_
  by_cases h0 : 0 < i
  · have hi2 : i - 1 < keys.length := by omega
    simp only [lt_true hik, if_true, gt0_pos h0, pred64 h0 (by omega), ge0, Int.toNat_natCast, getI_of hik, getD_of hi2, Option.bind_some]
    exact h21 _ (by simp [lo, show i ≠ 0 by omega])
  · have : i = 0 := by omega
    subst this
    simp only [lt_true hik, if_true, ge0, Int.toNat_natCast, getI_of hik, Option.bind_some, gt0, beq_self_eq_true, Bool.not_true, Bool.false_eq_true, if_false]
    exact h21 _ (by simp [lo])
end
/-- how many nodes a tree of a depth has at least -/
def cost : Bool → Nat → Nat
  | _, 0 => 0
  | r, d + 1 => 1 + (if r = true then 2 else 3) * cost false d
theorem cost_one (r : Bool) : cost r 1 = 1 := by cases r <;> rfl
theorem cost_step {isr : Bool} {K dn a b c s : Nat} (h : isr = true ∨ 2 ≤ K) (hK : 1 ≤ K) (h1 : a + K * cost false dn ≤ b) (h2 : b + cost false dn ≤ c) (h3 : c + 1 = s) : a + cost isr (dn + 1) ≤ s := by
  show a + (1 + (if isr = true then 2 else 3) * cost false dn) ≤ s
  rcases h with h | h
  · subst h
    have := Nat.mul_le_mul_right (cost false dn) hK
    simp only [if_true]
    omega
  · have := Nat.mul_le_mul_right (cost false dn) h
    split <;> omega
/-- a node of a depth is in order, and all below it -/
def Gd (l : List NodeT) : Nat → Nat → ByteArray → ByteArray → Bool → Prop
  | 0, _, _, _, _ => False
  | d + 1, at', low, high, isr => ∃ n : NodeT, l[at']? = some n ∧ nodeOk n = true ∧ inKeys n.2.1 low high = true ∧ (isr = true ∨ 2 ≤ n.2.1.length) ∧
      ((n.1 = true ∧ d = 0) ∨ (n.1 = false ∧ n.2.2.2.1.length = n.2.1.length + 1 ∧ ∀ i, i < n.2.2.2.1.length → ∃ kid : Nat, n.2.2.2.1.getD i 0 = (kid : Int) ∧ kid < 19 ∧ Gd l d kid (lo n.2.1 low i) (hi' n.2.1 high i) false))
theorem Gd_succ {l : List NodeT} {d at' : Nat} {low high : ByteArray} {isr : Bool} : Gd l (d + 1) at' low high isr ↔ ∃ n : NodeT, l[at']? = some n ∧ nodeOk n = true ∧ inKeys n.2.1 low high = true ∧ (isr = true ∨ 2 ≤ n.2.1.length) ∧
      ((n.1 = true ∧ d = 0) ∨ (n.1 = false ∧ n.2.2.2.1.length = n.2.1.length + 1 ∧ ∀ i, i < n.2.2.2.1.length → ∃ kid : Nat, n.2.2.2.1.getD i 0 = (kid : Int) ∧ kid < 19 ∧ Gd l d kid (lo n.2.1 low i) (hi' n.2.1 high i) false)) := Iff.rfl
/-- what a walk that came to a depth tells of the tree -/
def WG (l : List NodeT) (d : Int) (at' : Nat) (low high : ByteArray) (isr : Bool) (c c' : Nat) : Prop := 1 ≤ d → Gd l d.toNat at' low high isr ∧ c' + cost isr d.toNat ≤ c
theorem WG_neg {l : List NodeT} {at' : Nat} {low high : ByteArray} {isr : Bool} {c c' : Nat} : WG l (-1) at' low high isr c c' := fun h => absurd h (by omega)
/-- both walks of a node, told together -/
def Walks (root : Nat) (l : List NodeT) (c : Nat) : Prop := ∀ (seen : List Bool) (at' : Nat) (low high : ByteArray) (isr : Bool), seen.length = 19 → seen.count false ≤ c → at' < 19 → (isr = true ∧ at' = root ∨ isr = false ∧ seen.getD root false = true) →
  ∃ (d : Int) (seen' : List Bool), seen'.length = 19 ∧ (seen.getD root false = true → seen'.getD root false = true) ∧ seen'.count false ≤ seen.count false ∧ (d = -1 ∨ (1 ≤ d ∧ d ≤ (seen.count false : Int))) ∧ WG l d at' low high isr (seen.count false) (seen'.count false) ∧
    Ev (fun k => F113 k root l at' low high isr seen) ((d, ()), (((), (), ()), (), (), (), (), seen', ())) ∧
    ∀ (D δ : Int), 0 ≤ D → D ≤ 1000 → 1 ≤ δ → δ + seen.count false ≤ 1000 → ∃ out, Ev (fun k => F116 k root l seen D at' δ low high) out ∧
      ((1 ≤ d ∧ (D = 0 ∨ D = δ + d - 1) ∧ out = ((true, ()), (((root : Int), l, seen', δ + d - 1, ()), (), (), (), (), ()))) ∨ (¬ (1 ≤ d ∧ (D = 0 ∨ D = δ + d - 1)) ∧ out.1.1 = false))
section
variable {root : Nat} {l : List NodeT} {low high : ByteArray} {leaf : Bool} {keys vals : List ByteArray} {kids : List Int} {c : Nat}
/-- the kids from the second on -/
theorem kids_loop (hW : Walks root l c) (hlen : kids.length = keys.length + 1) (hl : keys.length ≤ 1048576) (hr : ∀ i, i < kids.length → 0 ≤ kids.getD i 0 ∧ kids.getD i 0 ≤ 18) :
    ∀ (m i : Nat) (seen : List Bool) (deep : Int), i + m = kids.length → seen.length = 19 → seen.count false ≤ c → seen.getD root false = true → 1 ≤ deep → deep ≤ 500 →
    ∃ (d : Int) (seen' : List Bool), seen'.length = 19 ∧ seen'.getD root false = true ∧ seen'.count false ≤ seen.count false ∧ (d = -1 ∨ d = deep + 1) ∧ (d = deep + 1 → (∀ j, i ≤ j → j < kids.length → ∃ kid : Nat, kids.getD j 0 = (kid : Int) ∧ kid < 19 ∧ Gd l deep.toNat kid (lo keys low j) (hi' keys high j) false) ∧ seen'.count false + m * cost false deep.toNat ≤ seen.count false) ∧
      Ev (fun k => F113c11 k low high seen root l leaf keys vals kids deep (i : Int)) ((d, ()), (((), (), ()), (), (), (), (), seen', ())) ∧
      ∀ δ : Int, 1 ≤ δ → δ + 1 + seen.count false ≤ 1000 → δ + deep ≤ 1000 → ∃ out, Ev (fun k => F116c16 k root l seen (δ + deep) δ low high leaf keys vals kids kids (kids.length : Int) (i : Int)) out ∧
        ((d = deep + 1 ∧ out = ((true, ()), (((root : Int), l, seen', δ + deep, ()), (), (), (), (), ()))) ∨ (d = -1 ∧ out.1.1 = false)) := by
  intro m
  induction m with
  | zero =>
    intro i seen deep hi hs hc hroot hd hd'
    refine ⟨deep + 1, seen, hs, hroot, Nat.le_refl _, .inr rfl, fun _ => ⟨fun j h1 h2 => by omega, by omega⟩, ?_, fun δ h1 h2 h3 => ⟨_, ?_, .inl ⟨rfl, rfl⟩⟩⟩
    · refine Ev.step 1 (fun k => F113c11_eq k _ _ _ _ _ _ _ _ _ _ _) ?_
      simp only [lt_false (show kids.length ≤ i by omega), Bool.false_eq_true, if_false, wrap64 (n := deep + 1) (by omega) (by omega)]
      exact Ev.now _
    · refine Ev.step 1 (fun k => F116c16_eq k _ _ _ _ _ _ _ _ _ _ _ _ _ _) ?_
      simp only [lt_false (show kids.length ≤ i by omega), Bool.false_eq_true, if_false]
      exact Ev.now _
  | succ m ih =>
    intro i seen deep hi hs hc hroot hd hd'
    have hik : i < kids.length := by omega
    obtain ⟨hk0, hk1⟩ := hr i hik
    obtain ⟨kid, hkid⟩ : ∃ kid : Nat, kids.getD i 0 = (kid : Int) := ⟨(kids.getD i 0).toNat, by omega⟩
    obtain ⟨d1, s1, a1, a2, a3, a4, ag, a5, a6⟩ := hW seen kid (lo keys low i) (hi' keys high i) false hs hc (by omega) (.inr ⟨rfl, hroot⟩)
    rw [← hkid] at a5 a6
    have step1 := fun {q} => spec_step (q := q) (root := root) (l := l) (low := low) (high := high) (leaf := leaf) (vals := vals) (deep := deep) hik (by omega) hl a5
    have dpos : decide (deep > 0) = true := by simp; omega
    rcases a4 with a4 | ⟨a4, a4'⟩
    · subst a4
      refine ⟨-1, s1, a1, a2 hroot, a3, .inl rfl, fun h => absurd h (by omega), step1 ?_, fun δ h1 h2 h3 => ?_⟩
      · exact Ev.now _
      · obtain ⟨out, b1, b2⟩ := a6 (δ + deep) (δ + 1) (by omega) (by omega) (by omega) (by omega)
        rcases b2 with ⟨b2, _⟩ | ⟨_, b2⟩
        · omega
        · refine ⟨((false, ()), ((out.2.1.1, out.2.1.2.1, out.2.1.2.2.1, out.2.1.2.2.2.1, ()), (), (), (), (), ())), impl_step (r10 := out) hik (by omega) hl (by omega) (by omega) b1 ?_, .inr ⟨rfl, rfl⟩⟩
          simp only [b2, Bool.not_false, if_true]
          exact Ev.now _
    · have hneg : decide (d1 < 0) = false := by simp; omega
      by_cases hdd : d1 = deep
      · subst hdd
        obtain ⟨d2, s2, c1, c2, c3, c4, cg, c5, c6⟩ := ih (i + 1) s1 d1 (by omega) a1 (by omega) (a2 hroot) hd hd'
        refine ⟨d2, s2, c1, c2, by omega, c4, fun h => by
          obtain ⟨g1, g2⟩ := cg h
          obtain ⟨g3, g4⟩ := ag (by omega)
          refine ⟨fun j hj1 hj2 => ?_, by rw [Nat.add_mul, Nat.one_mul]; omega⟩
          rcases Nat.eq_or_lt_of_le hj1 with rfl | hj
          · exact ⟨kid, hkid, by omega, g3⟩
          · exact g1 j hj hj2, step1 ?_, fun δ h1 h2 h3 => ?_⟩
        · simp only [hneg, dpos, bne_self_eq_false, Bool.false_eq_true, if_false, if_true]
          exact c5
        · obtain ⟨out, b1, b2⟩ := a6 (δ + d1) (δ + 1) (by omega) (by omega) (by omega) (by omega)
          obtain ⟨out2, e1, e2⟩ := c6 δ h1 (by omega) h3
          rcases b2 with ⟨_, _, b2⟩ | ⟨b2, _⟩
          · subst b2
            refine ⟨out2, impl_step hik (by omega) hl (by omega) (by omega) b1 ?_, e2⟩
            simp only [Bool.not_true, Bool.false_eq_true, if_false]
            have : δ + 1 + d1 - 1 = δ + d1 := by omega
            rw [this]
            exact e1
          · exact absurd ⟨a4, .inr (by omega)⟩ b2
      · have hne : (d1 != deep) = true := by simp [hdd]
        refine ⟨-1, s1, a1, a2 hroot, a3, .inl rfl, fun h => absurd h (by omega), step1 ?_, fun δ h1 h2 h3 => ?_⟩
        · simp only [hneg, dpos, hne, Bool.false_eq_true, if_false, if_true]
          exact Ev.now _
        · obtain ⟨out, b1, b2⟩ := a6 (δ + deep) (δ + 1) (by omega) (by omega) (by omega) (by omega)
          rcases b2 with ⟨_, b2, _⟩ | ⟨_, b2⟩
          · omega
          · refine ⟨((false, ()), ((out.2.1.1, out.2.1.2.1, out.2.1.2.2.1, out.2.1.2.2.2.1, ()), (), (), (), (), ())), impl_step (r10 := out) hik (by omega) hl (by omega) (by omega) b1 ?_, .inr ⟨rfl, rfl⟩⟩
            simp only [b2, Bool.not_false, if_true]
            exact Ev.now _
end
theorem getB_of {l : List Bool} {i : Nat} (h : i < l.length) : l[i]? = some (l.getD i false) := by
  rw [List.getD_eq_getElem?_getD, List.getElem?_eq_getElem h]
  rfl
theorem getN_of {l : List NodeT} {i : Nat} (h : i < l.length) : l[i]? = some l[i] := List.getElem?_eq_getElem h
theorem count_mark {l : List Bool} {i : Nat} (h : i < l.length) (hf : l.getD i false = false) : (l.set i true).count false + 1 = l.count false := by
  induction l generalizing i with
  | nil => simp at h
  | cons a l ih =>
    cases i with
    | zero =>
      simp at hf
      subst hf
      simp
    | succ i =>
      have := ih (i := i) (by simpa using h) (by simpa using hf)
      simp only [List.set_cons_succ, List.count_cons]
      omega
theorem marked {l : List Bool} {i : Nat} (h : i < l.length) : (l.set i true).getD i false = true := by
  simp [List.getD_eq_getElem?_getD, List.getElem?_set_self h]
theorem mark_keeps {l : List Bool} {i j : Nat} (h : l.getD j false = true) : (l.set i true).getD j false = true := by
  by_cases e : i = j
  · subst e
    have : i < l.length := by
      rcases Nat.lt_or_ge i l.length with h1 | h1
      · exact h1
      · simp [List.getD_eq_getElem?_getD, List.getElem?_eq_none h1] at h
    exact marked this
  · rw [List.getD_eq_getElem?_getD, List.getElem?_set_ne e, ← List.getD_eq_getElem?_getD]
    exact h
section
variable {root : Nat} {l : List NodeT}
/-- bounds of the keys, on the other side -/
theorem F116c6_ev {met : List Bool} {D δ : Int} {low high : ByteArray} {leaf : Bool} {keys vals : List ByteArray} {kids : List Int} (hl : keys.length ≤ 1048576) {q}
    (hyes : inKeys keys low high = true → Ev (fun k => if leaf = true then if (D == (0 : Int)) = true then F116c14 k root l met δ δ else F116c14 k root l met D δ else F116c16 k root l met D δ low high leaf keys vals kids kids (kids.length : Int) (0 : Int)) q) :
    Ev (fun k => F116c6 k root l met D δ low high leaf keys vals kids keys (keys.length : Int) (0 : Int)) (if inKeys keys low high = true then q else ((false, ()), (((root : Int), l, met, D, ()), (), (), (), (), ()))) := by
  refine all_loop' (L := fun k i => F116c6 k root l met D δ low high leaf keys vals kids keys (keys.length : Int) i) ?_ ?_ ?_
  · intro i hi hc
    refine Ev.step 1 (fun k => F116c6_eq k _ _ _ _ _ _ _ _ _ _ _ _ _ _) ?_
    simp only [lt_true hi, ge0, if_true, Int.toNat_natCast, getD_of hi, Option.bind_some]
    unfold inKey at hc
    cases h1 : Op.bytesLess (keys.getD i ByteArray.empty).toList low.toList with
    | true => exact Ev.now _
    | false =>
      rw [h1] at hc
      simp only [Bool.not_false, Bool.true_and, Bool.or_eq_false_iff] at hc
      simp only [hc.1, hc.2, Bool.not_false, Bool.false_eq_true, if_false, if_true]
      exact Ev.now _
  · intro i hi hc r hr
    refine Ev.step 1 (fun k => F116c6_eq k _ _ _ _ _ _ _ _ _ _ _ _ _ _) ?_
    simp only [lt_true hi, ge0, if_true, Int.toNat_natCast, getD_of hi, Option.bind_some]
    unfold inKey at hc
    simp only [Bool.and_eq_true, Bool.not_eq_true', Bool.or_eq_true] at hc
    simp only [hc.1, Bool.false_eq_true, if_false]
    rw [wrap_succ (by omega)]
    cases h2 : (high.toList == (⟨#[]⟩ : ByteArray).toList) with
    | true => exact hr
    | false =>
      rcases hc.2 with hc2 | hc2
      · rw [h2] at hc2; cases hc2
      · simp only [Bool.not_false, if_true, hc2, Bool.not_true, Bool.false_eq_true, if_false]
        exact hr
  · intro hin
    refine Ev.step 1 (fun k => F116c6_eq k _ _ _ _ _ _ _ _ _ _ _ _ _ _) ?_
    simp only [lt_false (Nat.le_refl keys.length), Bool.false_eq_true, if_false]
    exact hyes hin
theorem walks (hn : l.length = 19) (hok : ∀ n, n ∈ l → okNode n) : ∀ c, Walks root l c := by
  intro c
  induction c with
  | zero =>
    intro seen at' low high isr hs hc hat hr
    have hseen : seen.getD at' false = true := by
      cases h : seen.getD at' false with
      | true => rfl
      | false => have := count_mark (by omega) h; omega
    refine ⟨-1, seen, hs, id, Nat.le_refl _, .inl rfl, WG_neg, ?_, fun D δ _ _ _ _ => ⟨((false, ()), (((root : Int), l, seen, D, ()), (), (), (), (), ())), ?_, .inr ⟨by omega, rfl⟩⟩⟩
    · refine Ev.step 2 (fun k => F113_eq k _ _ _ _ _ _ _) ?_
      simp only [ge0, lt_true (show at' < seen.length by omega), Bool.and_self, if_true, Int.toNat_natCast, getB_of (show at' < seen.length by omega), Option.bind_some, hseen]
      exact Ev.now _
    · refine Ev.step 2 (fun k => F116_eq k _ _ _ _ _ _ _ _) ?_
      simp only [ge0, lt_true (show at' < seen.length by omega), Bool.and_self, if_true, Int.toNat_natCast, getN_of (show at' < l.length by omega), getB_of (show at' < seen.length by omega), Option.bind_some, hseen]
      exact Ev.now _
  | succ c ih =>
    intro seen at' low high isr hs hc hat hr
    have hlt : at' < seen.length := by omega
    have hltl : at' < l.length := by omega
    cases hseen : seen.getD at' false with
    | true =>
      refine ⟨-1, seen, hs, id, Nat.le_refl _, .inl rfl, WG_neg, ?_, fun D δ _ _ _ _ => ⟨((false, ()), (((root : Int), l, seen, D, ()), (), (), (), (), ())), ?_, .inr ⟨by omega, rfl⟩⟩⟩
      · refine Ev.step 2 (fun k => F113_eq k _ _ _ _ _ _ _) ?_
        simp only [ge0, lt_true hlt, Bool.and_self, if_true, Int.toNat_natCast, getB_of hlt, Option.bind_some, hseen]
        exact Ev.now _
      · refine Ev.step 2 (fun k => F116_eq k _ _ _ _ _ _ _ _) ?_
        simp only [ge0, lt_true hlt, Bool.and_self, if_true, Int.toNat_natCast, getN_of hltl, getB_of hlt, Option.bind_some, hseen]
        exact Ev.now _
    | false =>
      have hcount := count_mark hlt hseen
      have hs1 : (seen.set at' true).length = 19 := by simpa using hs
      have hroot : seen.getD root false = true → (seen.set at' true).getD root false = true := fun h => mark_keeps h
      have hbne : ((at' : Int) != (root : Int)) = !isr := by
        rcases hr with ⟨h1, h2⟩ | ⟨h1, h2⟩
        · rw [h1, h2]; simp
        · have : at' ≠ root := fun e => by rw [e, h2] at hseen; cases hseen
          rw [h1]
          simp
          omega
      have hroot1 : (seen.set at' true).getD root false = true := by
        rcases hr with ⟨_, h2⟩ | ⟨_, h2⟩
        · rw [← h2]; exact marked hlt
        · exact mark_keeps h2
      obtain ⟨n, hnn⟩ : ∃ n, l[at'] = n := ⟨_, rfl⟩
      have hokn : okNode n := hnn ▸ hok _ (List.getElem_mem hltl)
      have specS : ∀ {q}, Ev (fun k => (F132 k n.1 n.2.1 n.2.2.1 n.2.2.2.1).bind fun r4 => if (!r4.1.1) = true then some (((-1 : Int), ()), (((), (), ()), (), (), (), (), seen.set at' true, ())) else (F133 k n.2.1 low high).bind fun r5 => if (!r5.1.1) = true then some (((-1 : Int), ()), (((), (), ()), (), (), (), (), seen.set at' true, ())) else
          if (!isr) = true then if (decide ((n.2.1.length : Int) < (2 : Int))) = true then some (((-1 : Int), ()), (((), (), ()), (), (), (), (), seen.set at' true, ())) else if n.1 = true then some (((1 : Int), ()), (((), (), ()), (), (), (), (), seen.set at' true, ())) else F113c11 k low high (seen.set at' true) root l n.1 n.2.1 n.2.2.1 n.2.2.2.1 (0 : Int) (0 : Int)
          else if n.1 = true then some (((1 : Int), ()), (((), (), ()), (), (), (), (), seen.set at' true, ())) else F113c11 k low high (seen.set at' true) root l n.1 n.2.1 n.2.2.1 n.2.2.2.1 (0 : Int) (0 : Int)) q → Ev (fun k => F113 k root l at' low high isr seen) q := by
        intro q hq
        refine Ev.step 2 (fun k => F113_eq k _ _ _ _ _ _ _) ?_
        simp only [ge0, lt_true hlt, Bool.and_self, if_true, Int.toNat_natCast, getB_of hlt, getN_of hltl, hnn, Option.bind_some, hseen, Bool.false_eq_true, if_false]
        exact hq
      have implS : ∀ {D δ q}, Ev (fun k => (F135 k n.1 n.2.1 n.2.2.1 n.2.2.2.1).bind fun r3 => if (!r3.1.1) = true then some ((false, ()), (((root : Int), l, seen, D, ()), (), (), (), (), ())) else
          if (!isr) = true then if (decide ((n.2.1.length : Int) < (2 : Int))) = true then some ((false, ()), (((root : Int), l, seen, D, ()), (), (), (), (), ())) else F116c6 k root l (seen.set at' true) D δ low high n.1 n.2.1 n.2.2.1 n.2.2.2.1 n.2.1 (n.2.1.length : Int) (0 : Int)
          else F116c6 k root l (seen.set at' true) D δ low high n.1 n.2.1 n.2.2.1 n.2.2.2.1 n.2.1 (n.2.1.length : Int) (0 : Int)) q → Ev (fun k => F116 k root l seen D at' δ low high) q := by
        intro D δ q hq
        refine Ev.step 2 (fun k => F116_eq k _ _ _ _ _ _ _ _) ?_
        simp only [ge0, lt_true hlt, Bool.and_self, if_true, Int.toNat_natCast, getB_of hlt, getN_of hltl, hnn, Option.bind_some, hseen, Bool.false_eq_true, if_false, hbne]
        exact hq
      have fail : ∀ {P : Int → List Bool → Prop}, P (-1) (seen.set at' true) → ∃ (d : Int) (seen' : List Bool), seen'.length = 19 ∧ (seen.getD root false = true → seen'.getD root false = true) ∧ seen'.count false ≤ seen.count false ∧ (d = -1 ∨ (1 ≤ d ∧ d ≤ (seen.count false : Int))) ∧ WG l d at' low high isr (seen.count false) (seen'.count false) ∧ P d seen' :=
        fun h => ⟨-1, _, hs1, hroot, by omega, .inl rfl, WG_neg, h⟩
      cases hno : nodeOk n with
      | false =>
        refine fail ⟨specS (Ev.bind (F132_ev n hokn) ?_), fun D δ _ _ _ _ => ⟨((false, ()), (((root : Int), l, seen, D, ()), (), (), (), (), ())), implS (Ev.bind (F135_ev n hokn) ?_), .inr ⟨by omega, rfl⟩⟩⟩
        · simp only [hno, Bool.not_false, if_true]
          exact Ev.now _
        · simp only [hno, Bool.not_false, if_true]
          exact Ev.now _
      | true =>
        have hkl : n.2.1.length ≤ 1048576 := hokn.1
        cases hin : inKeys n.2.1 low high with
        | false =>
          refine fail ⟨specS (Ev.bind (F132_ev n hokn) ?_), fun D δ _ _ _ _ => ?_⟩
          · simp only [hno, Bool.not_true, Bool.false_eq_true, if_false]
            refine Ev.bind (F133_ev n.2.1 hokn.1 low high) ?_
            simp only [hin, Bool.not_false, if_true]
            exact Ev.now _
          · have h6 := F116c6_ev (root := root) (l := l) (met := seen.set at' true) (D := D) (δ := δ) (low := low) (high := high) (leaf := n.1) (keys := n.2.1) (vals := n.2.2.1) (kids := n.2.2.2.1) hkl (q := ((false, ()), (((root : Int), l, seen.set at' true, D, ()), (), (), (), (), ()))) (fun h => by rw [hin] at h; cases h)
            rw [hin] at h6
            simp only [Bool.false_eq_true, if_false] at h6
            by_cases hsh : (!isr) = true ∧ decide ((n.2.1.length : Int) < 2) = true
            · refine ⟨((false, ()), (((root : Int), l, seen, D, ()), (), (), (), (), ())), implS (Ev.bind (F135_ev n hokn) ?_), .inr ⟨by omega, rfl⟩⟩
              · simp only [hno, Bool.not_true, Bool.false_eq_true, if_false, hsh.1, hsh.2, if_true]
                exact Ev.now _
            · refine ⟨((false, ()), (((root : Int), l, seen.set at' true, D, ()), (), (), (), (), ())), implS (Ev.bind (F135_ev n hokn) ?_), .inr ⟨by omega, rfl⟩⟩
              · simp only [hno, Bool.not_true, Bool.false_eq_true, if_false]
                cases h1 : (!isr) with
                | false => exact h6
                | true =>
                  have h2 : decide ((n.2.1.length : Int) < 2) = false := by
                    cases h3 : decide ((n.2.1.length : Int) < 2) with
                    | false => rfl
                    | true => exact absurd ⟨h1, h3⟩ hsh
                  simp only [if_true, h2, Bool.false_eq_true, if_false]
                  exact h6
        | true =>
          by_cases hsh : (!isr) = true ∧ decide ((n.2.1.length : Int) < 2) = true
          · refine fail ⟨specS (Ev.bind (F132_ev n hokn) ?_), fun D δ _ _ _ _ => ⟨((false, ()), (((root : Int), l, seen, D, ()), (), (), (), (), ())), implS (Ev.bind (F135_ev n hokn) ?_), .inr ⟨by omega, rfl⟩⟩⟩
            · simp only [hno, Bool.not_true, Bool.false_eq_true, if_false]
              refine Ev.bind (F133_ev n.2.1 hokn.1 low high) ?_
              simp only [hin, Bool.not_true, Bool.false_eq_true, if_false, hsh.1, hsh.2, if_true]
              exact Ev.now _
            · simp only [hno, Bool.not_true, Bool.false_eq_true, if_false, hsh.1, hsh.2, if_true]
              exact Ev.now _
          · have hsh' : isr = true ∨ 2 ≤ n.2.1.length := by
              rcases Nat.lt_or_ge n.2.1.length 2 with h2 | h2
              · refine .inl ?_
                cases h1 : isr with
                | true => rfl
                | false => exact absurd ⟨by rw [h1]; rfl, by simp; omega⟩ hsh
              · exact .inr h2
            have spec2 : ∀ {q}, Ev (fun k => if n.1 = true then some (((1 : Int), ()), (((), (), ()), (), (), (), (), seen.set at' true, ())) else F113c11 k low high (seen.set at' true) root l n.1 n.2.1 n.2.2.1 n.2.2.2.1 (0 : Int) (0 : Int)) q → Ev (fun k => F113 k root l at' low high isr seen) q := by
              intro q hq
              refine specS (Ev.bind (F132_ev n hokn) ?_)
              simp only [hno, Bool.not_true, Bool.false_eq_true, if_false]
              refine Ev.bind (F133_ev n.2.1 hokn.1 low high) ?_
              simp only [hin, Bool.not_true, Bool.false_eq_true, if_false]
              cases h1 : (!isr) with
              | false => exact hq
              | true =>
                have h2 : decide ((n.2.1.length : Int) < 2) = false := by
                  cases h3 : decide ((n.2.1.length : Int) < 2) with
                  | false => rfl
                  | true => exact absurd ⟨h1, h3⟩ hsh
                simp only [if_true, h2, Bool.false_eq_true, if_false]
                exact hq
            have impl2 : ∀ {D δ q}, Ev (fun k => if n.1 = true then if (D == (0 : Int)) = true then F116c14 k root l (seen.set at' true) δ δ else F116c14 k root l (seen.set at' true) D δ else F116c16 k root l (seen.set at' true) D δ low high n.1 n.2.1 n.2.2.1 n.2.2.2.1 n.2.2.2.1 (n.2.2.2.1.length : Int) (0 : Int)) q → Ev (fun k => F116 k root l seen D at' δ low high) q := by
              intro D δ q hq
              have h6 := F116c6_ev (root := root) (l := l) (met := seen.set at' true) (D := D) (δ := δ) (low := low) (high := high) (leaf := n.1) (keys := n.2.1) (vals := n.2.2.1) (kids := n.2.2.2.1) hkl (fun _ => hq)
              rw [hin] at h6
              simp only [if_true] at h6
              refine implS (Ev.bind (F135_ev n hokn) ?_)
              simp only [hno, Bool.not_true, Bool.false_eq_true, if_false]
              cases h1 : (!isr) with
              | false => exact h6
              | true =>
                have h2 : decide ((n.2.1.length : Int) < 2) = false := by
                  cases h3 : decide ((n.2.1.length : Int) < 2) with
                  | false => rfl
                  | true => exact absurd ⟨h1, h3⟩ hsh
                simp only [if_true, h2, Bool.false_eq_true, if_false]
                exact h6
            cases hleaf : n.1 with
            | true =>
              simp only [hleaf, if_true] at spec2 impl2
              refine ⟨1, _, hs1, hroot, by omega, .inr ⟨by omega, by omega⟩, fun _ => by
                show Gd l (0 + 1) at' low high isr ∧ _ + cost isr 1 ≤ _
                rw [cost_one]
                exact ⟨Gd_succ.2 ⟨n, hnn ▸ List.getElem?_eq_getElem hltl, hno, hin, hsh', .inl ⟨hleaf, rfl⟩⟩, by omega⟩, spec2 (Ev.now _), fun D δ h1 h2 h3 h4 => ?_⟩
              cases hD : (D == (0 : Int)) with
              | true =>
                have hD' : D = 0 := by simpa using hD
                refine ⟨((true, ()), (((root : Int), l, seen.set at' true, δ + 1 - 1, ()), (), (), (), (), ())), impl2 ?_, .inl ⟨by omega, .inl hD', rfl⟩⟩
                simp only [hD, if_true]
                have e : δ + 1 - 1 = δ := by omega
                rw [e]
                refine Ev.step 1 (fun k => F116c14_eq k _ _ _ _ _) ?_
                simp only [beq_self_eq_true]
                exact Ev.now _
              | false =>
                have hD' : D ≠ 0 := by simpa using hD
                by_cases hDδ : D = δ
                · subst hDδ
                  refine ⟨((true, ()), (((root : Int), l, seen.set at' true, D + 1 - 1, ()), (), (), (), (), ())), impl2 ?_, .inl ⟨by omega, .inr (by omega), rfl⟩⟩
                  simp only [hD, Bool.false_eq_true, if_false]
                  have e : D + 1 - 1 = D := by omega
                  rw [e]
                  refine Ev.step 1 (fun k => F116c14_eq k _ _ _ _ _) ?_
                  simp only [beq_self_eq_true]
                  exact Ev.now _
                · refine ⟨((D == δ, ()), (((root : Int), l, seen.set at' true, D, ()), (), (), (), (), ())), impl2 ?_, .inr ⟨by omega, by simpa using hDδ⟩⟩
                  simp only [hD, Bool.false_eq_true, if_false]
                  exact Ev.step 1 (fun k => F116c14_eq k _ _ _ _ _) (Ev.now _)
            | false =>
              simp only [hleaf, Bool.false_eq_true, if_false] at spec2 impl2
              have hk := hno
              unfold nodeOk at hk
              simp only [hleaf, Bool.false_eq_true, if_false, Bool.and_eq_true, beq_iff_eq, decide_eq_true_eq] at hk
              obtain ⟨_, ⟨⟨hk1, _⟩, hk2⟩, hk3⟩ := hk
              have hlen : n.2.2.2.1.length = n.2.1.length + 1 := by omega
              have hrng : ∀ i, i < n.2.2.2.1.length → 0 ≤ n.2.2.2.1.getD i 0 ∧ n.2.2.2.1.getD i 0 ≤ 18 := by
                intro i hi
                have := List.all_eq_true.1 hk1 i (by simpa using hi)
                unfold within at this
                simp only [Bool.and_eq_true, decide_eq_true_eq] at this
                exact ⟨this.1, this.2⟩
              have h0k : 0 < n.2.2.2.1.length := by omega
              obtain ⟨hr0, hr1⟩ := hrng 0 h0k
              obtain ⟨kid, hkid⟩ : ∃ kid : Nat, n.2.2.2.1.getD 0 0 = (kid : Int) := ⟨(n.2.2.2.1.getD 0 0).toNat, by omega⟩
              obtain ⟨d1, s1, a1, a2, a3, a4, ag, a5, a6⟩ := ih (seen.set at' true) kid (lo n.2.1 low 0) (hi' n.2.1 high 0) false hs1 (by omega) (by omega) (.inr ⟨rfl, hroot1⟩)
              rw [← hkid] at a5 a6
              have st := fun {q} => spec_step (q := q) (root := root) (l := l) (low := low) (high := high) (leaf := false) (vals := n.2.2.1) (deep := 0) h0k (by omega) hkl a5
              rcases a4 with a4 | ⟨a4, a4'⟩
              · subst a4
                refine ⟨-1, s1, a1, fun _ => a2 hroot1, by omega, .inl rfl, WG_neg, spec2 (st ?_), fun D δ h1 h2 h3 h4 => ?_⟩
                · exact Ev.now _
                · obtain ⟨out, b1, b2⟩ := a6 D (δ + 1) h1 h2 (by omega) (by omega)
                  rcases b2 with ⟨b2, _⟩ | ⟨_, b2⟩
                  · omega
                  · refine ⟨((false, ()), ((out.2.1.1, out.2.1.2.1, out.2.1.2.2.1, out.2.1.2.2.2.1, ()), (), (), (), (), ())), impl2 (impl_step (r10 := out) (i := 0) h0k (by omega) hkl (by omega) (by omega) b1 ?_), .inr ⟨by omega, rfl⟩⟩
                    simp only [b2, Bool.not_false, if_true]
                    exact Ev.now _
              · have hneg : decide (d1 < 0) = false := by simp; omega
                have hz : decide ((0 : Int) > 0) = false := by decide
                obtain ⟨d2, s2, c1, c2, c3, c4, cg, c5, c6⟩ := kids_loop (low := low) (high := high) (leaf := false) (vals := n.2.2.1) ih hlen hkl hrng (n.2.2.2.1.length - 1) 1 s1 d1 (by omega) a1 (by omega) (a2 hroot1) a4 (by
                  have : (seen.set at' true).count false ≤ 19 := by rw [← hs1]; exact List.count_le_length
                  omega)
                refine ⟨d2, s2, c1, fun _ => c2, by omega, ?_, fun _ => by
                  have hd2 : d2 = d1 + 1 := by rcases c4 with c4 | c4 <;> omega
                  obtain ⟨g1, g2⟩ := cg hd2
                  obtain ⟨g3, g4⟩ := ag (by omega)
                  have e1 : d2.toNat = d1.toNat + 1 := by omega
                  rw [e1]
                  refine ⟨Gd_succ.2 ⟨n, hnn ▸ List.getElem?_eq_getElem hltl, hno, hin, hsh', .inr ⟨hleaf, hlen, fun i hi => ?_⟩⟩, cost_step (K := n.2.2.2.1.length - 1) (hsh'.imp_right (fun h => by omega)) (by omega) g2 g4 hcount⟩
                  rcases Nat.eq_zero_or_pos i with rfl | h0
                  · exact ⟨kid, hkid, by omega, g3⟩
                  · exact g1 i h0 hi, spec2 (st ?_), fun D δ h1 h2 h3 h4 => ?_⟩
                · rcases c4 with c4 | c4
                  · exact .inl c4
                  · exact .inr ⟨by omega, by omega⟩
                · simp only [hneg, hz, Bool.false_eq_true, if_false]
                  exact c5
                · obtain ⟨out, b1, b2⟩ := a6 D (δ + 1) h1 h2 (by omega) (by omega)
                  rcases b2 with ⟨_, b3, b2⟩ | ⟨b3, b2⟩
                  · obtain ⟨out2, e1, e2⟩ := c6 δ h3 (by omega) (by omega)
                    subst b2
                    refine ⟨out2, impl2 (impl_step (i := 0) h0k (by omega) hkl (by omega) (by omega) b1 ?_), ?_⟩
                    · simp only [Bool.not_true, Bool.false_eq_true, if_false]
                      have e : δ + 1 + d1 - 1 = δ + d1 := by omega
                      rw [e]
                      exact e1
                    · rcases e2 with ⟨e2, e3⟩ | ⟨e2, e3⟩
                      · refine .inl ⟨by omega, by omega, ?_⟩
                        have e : δ + d2 - 1 = δ + d1 := by omega
                        rw [e]
                        exact e3
                      · exact .inr ⟨by omega, e3⟩
                  · refine ⟨((false, ()), ((out.2.1.1, out.2.1.2.1, out.2.1.2.2.1, out.2.1.2.2.2.1, ()), (), (), (), (), ())), impl2 (impl_step (r10 := out) (i := 0) h0k (by omega) hkl (by omega) (by omega) b1 ?_), .inr ⟨?_, rfl⟩⟩
                    · simp only [b2, Bool.not_false, if_true]
                      exact Ev.now _
                    · intro hh
                      refine b3 ⟨a4, ?_⟩
                      omega
end
end Go.Proofs.Ytldjfonpegffiaa.R
/-! Rf, trees: how deep a tree is, on both sides. -/
namespace Go.Proofs.Ytldjfonpegffiaa.R
open Go.Rf

def goodAt (seen : List Bool) (l : List NodeT) (i : Nat) : Bool := seen.getD i false || nodeZero (l.getD i (false, [], [], [], ()))
theorem getNd_of {l : List NodeT} {i : Nat} (h : i < l.length) : l[i]? = some (l.getD i (false, [], [], [], ())) := by
  rw [List.getD_eq_getElem?_getD, List.getElem?_eq_getElem h]
  rfl
theorem F88c6_ev {root : Int} {l : List NodeT} {seen : List Bool} {d : Int} (hs : seen.length = 19) (hn : l.length = 19) : Ev (fun k => F88c6 k root l seen d 0) (if (List.range seen.length).all (goodAt seen l) = true then ((d, ()), (((), (), ()), ())) else (((-1 : Int), ()), (((), (), ()), ()))) := by
  refine all_loop (L := fun k i => F88c6 k root l seen d i) ?_ ?_ ?_
  · intro i hi hc
    refine Ev.step 1 (fun k => F88c6_eq k root l seen d i) ?_
    unfold goodAt at hc
    simp only [Bool.or_eq_false_iff] at hc
    simp only [lt_true hi, ge0, Bool.and_self, if_true, Int.toNat_natCast, getB_of hi, getNd_of (show i < l.length by omega), Option.bind_some, hc.1, Bool.not_false]
    refine Ev.bind (F114_ev _) ?_
    simp only [hc.2, Bool.not_false, if_true]
    exact Ev.now _
  · intro i hi hc r hr
    refine Ev.step 1 (fun k => F88c6_eq k root l seen d i) ?_
    unfold goodAt at hc
    simp only [lt_true hi, ge0, Bool.and_self, if_true, Int.toNat_natCast, getB_of hi, getNd_of (show i < l.length by omega), Option.bind_some]
    rw [wrap_succ (by omega)]
    cases h1 : seen.getD i false with
    | true => exact hr
    | false =>
      rw [h1, Bool.false_or] at hc
      simp only [Bool.not_false, if_true]
      refine Ev.bind (F114_ev _) ?_
      simp only [hc, Bool.not_true, Bool.false_eq_true, if_false]
      exact hr
  · refine Ev.step 1 (fun k => F88c6_eq k root l seen d seen.length) ?_
    simp only [lt_false (Nat.le_refl seen.length), Bool.false_eq_true, if_false]
    exact Ev.now _
theorem F90c7_ev {root : Int} {l : List NodeT} {seen : List Bool} {d : Int} (hs : seen.length = 19) (hn : l.length = 19) : Ev (fun k => F90c7 k root l seen d l (l.length : Int) 0) (if (List.range l.length).all (goodAt seen l) = true then ((d, ()), (((), (), ()), ())) else (((0 : Int), ()), (((), (), ()), ()))) := by
  refine all_loop (L := fun k i => F90c7 k root l seen d l (l.length : Int) i) ?_ ?_ ?_
  · intro i hi hc
    have hi2 : i < seen.length := by omega
    refine Ev.step 1 (fun k => F90c7_eq k root l seen d l _ i) ?_
    unfold goodAt at hc
    simp only [Bool.or_eq_false_iff] at hc
    simp only [lt_true hi, lt_true hi2, ge0, Bool.and_self, if_true, Int.toNat_natCast, getB_of hi2, getNd_of hi, Option.bind_some, hc.1, Bool.not_false]
    refine Ev.bind (F117_ev _) ?_
    simp only [hc.2, Bool.not_false, if_true]
    exact Ev.now _
  · intro i hi hc r hr
    have hi2 : i < seen.length := by omega
    refine Ev.step 1 (fun k => F90c7_eq k root l seen d l _ i) ?_
    unfold goodAt at hc
    simp only [lt_true hi, lt_true hi2, ge0, Bool.and_self, if_true, Int.toNat_natCast, getB_of hi2, getNd_of hi, Option.bind_some]
    rw [wrap_succ (by omega)]
    cases h1 : seen.getD i false with
    | true => exact hr
    | false =>
      rw [h1, Bool.false_or] at hc
      simp only [Bool.not_false, if_true]
      refine Ev.bind (F117_ev _) ?_
      simp only [hc, Bool.not_true, Bool.false_eq_true, if_false]
      exact hr
  · refine Ev.step 1 (fun k => F90c7_eq k root l seen d l _ l.length) ?_
    simp only [lt_false (Nat.le_refl l.length), Bool.false_eq_true, if_false]
    exact Ev.now _
/-- what a depth tells of a tree -/
def Sound (l : List NodeT) (t : Int) (d : Nat) : Prop := l.length = 19 ∧ ∃ root : Nat, t = (root : Int) ∧ root < 19 ∧ Gd l d root (⟨#[]⟩ : ByteArray) (⟨#[]⟩ : ByteArray) true ∧ cost true d ≤ 19
theorem deep_ev' (t : Int) (l : List NodeT) (hok : ∀ n, n ∈ l → okNode n) : ∃ v : Int, (v = -1 ∨ 1 ≤ v) ∧ (1 ≤ v → Sound l t v.toNat) ∧ Ev (fun k => F88 k t l) ((v, ()), (((), (), ()), ())) ∧ Ev (fun k => F90 k t l) ((if v < 0 then 0 else v, ()), (((), (), ()), ())) := by
  by_cases hn : l.length = 19
  · have hne : ((l.length : Int) != 19) = false := by simp [hn]
    by_cases hw : within t 0 18 = true
    · have ht : 0 ≤ t ∧ t ≤ 18 := by
        unfold within at hw
        simpa using hw
      obtain ⟨root, rfl⟩ : ∃ r : Nat, t = (r : Int) := ⟨t.toNat, by omega⟩
      have hc19 : (List.replicate 19 false).count false = 19 := by decide
      obtain ⟨d, s, a1, _, _, a4, ag, a5, a6⟩ := walks (root := root) hn hok 19 (List.replicate 19 false) root (⟨#[]⟩ : ByteArray) (⟨#[]⟩ : ByteArray) true (by simp) (by omega) (by omega) (.inl ⟨rfl, rfl⟩)
      obtain ⟨out, b1, b2⟩ := a6 0 1 (by omega) (by omega) (by omega) (by omega)
      have hmk : (decide (0 ≤ (19 : Int)) && decide ((19 : Int) ≤ (19 : Int)) && decide ((19 : Int) ≤ (140737488355328 : Int))) = true := by decide
      have e88 : ∀ {q}, Ev (fun k => F88c6 k root l s d 0) q → Ev (fun k => F88 k root l) q := by
        intro q hq
        refine Ev.step 2 (fun k => F88_eq k root l) ?_
        simp only [hne, Bool.false_eq_true, if_false]
        refine Ev.bind (F73_ev _ 0 18) ?_
        simp only [hw, Bool.not_true, Bool.false_eq_true, if_false, hmk, if_true]
        exact Ev.bind a5 hq
      have e90 : ∀ {q}, Ev (fun k => if (!out.1.1) = true then some (((0 : Int), ()), (((), (), ()), ())) else F90c7 k out.2.1.1 out.2.1.2.1 out.2.1.2.2.1 out.2.1.2.2.2.1 l (l.length : Int) (0 : Int)) q → Ev (fun k => F90 k root l) q := by
        intro q hq
        refine Ev.step 2 (fun k => F90_eq k root l) ?_
        simp only [hne, Bool.false_eq_true, if_false]
        refine Ev.bind (F106_ev _ 0 18) ?_
        simp only [hw, Bool.not_true, Bool.false_eq_true, if_false, hmk, if_true]
        exact Ev.bind b1 hq
      have h88 := e88 (F88c6_ev (root := root) (d := d) a1 hn)
      rcases a4 with a4 | ⟨a4, a4'⟩
      · subst a4
        refine ⟨-1, .inl rfl, fun h => absurd h (by omega), ?_, e90 ?_⟩
        · have : (if (List.range s.length).all (goodAt s l) = true then (((-1 : Int), ()), (((), (), ()), ())) else (((-1 : Int), ()), (((), (), ()), ()))) = (((-1 : Int), ()), ((((), (), ()) : Unit × Unit × Unit), ())) := by split <;> rfl
          rw [this] at h88
          exact h88
        · rcases b2 with ⟨b2, _⟩ | ⟨_, b2⟩
          · omega
          · simp only [b2, Bool.not_false, if_true]
            exact Ev.now _
      · rcases b2 with ⟨_, _, b2⟩ | ⟨b2, _⟩
        · subst b2
          have h90 := e90 (by
            simp only [Bool.not_true, Bool.false_eq_true, if_false]
            exact F90c7_ev (root := root) (d := 1 + d - 1) a1 hn)
          rw [a1] at h88
          rw [hn] at h90
          cases hall : (List.range 19).all (goodAt s l) with
          | true =>
            rw [hall] at h88 h90
            simp only [if_true] at h88 h90
            refine ⟨d, .inr a4, fun _ => ⟨hn, root, rfl, by omega, (ag a4).1, by have := (ag a4).2; omega⟩, h88, ?_⟩
            rw [if_neg (by omega)]
            have e : 1 + d - 1 = d := by omega
            rw [e] at h90
            exact h90
          | false =>
            rw [hall] at h88 h90
            simp only [Bool.false_eq_true, if_false] at h88 h90
            exact ⟨-1, .inl rfl, fun h => absurd h (by omega), h88, h90⟩
        · exact absurd ⟨a4, .inl rfl⟩ b2
    · have hw' : within t 0 18 = false := by simpa using hw
      refine ⟨-1, .inl rfl, fun h => absurd h (by omega), ?_, ?_⟩
      · refine Ev.step 2 (fun k => F88_eq k t l) ?_
        simp only [hne, Bool.false_eq_true, if_false]
        refine Ev.bind (F73_ev _ 0 18) ?_
        simp only [hw', Bool.not_false, if_true]
        exact Ev.now _
      · refine Ev.step 2 (fun k => F90_eq k t l) ?_
        simp only [hne, Bool.false_eq_true, if_false]
        refine Ev.bind (F106_ev _ 0 18) ?_
        simp only [hw', Bool.not_false, if_true]
        exact Ev.now _
  · have hne : ((l.length : Int) != 19) = true := by simp; omega
    refine ⟨-1, .inl rfl, fun h => absurd h (by omega), ?_, ?_⟩
    · refine Ev.step 2 (fun k => F88_eq k t l) ?_
      simp only [hne, if_true]
      exact Ev.now _
    · refine Ev.step 2 (fun k => F90_eq k t l) ?_
      simp only [hne, if_true]
      exact Ev.now _
theorem deep_ev (t : Int) (l : List NodeT) (hok : ∀ n, n ∈ l → okNode n) : ∃ v : Int, (v = -1 ∨ 1 ≤ v) ∧ Ev (fun k => F88 k t l) ((v, ()), (((), (), ()), ())) ∧ Ev (fun k => F90 k t l) ((if v < 0 then 0 else v, ()), (((), (), ()), ())) := by
  obtain ⟨v, h1, _, h2, h3⟩ := deep_ev' t l hok
  exact ⟨v, h1, h2, h3⟩
/-- what the law's bound of bulk asks of lengths -/
theorem fits_of {l : List NodeT} (h : wfT (.sl (.pair .bool (.pair (.sl .str) (.pair (.sl .str) (.pair (.sl (.int .i64)) .unit))))) l) : l.length ≤ 9223372036854775807 ∧ ∀ n, n ∈ l → fits n := by
  have e : maxLen = 9223372036854775807 := by decide
  refine ⟨by have := h.1; omega, fun n hn => ?_⟩
  obtain ⟨_, h2, h3, h4, _⟩ := h.2 n hn
  exact ⟨by have := h2.1; omega, fun y hy => by have : y.size ≤ maxLen := h2.2 y hy; omega, by have := h3.1; omega, fun y hy => by have : y.size ≤ maxLen := h3.2 y hy; omega, by have := h4.1; omega⟩
end Go.Proofs.Ytldjfonpegffiaa.R
/-! Rf, trees: a key is looked up, on both sides. -/
namespace Go.Proofs.Ytldjfonpegffiaa.R
open Go.Rf

theorem sorted_of {l : List ByteArray} (h : keysOk' l = true) : Sorted l := by
  have adj : ∀ i, 0 < i → i < l.length → Op.bytesLess (l.getD (i - 1) ByteArray.empty).toList (l.getD i ByteArray.empty).toList = true := by
    intro i h0 hi
    have := List.all_eq_true.1 h i (by simpa using hi)
    unfold keyOk at this
    simp only [Bool.and_eq_true, Bool.or_eq_true, beq_iff_eq] at this
    rcases this.2 with h1 | h1
    · omega
    · exact h1
  intro i j
  induction j with
  | zero => intro hij; omega
  | succ j ih =>
    intro hij hj
    have h1 := adj (j + 1) (by omega) hj
    rcases Nat.eq_or_lt_of_le (Nat.le_of_lt_succ hij) with rfl | h2
    · exact h1
    · exact less_trans (ih h2 (by omega)) h1
theorem nodeOk_keys {n : NodeT} (h : nodeOk n = true) : keysOk' n.2.1 = true ∧ n.2.1.length ≤ 4 := by
  unfold nodeOk at h
  simp only [Bool.and_eq_true, decide_eq_true_eq] at h
  exact ⟨h.1.1, by have := h.1.2; omega⟩
theorem nodeOk_vals {n : NodeT} (h : nodeOk n = true) (hl : n.1 = true) : n.2.2.1.length = n.2.1.length := by
  unfold nodeOk at h
  simp only [hl, if_true, Bool.and_eq_true, decide_eq_true_eq, beq_iff_eq] at h
  have := h.2.1.2
  omega
theorem F124_ev (l : List ByteArray) (h : okLen l.length) (key : ByteArray) : ∃ p, IsLow l key p ∧ Ev (fun k => F124 k l key) (((p : Int), ()), ((), (), ())) := by
  have hh : ∃ p, p ≤ l.length ∧ (∀ j, j < p → Op.bytesLess (l.getD j ByteArray.empty).toList key.toList = true) ∧ (p < l.length → Op.bytesLess (l.getD p ByteArray.empty).toList key.toList = false) ∧ Ev (fun k => F124c2 k l key 0) (((p : Int), ()), ((), (), ())) := by
    refine first_loop (L := fun k i => F124c2 k l key i) (c := fun i => Op.bytesLess (l.getD i ByteArray.empty).toList key.toList) (fin := fun p => (((p : Int), ()), ((), (), ()))) ?_ ?_
    · intro i hi hc
      refine Ev.step 1 (fun k => F124c2_eq k l key i) ?_
      rcases Nat.eq_or_lt_of_le hi with rfl | hlt
      · simp only [lt_false (Nat.le_refl _), Bool.false_eq_true, if_false]
        exact Ev.now _
      · simp only [lt_true hlt, ge0, if_true, Int.toNat_natCast, getD_of hlt, Option.bind_some, hc hlt, Bool.false_eq_true, if_false]
        exact Ev.now _
    · intro i hi hc r hr
      refine Ev.step 1 (fun k => F124c2_eq k l key i) ?_
      simp only [lt_true hi, ge0, if_true, Int.toNat_natCast, getD_of hi, Option.bind_some, hc]
      rw [wrap_succ (by unfold okLen at h; omega)]
      exact hr
  obtain ⟨p, h1, h2, h3, h4⟩ := hh
  exact ⟨p, ⟨h1, h2, h3⟩, Ev.step 2 (fun k => F124_eq k l key) h4⟩
theorem F140_ev (l : List ByteArray) (h : okLen l.length) (key : ByteArray) : ∃ p, IsUp l key p ∧ Ev (fun k => F140 k l key) (((p : Int), ()), ((), (), ())) := by
  have hh : ∃ p, p ≤ l.length ∧ (∀ j, j < p → (!Op.bytesLess key.toList (l.getD j ByteArray.empty).toList) = true) ∧ (p < l.length → (!Op.bytesLess key.toList (l.getD p ByteArray.empty).toList) = false) ∧ Ev (fun k => F140c2 k l key 0) (((p : Int), ()), ((), (), ())) := by
    refine first_loop (L := fun k i => F140c2 k l key i) (c := fun i => !Op.bytesLess key.toList (l.getD i ByteArray.empty).toList) (fin := fun p => (((p : Int), ()), ((), (), ()))) ?_ ?_
    · intro i hi hc
      refine Ev.step 1 (fun k => F140c2_eq k l key i) ?_
      rcases Nat.eq_or_lt_of_le hi with rfl | hlt
      · simp only [lt_false (Nat.le_refl _), Bool.false_eq_true, if_false]
        exact Ev.now _
      · simp only [lt_true hlt, ge0, if_true, Int.toNat_natCast, getD_of hlt, Option.bind_some, ← not_less, hc hlt, Bool.false_eq_true, if_false]
        exact Ev.now _
    · intro i hi hc r hr
      refine Ev.step 1 (fun k => F140c2_eq k l key i) ?_
      simp only [lt_true hi, ge0, if_true, Int.toNat_natCast, getD_of hi, Option.bind_some, ← not_less, hc]
      rw [wrap_succ (by unfold okLen at h; omega)]
      exact hr
  obtain ⟨p, h1, h2, h3, h4⟩ := hh
  exact ⟨p, ⟨h1, fun j hj => by simpa using h2 j hj, fun hp => by simpa using h3 hp⟩, Ev.step 2 (fun k => F140_eq k l key) h4⟩
theorem F151_ev (a : ByteArray) : Ev (fun k => F151 k a) ((false, ()), ((), ())) := by
  refine Ev.step 2 (fun k => F151_eq k a) ?_
  simp only [beq_self_eq_true, Bool.not_true]
  exact Ev.now _
theorem F143_ev (a : ByteArray) : Ev (fun k => F143 k a) ((false, ()), ((), ())) := by
  refine Ev.step 2 (fun k => F143_eq k a) ?_
  simp only [beq_self_eq_true, Bool.not_true]
  exact Ev.now _
theorem F142_ev (a b : ByteArray) : Ev (fun k => F142 k a b) ((Op.bytesLess a.toList b.toList, ()), ((), (), ())) := by
  refine Ev.step 2 (fun k => F142_eq k a b) (Ev.bind (F151_ev a) ?_)
  simp only [Bool.false_eq_true, if_false]
  exact Ev.now _
theorem half64 {i j : Nat} (h : i + j ≤ 4611686018427387904) : IntKind.i64.wrap ((IntKind.u64.wrap (IntKind.i64.wrap ((i : Int) + (j : Int)))).fdiv (2 ^ min (1 : Int).toNat IntKind.u64.bits)) = (((i + j) / 2 : Nat) : Int) := by
  have e1 : IntKind.u64.wrap (IntKind.i64.wrap ((i : Int) + (j : Int))) = (i : Int) + j := by
    rw [wrap64 (by omega) (by omega)]
    unfold IntKind.wrap
    simp [IntKind.bits, IntKind.signed]
    omega
  have e2 : (2 : Int) ^ min (1 : Int).toNat IntKind.u64.bits = 2 := by decide
  rw [e1, e2, Int.fdiv_eq_ediv_of_nonneg _ (by omega), wrap64 (by omega) (by omega)]
  omega
/-- was it found -/
def found (l : List ByteArray) (key : ByteArray) (p : Nat) : Bool := decide (p < l.length) && ((l.getD p ByteArray.empty).toList == key.toList)
theorem F126_ev (l : List ByteArray) (h : okLen l.length) (hs : Sorted l) (key : ByteArray) : ∃ p, IsLow l key p ∧ Ev (fun k => F126 k l key) (((p : Int), found l key p, ()), ((), (), ())) := by
  have hh : ∀ m i j : Nat, j ≤ i + m → i ≤ j → j ≤ l.length → (∀ x, x < i → Op.bytesLess (l.getD x ByteArray.empty).toList key.toList = true) → (j < l.length → Op.bytesLess (l.getD j ByteArray.empty).toList key.toList = false) →
      ∃ p, IsLow l key p ∧ Ev (fun k => F126c3 k l key (l.length : Int) (i : Int) (j : Int)) (((p : Int), found l key p, ()), ((), (), ())) := by
    intro m
    induction m with
    | zero =>
      intro i j hm hij hj h1 h2
      have : i = j := by omega
      subst this
      refine ⟨i, ⟨hj, h1, h2⟩, Ev.step 1 (fun k => F126c3_eq k l key _ _ _) ?_⟩
      rcases Nat.eq_or_lt_of_le hj with he | hlt
      · have hf : found l key i = false := by unfold found; simp [he]
        rw [hf]
        simp only [lt_false (Nat.le_refl i), lt_false (Nat.le_of_eq he.symm), Bool.false_eq_true, if_false]
        exact Ev.now _
      · simp only [lt_false (Nat.le_refl i), lt_true hlt, ge0, Int.toNat_natCast, getD_of hlt, Option.bind_some, Bool.false_eq_true, if_false, if_true]
        cases he : ((l.getD i ByteArray.empty).toList == key.toList) with
        | true =>
          have hf : found l key i = true := by unfold found; simp only [he, hlt, decide_true, Bool.and_self]
          rw [hf]
          simp only [if_true]
          exact Ev.now _
        | false =>
          have hf : found l key i = false := by unfold found; simp only [he, Bool.and_false]
          rw [hf]
          simp only [Bool.false_eq_true, if_false]
          refine Ev.bind (F143_ev _) ?_
          simp only [Bool.false_eq_true, if_false]
          exact Ev.now _
    | succ m ih =>
      intro i j hm hij hj h1 h2
      rcases Nat.eq_or_lt_of_le hij with he | hlt
      · exact ih i j (by omega) hij hj h1 h2
      · have hk : (i + j) / 2 < l.length := by omega
        have st : ∀ {q}, Ev (fun k => if Op.bytesLess (l.getD ((i + j) / 2) ByteArray.empty).toList key.toList = true then F126c3 k l key (l.length : Int) (((i + j) / 2 + 1 : Nat) : Int) (j : Int) else F126c3 k l key (l.length : Int) (i : Int) (((i + j) / 2 : Nat) : Int)) q → Ev (fun k => F126c3 k l key (l.length : Int) (i : Int) (j : Int)) q := by
          intro q hq
          refine Ev.step 1 (fun k => F126c3_eq k l key _ _ _) ?_
          unfold okLen at h
          simp only [half64 (show i + j ≤ 4611686018427387904 by omega), lt_true hlt, ge0, Int.toNat_natCast, getD_of hk, Option.bind_some, if_true, wrap_succ (show (i + j) / 2 < 9223372036854775807 by omega)]
          exact Ev.bind (F142_ev _ _) hq
        cases hc : Op.bytesLess (l.getD ((i + j) / 2) ByteArray.empty).toList key.toList with
        | true =>
          rw [hc] at st
          simp only [if_true] at st
          obtain ⟨p, g1, g2⟩ := ih ((i + j) / 2 + 1) j (by omega) (by omega) hj (fun x hx => by
            rcases Nat.eq_or_lt_of_le (Nat.le_of_lt_succ hx) with rfl | hx
            · exact hc
            · exact less_trans (hs x _ hx hk) hc) h2
          exact ⟨p, g1, st g2⟩
        | false =>
          rw [hc] at st
          simp only [Bool.false_eq_true, if_false] at st
          obtain ⟨p, g1, g2⟩ := ih i ((i + j) / 2) (by omega) (by omega) (by omega) h1 (fun _ => hc)
          exact ⟨p, g1, st g2⟩
  obtain ⟨p, g1, g2⟩ := hh l.length 0 l.length (by omega) (by omega) (Nat.le_refl _) (fun x hx => by omega) (fun hx => by omega)
  exact ⟨p, g1, Ev.step 2 (fun k => F126_eq k l key) g2⟩
theorem F141_ev (n : NodeT) (h : nodeOk n = true) (key : ByteArray) : ∃ p, IsUp n.2.1 key p ∧ Ev (fun k => F141 k n.1 n.2.1 n.2.2.1 n.2.2.2.1 key) (((p : Int), ()), (((), (), (), (), ()), (), ())) := by
  obtain ⟨hk, hl⟩ := nodeOk_keys h
  obtain ⟨p, g1, g2⟩ := F126_ev n.2.1 (by unfold okLen; omega) (sorted_of hk) key
  have hp := g1.1
  cases hf : found n.2.1 key p with
  | true =>
    rw [hf] at g2
    unfold found at hf
    simp only [Bool.and_eq_true, decide_eq_true_eq] at hf
    refine ⟨p + 1, g1.up_there (sorted_of hk) hf.1 hf.2, Ev.step 2 (fun k => F141_eq k _ _ _ _ _) (Ev.bind g2 ?_)⟩
    simp only [if_true]
    rw [wrap_succ (by omega)]
    exact Ev.step 1 (fun k => F141c4_eq k _) (Ev.now _)
  | false =>
    rw [hf] at g2
    refine ⟨p, g1.up_else (fun hp => ?_), Ev.step 2 (fun k => F141_eq k _ _ _ _ _) (Ev.bind g2 ?_)⟩
    · unfold found at hf
      simpa only [hp, decide_true, Bool.true_and] using hf
    · simp only [Bool.false_eq_true, if_false]
      exact Ev.step 1 (fun k => F141c4_eq k _) (Ev.now _)
theorem last_len (pre : List Int) (a : Int) : ((pre ++ [a]).length : Int) = (pre.length : Int) + 1 := by simp
theorem last_at (pre : List Int) (a : Int) (h : pre.length ≤ 1000) : IntKind.i64.wrap (((pre ++ [a]).length : Int) - 1) = (pre.length : Int) := by
  rw [last_len, wrap64 (by omega) (by omega)]
  omega
theorem last_lt (pre : List Int) (a : Int) : decide ((pre.length : Int) < ((pre ++ [a]).length : Int)) = true := by
  rw [last_len]
  exact decide_eq_true (by omega)
/-- both go down to one leaf -/
theorem descend {root : Int} {l : List NodeT} {key : ByteArray} : ∀ (d at' : Nat) (low high : ByteArray) (isr : Bool), Gd l d at' low high isr → ∃ (leaf : NodeT) (a : Nat), nodeOk leaf = true ∧ leaf.1 = true ∧ l[a]? = some leaf ∧
    (∀ x0 x1 x2 x3, Ev (fun k => F123c2 k key root l x0 x1 x2 x3 (at' : Int)) ((leaf, ()), (((), (), ()), (), ()))) ∧
    ∀ pre : List Int, pre.length + d ≤ 1000 → ∃ pre' : List Int, pre'.length ≤ 1000 ∧ Ev (fun k => F125c2 k key root l (pre ++ [(at' : Int)])) ((pre' ++ [(a : Int)], ()), (((), (), ()), (), ())) := by
  intro d
  induction d with
  | zero => intro at' low high isr h; exact h.elim
  | succ d ih =>
    intro at' low high isr h
    obtain ⟨n, hn, hok, _, _, h⟩ := Gd_succ.1 h
    rcases h with ⟨hleaf, _⟩ | ⟨hleaf, hlen, hkids⟩
    · refine ⟨n, at', hok, hleaf, hn, fun _ _ _ _ => ?_, fun pre hpre => ⟨pre, by omega, ?_⟩⟩
      · refine Ev.step 1 (fun k => F123c2_eq k _ _ _ _ _ _ _ _) ?_
        simp only [ge0, if_true, Int.toNat_natCast, hn, Option.bind_some, hleaf, Bool.not_true, Bool.false_eq_true, if_false]
        rw [← hleaf]
        exact Ev.now _
      · refine Ev.step 1 (fun k => F125c2_eq k _ _ _ _) ?_
        simp only [last_at pre _ (by omega), last_lt, ge0, Bool.and_self, if_true, Int.toNat_natCast, List.getElem?_concat_length, Option.bind_some, hn, hleaf]
        exact Ev.now _
    · obtain ⟨hk, hl⟩ := nodeOk_keys hok
      obtain ⟨p, g1, g2⟩ := F140_ev n.2.1 (by unfold okLen; omega) key
      obtain ⟨p', g3, g4⟩ := F141_ev n hok key
      have := g3.uniq g1
      subst this
      have hpk : p' < n.2.2.2.1.length := by have := g1.1; omega
      obtain ⟨kid, k1, k2, k3⟩ := hkids p' hpk
      obtain ⟨leaf, a, e1, e2, e3, e4, e5⟩ := ih kid _ _ _ k3
      refine ⟨leaf, a, e1, e2, e3, fun x0 x1 x2 x3 => ?_, fun pre hpre => ?_⟩
      · refine Ev.step 1 (fun k => F123c2_eq k _ _ _ _ _ _ _ _) ?_
        simp only [ge0, if_true, Int.toNat_natCast, hn, Option.bind_some, hleaf, Bool.not_false]
        refine Ev.bind g2 ?_
        simp only [ge0, if_true, Int.toNat_natCast, getI_of hpk, Option.bind_some, k1]
        exact e4 _ _ _ _
      · rw [hleaf] at g4
        obtain ⟨pre', q1, q2⟩ := e5 (pre ++ [(at' : Int)]) (by simp; omega)
        refine ⟨pre', q1, Ev.step 1 (fun k => F125c2_eq k _ _ _ _) ?_⟩
        have hcap : decide ((pre ++ [(at' : Int)]).length + [(kid : Int)].length ≤ 17592186044416) = true := by simp; omega
        simp only [last_at pre _ (by omega), last_lt, ge0, Bool.and_self, if_true, Int.toNat_natCast, List.getElem?_concat_length, Option.bind_some, hn, hleaf, Bool.false_eq_true, if_false]
        refine Ev.bind g4 ?_
        simp only [ge0, if_true, Int.toNat_natCast, getI_of hpk, Option.bind_some, k1, hcap]
        exact q2
theorem getV_of {l : List ByteArray} {i : Nat} (h : i < l.length) : l[i]? = some (l.getD i ByteArray.empty) := getD_of h
/-- a tree that is in order answers on both sides as one -/
theorem get_ev {t : Int} {l : List NodeT} {d : Nat} (h : Sound l t d) (hd : d ≤ 900) (key : ByteArray) : ∃ (v : ByteArray) (b : Bool), Ev (fun k => F94 k t l key) ((v, b, ()), (((), (), ()), (), ())) ∧ Ev (fun k => F95 k t l key) ((v, b, ()), (((), (), ()), (), ())) := by
  obtain ⟨_, root, rfl, _, hg, _⟩ := h
  obtain ⟨leaf, a, e1, e2, e3, e4, e5⟩ := descend (root := (root : Int)) (key := key) d root _ _ _ hg
  obtain ⟨pre, q1, q2⟩ := e5 [] (by simp; omega)
  obtain ⟨hk, hl⟩ := nodeOk_keys e1
  have hv := nodeOk_vals e1 e2
  obtain ⟨p, g1, g2⟩ := F124_ev leaf.2.1 (by unfold okLen; omega) key
  obtain ⟨p', g3, g4⟩ := F126_ev leaf.2.1 (by unfold okLen; omega) (sorted_of hk) key
  have := g3.uniq g1
  subst this
  have s1 : ∀ {q}, Ev (fun _ => if (decide ((p' : Int) < (leaf.2.1.length : Int))) = true then if (decide (0 ≤ (p' : Int))) = true then (leaf.2.1[(p' : Int).toNat]?).bind fun y3 => if (y3.toList == key.toList) = true then if (decide (0 ≤ (p' : Int))) = true then (leaf.2.2.1[(p' : Int).toNat]?).bind fun y4 => some ((y4, true, ()), ((((), (), ()), (), ()) : (Unit × Unit × Unit) × Unit × Unit)) else none else some (((⟨#[]⟩ : ByteArray), false, ()), (((), (), ()), (), ())) else none else some (((⟨#[]⟩ : ByteArray), false, ()), (((), (), ()), (), ()))) q → Ev (fun k => F94 k (root : Int) l key) q := by
    intro q hq
    refine Ev.step 2 (fun k => F94_eq k _ _ _) (Ev.bind (Ev.step 2 (fun k => F123_eq k _ _ _) (e4 _ _ _ _)) (Ev.bind g2 hq))
  have s2 : ∀ {q}, Ev (fun _ => if (!(found leaf.2.1 key p')) = true then some (((⟨#[]⟩ : ByteArray), false, ()), ((((), (), ()), (), ()) : (Unit × Unit × Unit) × Unit × Unit)) else if (decide (0 ≤ (p' : Int))) = true then (leaf.2.2.1[(p' : Int).toNat]?).bind fun y5 => some ((y5, true, ()), (((), (), ()), (), ())) else none) q → Ev (fun k => F95 k (root : Int) l key) q := by
    intro q hq
    refine Ev.step 2 (fun k => F95_eq k _ _ _) (Ev.bind (Ev.step 2 (fun k => F125_eq k _ _ _) q2) ?_)
    simp only [last_at pre _ q1, ge0, if_true, Int.toNat_natCast, List.getElem?_concat_length, Option.bind_some, e3]
    exact Ev.bind g4 hq
  by_cases hp : p' < leaf.2.1.length
  · have hp2 : p' < leaf.2.2.1.length := by omega
    simp only [lt_true hp, ge0, if_true, Int.toNat_natCast, getD_of hp, getD_of hp2, Option.bind_some] at s1
    simp only [ge0, if_true, Int.toNat_natCast, getD_of hp2, Option.bind_some] at s2
    cases he : ((leaf.2.1.getD p' ByteArray.empty).toList == key.toList) with
    | true =>
      have hf : found leaf.2.1 key p' = true := by unfold found; simp only [he, hp, decide_true, Bool.and_self]
      simp only [he, if_true] at s1
      simp only [hf, Bool.not_true, Bool.false_eq_true, if_false] at s2
      exact ⟨_, _, s1 (Ev.now _), s2 (Ev.now _)⟩
    | false =>
      have hf : found leaf.2.1 key p' = false := by unfold found; simp only [he, Bool.and_false]
      simp only [he, Bool.false_eq_true, if_false] at s1
      simp only [hf, Bool.not_false, if_true] at s2
      exact ⟨_, _, s1 (Ev.now _), s2 (Ev.now _)⟩
  · have hf : found leaf.2.1 key p' = false := by unfold found; simp only [hp, decide_false, Bool.false_and]
    simp only [lt_false (Nat.le_of_not_lt hp), Bool.false_eq_true, if_false] at s1
    simp only [hf, Bool.not_false, if_true] at s2
    exact ⟨_, _, s1 (Ev.now _), s2 (Ev.now _)⟩
end Go.Proofs.Ytldjfonpegffiaa.R
/-! Rf: what is to be shown of a law, with no machine in sight. -/
namespace Go.Proofs.Ytldjfonpegffiaa.R
open Go.Rf
def PureFnExactTreeGet : Prop := ∀ (a0_0 : Int) (a0_1 : List (Bool × (List ByteArray) × (List ByteArray) × (List Int) × Unit)) (a1 : ByteArray), wfT (.int .i64) a0_0 → wfT (.sl (.pair .bool (.pair (.sl .str) (.pair (.sl .str) (.pair (.sl (.int .i64)) .unit))))) a0_1 → wfT .str a1 → ∃ k p, F14 k a0_0 a0_1 a1 = some ((true, ()), p)
end Go.Proofs.Ytldjfonpegffiaa.R
