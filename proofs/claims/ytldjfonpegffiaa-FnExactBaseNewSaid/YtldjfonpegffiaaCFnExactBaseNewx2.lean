/- A run of the loaded program over lists, and its soundness (part 2). -/
import Derived.Test.YtldjfonpegffiaaCFnExactBaseNewx1
import Derived.Test.YtldjfonpegffiaaProg
import Derived.KernelRfl
set_option autoImplicit false
/-! Rf: the seat's tables. -/
namespace Go.Proofs.Ytldjfonpegffiaa.R
open Go.Rf
noncomputable def tabs : Tabs where
  ty := [(3, ⟨false, [.int .i64], [], 8⟩),
    (4, ⟨false, [.bool], [], 1⟩),
    (5, ⟨false, [.int .u8], [], 1⟩),
    (9, ⟨false, [.str], [], 16⟩),
    (24, ⟨false, [.sl (.int .u8)], [], 24⟩),
    (27, ⟨false, [.sl .str], [], 24⟩),
    (35, ⟨false, [.sl (.pair .bool (.pair (.sl .str) (.pair (.sl .str) (.pair (.sl (.int .i64)) .unit))))], [], 24⟩),
    (37, ⟨true, [.int .i64, .sl (.pair .bool (.pair (.sl .str) (.pair (.sl .str) (.pair (.sl (.int .i64)) .unit))))], [(0, 1, false), (1, 1, false)], 32⟩),
    (65, ⟨false, [.sl (.pair .str (.pair (.sl (.pair .str (.pair (.int .i64) (.pair (.int .i64) (.pair (.int .i64) (.pair .bool .unit)))))) (.pair (.sl (.pair .str (.pair (.sl (.int .i64)) (.pair (.sl .bool) (.pair .bool .unit))))) (.pair (.int .i64) .unit))))], [], 24⟩),
    (67, ⟨true, [.sl (.pair .str (.pair (.sl (.pair .str (.pair (.int .i64) (.pair (.int .i64) (.pair (.int .i64) (.pair .bool .unit)))))) (.pair (.sl (.pair .str (.pair (.sl (.int .i64)) (.pair (.sl .bool) (.pair .bool .unit))))) (.pair (.int .i64) .unit)))), .int .i64, .sl (.pair .bool (.pair (.sl .str) (.pair (.sl .str) (.pair (.sl (.int .i64)) .unit))))], [(0, 1, false), (1, 2, true)], 56⟩),
    (81, ⟨false, [.sl (.int .i64)], [], 24⟩),
    (83, ⟨true, [.bool, .sl .str, .sl .str, .sl (.int .i64)], [(0, 1, false), (1, 1, false), (2, 1, false), (3, 1, false)], 80⟩),
    (125, ⟨false, [.sl .bool], [], 24⟩),
    (134, ⟨false, [.sl (.pair .str (.pair (.int .i64) (.pair (.int .i64) (.pair (.int .i64) (.pair .bool .unit)))))], [], 24⟩),
    (135, ⟨false, [.sl (.pair .str (.pair (.sl (.int .i64)) (.pair (.sl .bool) (.pair .bool .unit))))], [], 24⟩),
    (137, ⟨true, [.str, .sl (.pair .str (.pair (.int .i64) (.pair (.int .i64) (.pair (.int .i64) (.pair .bool .unit))))), .sl (.pair .str (.pair (.sl (.int .i64)) (.pair (.sl .bool) (.pair .bool .unit)))), .int .i64], [(0, 1, false), (1, 1, false), (2, 1, false), (3, 1, false)], 72⟩),
    (154, ⟨true, [.int .i64, .int .i64, .int .i64], [(0, 1, false), (1, 1, false), (2, 1, false)], 24⟩),
    (156, ⟨true, [.str, .int .i64, .int .i64, .int .i64, .bool], [(0, 1, false), (1, 3, true), (4, 1, false)], 48⟩),
    (158, ⟨true, [.str, .sl (.int .i64), .sl .bool, .bool], [(0, 1, false), (1, 1, false), (2, 1, false), (3, 1, false)], 72⟩)]
  el := [(24, 5), (27, 9), (35, 83), (65, 137), (81, 3), (125, 4), (134, 156), (135, 158)]
  ifcs := []
  known := [6, 13, 23, 24, 25, 26, 27, 44, 45, 46, 47, 48, 53, 55, 57, 59, 60, 61, 62, 91, 92, 93, 97, 98, 99, 100, 118, 121, 122, 127, 136, 137, 139, 149, 150, 153, 154]
  spec := [(6, ⟨[], [.c (.v .bool)]⟩),
    (13, ⟨[], [.c (.v .bool)]⟩),
    (23, ⟨[], [.agg [.v (.int .i64), .v (.sl (.pair .bool (.pair (.sl .str) (.pair (.sl .str) (.pair (.sl (.int .i64)) .unit)))))]]⟩),
    (24, ⟨[], [.agg [.v (.int .i64), .o (.pair .bool (.pair (.sl .str) (.pair (.sl .str) (.pair (.sl (.int .i64)) .unit)))) 83 true]]⟩),
    (25, ⟨[.agg [.v (.int .i64), .v (.sl (.pair .bool (.pair (.sl .str) (.pair (.sl .str) (.pair (.sl (.int .i64)) .unit)))))], .agg [.v (.int .i64), .v (.sl (.pair .bool (.pair (.sl .str) (.pair (.sl .str) (.pair (.sl (.int .i64)) .unit)))))]], [.c (.v .bool)]⟩),
    (26, ⟨[.agg [.v (.int .i64), .o (.pair .bool (.pair (.sl .str) (.pair (.sl .str) (.pair (.sl (.int .i64)) .unit)))) 83 true], .c (.v (.int .i64))], [.c (.v (.int .i64))]⟩),
    (27, ⟨[.agg [.v (.int .i64), .v (.sl (.pair .bool (.pair (.sl .str) (.pair (.sl .str) (.pair (.sl (.int .i64)) .unit)))))], .c (.v (.int .i64))], [.c (.v (.int .i64))]⟩),
    (44, ⟨[], [.agg [.v (.sl (.pair .str (.pair (.sl (.pair .str (.pair (.int .i64) (.pair (.int .i64) (.pair (.int .i64) (.pair .bool .unit)))))) (.pair (.sl (.pair .str (.pair (.sl (.int .i64)) (.pair (.sl .bool) (.pair .bool .unit))))) (.pair (.int .i64) .unit))))), .v (.int .i64), .v (.sl (.pair .bool (.pair (.sl .str) (.pair (.sl .str) (.pair (.sl (.int .i64)) .unit)))))]]⟩),
    (45, ⟨[], [.agg [.v (.sl (.pair .str (.pair (.sl (.pair .str (.pair (.int .i64) (.pair (.int .i64) (.pair (.int .i64) (.pair .bool .unit)))))) (.pair (.sl (.pair .str (.pair (.sl (.int .i64)) (.pair (.sl .bool) (.pair .bool .unit))))) (.pair (.int .i64) .unit))))), .v (.int .i64), .o (.pair .bool (.pair (.sl .str) (.pair (.sl .str) (.pair (.sl (.int .i64)) .unit)))) 83 true]]⟩),
    (46, ⟨[.agg [.v (.sl (.pair .str (.pair (.sl (.pair .str (.pair (.int .i64) (.pair (.int .i64) (.pair (.int .i64) (.pair .bool .unit)))))) (.pair (.sl (.pair .str (.pair (.sl (.int .i64)) (.pair (.sl .bool) (.pair .bool .unit))))) (.pair (.int .i64) .unit))))), .v (.int .i64), .v (.sl (.pair .bool (.pair (.sl .str) (.pair (.sl .str) (.pair (.sl (.int .i64)) .unit)))))], .agg [.v (.sl (.pair .str (.pair (.sl (.pair .str (.pair (.int .i64) (.pair (.int .i64) (.pair (.int .i64) (.pair .bool .unit)))))) (.pair (.sl (.pair .str (.pair (.sl (.int .i64)) (.pair (.sl .bool) (.pair .bool .unit))))) (.pair (.int .i64) .unit))))), .v (.int .i64), .v (.sl (.pair .bool (.pair (.sl .str) (.pair (.sl .str) (.pair (.sl (.int .i64)) .unit)))))]], [.c (.v .bool)]⟩),
    (47, ⟨[.agg [.v (.sl (.pair .str (.pair (.sl (.pair .str (.pair (.int .i64) (.pair (.int .i64) (.pair (.int .i64) (.pair .bool .unit)))))) (.pair (.sl (.pair .str (.pair (.sl (.int .i64)) (.pair (.sl .bool) (.pair .bool .unit))))) (.pair (.int .i64) .unit))))), .v (.int .i64), .o (.pair .bool (.pair (.sl .str) (.pair (.sl .str) (.pair (.sl (.int .i64)) .unit)))) 83 true], .c (.v (.int .i64))], [.c (.v (.int .i64))]⟩),
    (48, ⟨[.agg [.v (.sl (.pair .str (.pair (.sl (.pair .str (.pair (.int .i64) (.pair (.int .i64) (.pair (.int .i64) (.pair .bool .unit)))))) (.pair (.sl (.pair .str (.pair (.sl (.int .i64)) (.pair (.sl .bool) (.pair .bool .unit))))) (.pair (.int .i64) .unit))))), .v (.int .i64), .v (.sl (.pair .bool (.pair (.sl .str) (.pair (.sl .str) (.pair (.sl (.int .i64)) .unit)))))], .c (.v (.int .i64))], [.c (.v (.int .i64))]⟩),
    (53, ⟨[.c (.v (.sl .str)), .c (.v (.sl .str))], [.c (.v .bool)]⟩),
    (55, ⟨[.c (.v (.sl .str)), .c (.v (.int .i64))], [.c (.v (.int .i64))]⟩),
    (57, ⟨[.c (.v (.sl .str)), .c (.v (.int .i64))], [.c (.v (.int .i64))]⟩),
    (59, ⟨[], [.agg [.v (.int .i64), .v (.sl (.pair .bool (.pair (.sl .str) (.pair (.sl .str) (.pair (.sl (.int .i64)) .unit)))))]]⟩),
    (60, ⟨[.c (.v (.sl (.pair .bool (.pair (.sl .str) (.pair (.sl .str) (.pair (.sl (.int .i64)) .unit)))))), .c (.v (.sl (.pair .bool (.pair (.sl .str) (.pair (.sl .str) (.pair (.sl (.int .i64)) .unit))))))], [.c (.v .bool)]⟩),
    (61, ⟨[.c (.o (.pair .bool (.pair (.sl .str) (.pair (.sl .str) (.pair (.sl (.int .i64)) .unit)))) 83 true), .c (.v (.int .i64))], [.c (.v (.int .i64))]⟩),
    (62, ⟨[.c (.v (.sl (.pair .bool (.pair (.sl .str) (.pair (.sl .str) (.pair (.sl (.int .i64)) .unit)))))), .c (.v (.int .i64))], [.c (.v (.int .i64))]⟩),
    (91, ⟨[.c (.v (.sl (.pair .str (.pair (.sl (.pair .str (.pair (.int .i64) (.pair (.int .i64) (.pair (.int .i64) (.pair .bool .unit)))))) (.pair (.sl (.pair .str (.pair (.sl (.int .i64)) (.pair (.sl .bool) (.pair .bool .unit))))) (.pair (.int .i64) .unit)))))), .c (.v (.sl (.pair .str (.pair (.sl (.pair .str (.pair (.int .i64) (.pair (.int .i64) (.pair (.int .i64) (.pair .bool .unit)))))) (.pair (.sl (.pair .str (.pair (.sl (.int .i64)) (.pair (.sl .bool) (.pair .bool .unit))))) (.pair (.int .i64) .unit))))))], [.c (.v .bool)]⟩),
    (92, ⟨[.c (.v (.sl (.pair .str (.pair (.sl (.pair .str (.pair (.int .i64) (.pair (.int .i64) (.pair (.int .i64) (.pair .bool .unit)))))) (.pair (.sl (.pair .str (.pair (.sl (.int .i64)) (.pair (.sl .bool) (.pair .bool .unit))))) (.pair (.int .i64) .unit)))))), .c (.v (.int .i64))], [.c (.v (.int .i64))]⟩),
    (93, ⟨[.c (.v (.sl (.pair .str (.pair (.sl (.pair .str (.pair (.int .i64) (.pair (.int .i64) (.pair (.int .i64) (.pair .bool .unit)))))) (.pair (.sl (.pair .str (.pair (.sl (.int .i64)) (.pair (.sl .bool) (.pair .bool .unit))))) (.pair (.int .i64) .unit)))))), .c (.v (.int .i64))], [.c (.v (.int .i64))]⟩),
    (97, ⟨[.c (.v (.int .i64))], [.c (.v .str)]⟩),
    (98, ⟨[.agg [.v .bool, .v (.sl .str), .v (.sl .str), .v (.sl (.int .i64))], .agg [.v .bool, .v (.sl .str), .v (.sl .str), .v (.sl (.int .i64))]], [.c (.v .bool)]⟩),
    (99, ⟨[.c (.v (.sl (.int .i64))), .c (.v (.int .i64))], [.c (.v (.int .i64))]⟩),
    (100, ⟨[.c (.v (.sl (.int .i64))), .c (.v (.int .i64))], [.c (.v (.int .i64))]⟩),
    (118, ⟨[.agg [.v .str, .v (.sl (.pair .str (.pair (.int .i64) (.pair (.int .i64) (.pair (.int .i64) (.pair .bool .unit)))))), .v (.sl (.pair .str (.pair (.sl (.int .i64)) (.pair (.sl .bool) (.pair .bool .unit))))), .v (.int .i64)], .agg [.v .str, .v (.sl (.pair .str (.pair (.int .i64) (.pair (.int .i64) (.pair (.int .i64) (.pair .bool .unit)))))), .v (.sl (.pair .str (.pair (.sl (.int .i64)) (.pair (.sl .bool) (.pair .bool .unit))))), .v (.int .i64)]], [.c (.v .bool)]⟩),
    (121, ⟨[.c (.v (.sl (.pair .str (.pair (.int .i64) (.pair (.int .i64) (.pair (.int .i64) (.pair .bool .unit))))))), .c (.v (.int .i64))], [.c (.v (.int .i64))]⟩),
    (122, ⟨[.c (.v (.sl (.pair .str (.pair (.sl (.int .i64)) (.pair (.sl .bool) (.pair .bool .unit)))))), .c (.v (.int .i64))], [.c (.v (.int .i64))]⟩),
    (127, ⟨[.c (.v (.sl (.int .i64))), .c (.v (.sl (.int .i64)))], [.c (.v .bool)]⟩),
    (136, ⟨[.c (.v (.sl (.pair .str (.pair (.int .i64) (.pair (.int .i64) (.pair (.int .i64) (.pair .bool .unit))))))), .c (.v (.sl (.pair .str (.pair (.int .i64) (.pair (.int .i64) (.pair (.int .i64) (.pair .bool .unit)))))))], [.c (.v .bool)]⟩),
    (137, ⟨[.c (.v (.sl (.pair .str (.pair (.sl (.int .i64)) (.pair (.sl .bool) (.pair .bool .unit)))))), .c (.v (.sl (.pair .str (.pair (.sl (.int .i64)) (.pair (.sl .bool) (.pair .bool .unit))))))], [.c (.v .bool)]⟩),
    (139, ⟨[.c (.v (.sl .bool)), .c (.v (.int .i64))], [.c (.v (.int .i64))]⟩),
    (149, ⟨[.agg [.v .str, .v (.int .i64), .v (.int .i64), .v (.int .i64), .v .bool], .agg [.v .str, .v (.int .i64), .v (.int .i64), .v (.int .i64), .v .bool]], [.c (.v .bool)]⟩),
    (150, ⟨[.agg [.v .str, .v (.sl (.int .i64)), .v (.sl .bool), .v .bool], .agg [.v .str, .v (.sl (.int .i64)), .v (.sl .bool), .v .bool]], [.c (.v .bool)]⟩),
    (153, ⟨[.agg [.v (.int .i64), .v (.int .i64), .v (.int .i64)], .agg [.v (.int .i64), .v (.int .i64), .v (.int .i64)]], [.c (.v .bool)]⟩),
    (154, ⟨[.c (.v (.sl .bool)), .c (.v (.sl .bool))], [.c (.v .bool)]⟩)]
  cut := [(53, [(4, [(0, .c (.v (.sl .str))), (1, .c (.v (.sl .str))), (5, .c (.v (.int .i64)))])]),
    (55, [(2, [(0, .c (.v (.sl .str))), (1, .c (.v (.int .i64))), (5, .c (.v (.int .i64)))])]),
    (57, [(2, [(0, .c (.v (.sl .str))), (1, .c (.v (.int .i64))), (5, .c (.v (.int .i64)))])]),
    (60, [(4, [(0, .c (.v (.sl (.pair .bool (.pair (.sl .str) (.pair (.sl .str) (.pair (.sl (.int .i64)) .unit))))))), (1, .c (.v (.sl (.pair .bool (.pair (.sl .str) (.pair (.sl .str) (.pair (.sl (.int .i64)) .unit))))))), (5, .c (.v (.int .i64)))])]),
    (61, [(2, [(0, .c (.o (.pair .bool (.pair (.sl .str) (.pair (.sl .str) (.pair (.sl (.int .i64)) .unit)))) 83 true)), (1, .c (.v (.int .i64))), (5, .c (.v (.int .i64)))])]),
    (62, [(2, [(0, .c (.v (.sl (.pair .bool (.pair (.sl .str) (.pair (.sl .str) (.pair (.sl (.int .i64)) .unit))))))), (1, .c (.v (.int .i64))), (5, .c (.v (.int .i64)))])]),
    (91, [(4, [(0, .c (.v (.sl (.pair .str (.pair (.sl (.pair .str (.pair (.int .i64) (.pair (.int .i64) (.pair (.int .i64) (.pair .bool .unit)))))) (.pair (.sl (.pair .str (.pair (.sl (.int .i64)) (.pair (.sl .bool) (.pair .bool .unit))))) (.pair (.int .i64) .unit))))))), (1, .c (.v (.sl (.pair .str (.pair (.sl (.pair .str (.pair (.int .i64) (.pair (.int .i64) (.pair (.int .i64) (.pair .bool .unit)))))) (.pair (.sl (.pair .str (.pair (.sl (.int .i64)) (.pair (.sl .bool) (.pair .bool .unit))))) (.pair (.int .i64) .unit))))))), (5, .c (.v (.int .i64)))])]),
    (92, [(2, [(0, .c (.v (.sl (.pair .str (.pair (.sl (.pair .str (.pair (.int .i64) (.pair (.int .i64) (.pair (.int .i64) (.pair .bool .unit)))))) (.pair (.sl (.pair .str (.pair (.sl (.int .i64)) (.pair (.sl .bool) (.pair .bool .unit))))) (.pair (.int .i64) .unit))))))), (1, .c (.v (.int .i64))), (5, .c (.v (.int .i64)))])]),
    (93, [(2, [(0, .c (.v (.sl (.pair .str (.pair (.sl (.pair .str (.pair (.int .i64) (.pair (.int .i64) (.pair (.int .i64) (.pair .bool .unit)))))) (.pair (.sl (.pair .str (.pair (.sl (.int .i64)) (.pair (.sl .bool) (.pair .bool .unit))))) (.pair (.int .i64) .unit))))))), (1, .c (.v (.int .i64))), (5, .c (.v (.int .i64)))])]),
    (97, [(4, [(0, .c (.v (.int .i64))), (3, .c (.v .str))])]),
    (99, [(2, [(0, .c (.v (.sl (.int .i64)))), (1, .c (.v (.int .i64))), (5, .c (.v (.int .i64)))])]),
    (100, [(2, [(0, .c (.v (.sl (.int .i64)))), (1, .c (.v (.int .i64))), (5, .c (.v (.int .i64)))])]),
    (121, [(2, [(0, .c (.v (.sl (.pair .str (.pair (.int .i64) (.pair (.int .i64) (.pair (.int .i64) (.pair .bool .unit)))))))), (1, .c (.v (.int .i64))), (5, .c (.v (.int .i64)))])]),
    (122, [(2, [(0, .c (.v (.sl (.pair .str (.pair (.sl (.int .i64)) (.pair (.sl .bool) (.pair .bool .unit))))))), (1, .c (.v (.int .i64))), (5, .c (.v (.int .i64)))])]),
    (127, [(4, [(0, .c (.v (.sl (.int .i64)))), (1, .c (.v (.sl (.int .i64)))), (5, .c (.v (.int .i64)))])]),
    (136, [(4, [(0, .c (.v (.sl (.pair .str (.pair (.int .i64) (.pair (.int .i64) (.pair (.int .i64) (.pair .bool .unit)))))))), (1, .c (.v (.sl (.pair .str (.pair (.int .i64) (.pair (.int .i64) (.pair (.int .i64) (.pair .bool .unit)))))))), (5, .c (.v (.int .i64)))])]),
    (137, [(4, [(0, .c (.v (.sl (.pair .str (.pair (.sl (.int .i64)) (.pair (.sl .bool) (.pair .bool .unit))))))), (1, .c (.v (.sl (.pair .str (.pair (.sl (.int .i64)) (.pair (.sl .bool) (.pair .bool .unit))))))), (5, .c (.v (.int .i64)))])]),
    (139, [(2, [(0, .c (.v (.sl .bool))), (1, .c (.v (.int .i64))), (5, .c (.v (.int .i64)))])]),
    (154, [(4, [(0, .c (.v (.sl .bool))), (1, .c (.v (.sl .bool))), (5, .c (.v (.int .i64)))])])]
theorem tabs_ok : tabs.ok Try.prog = true := by kernel_rfl
noncomputable def cx : Go.Rf.Cx := tabs.cx Try.prog (fun _ => none) (fun _ => false) (fun _ => none) (fun _ => none)
theorem good : Go.Rf.Good cx := Go.Rf.Tabs.good tabs_ok (fun _ h => by cases h)
theorem told (k f : Nat) (inp : (cx.spec f).In) (out : (cx.spec f).Out) (h : callF cx k f inp = some out) : Go.Rf.Contract cx f inp out := (Go.Rf.run_ok good (fun f g inp out h => by cases h) k).1 f inp out h
end Go.Proofs.Ytldjfonpegffiaa.R
/-! Rf: the functions, and what each answers. -/
set_option linter.unusedVariables false
namespace Go.Proofs.Ytldjfonpegffiaa.R
open Go.Rf
/-! loop.example/jetton/laws.FnExactTreeNew -/
noncomputable def F6 (k : Nat) : Option ((Bool × Unit) × (Unit)) := callF cx k 6 ()
/-! loop.example/jetton/laws.FnExactBaseNew -/
noncomputable def F13 (k : Nat) : Option ((Bool × Unit) × (Unit)) := callF cx k 13 ()
/-! loop.example/jetton/spec.TreeNew -/
noncomputable def F23 (k : Nat) : Option (((Int × (List (Bool × (List ByteArray) × (List ByteArray) × (List Int) × Unit)) × Unit) × Unit) × (Unit)) := callF cx k 23 ()
/-! loop.example/jetton/impl.TreeNew -/
noncomputable def F24 (k : Nat) : Option (((Int × (List (Bool × (List ByteArray) × (List ByteArray) × (List Int) × Unit)) × Unit) × Unit) × (Unit)) := callF cx k 24 ()
/-! loop.example/jetton/laws.eqTree -/
noncomputable def F25 (k : Nat) (a0_0 : Int) (a0_1 : List (Bool × (List ByteArray) × (List ByteArray) × (List Int) × Unit)) (a1_0 : Int) (a1_1 : List (Bool × (List ByteArray) × (List ByteArray) × (List Int) × Unit)) : Option ((Bool × Unit) × ((Unit × Unit × Unit) × (Unit × Unit × Unit) × Unit)) := callF cx k 25 ((a0_0, a0_1, ()), (a1_0, a1_1, ()), ())
/-! loop.example/jetton/laws.markTree -/
noncomputable def F26 (k : Nat) (a0_0 : Int) (a0_1 : List (Bool × (List ByteArray) × (List ByteArray) × (List Int) × Unit)) (a1 : Int) : Option ((Int × Unit) × ((Unit × (List (Bool × (List ByteArray) × (List ByteArray) × (List Int) × Unit)) × Unit) × Unit × Unit)) := callF cx k 26 ((a0_0, a0_1, ()), a1, ())
/-! loop.example/jetton/laws.heldTree -/
noncomputable def F27 (k : Nat) (a0_0 : Int) (a0_1 : List (Bool × (List ByteArray) × (List ByteArray) × (List Int) × Unit)) (a1 : Int) : Option ((Int × Unit) × ((Unit × Unit × Unit) × Unit × Unit)) := callF cx k 27 ((a0_0, a0_1, ()), a1, ())
/-! loop.example/jetton/spec.BaseNew -/
noncomputable def F44 (k : Nat) : Option ((((List (ByteArray × (List (ByteArray × Int × Int × Int × Bool × Unit)) × (List (ByteArray × (List Int) × (List Bool) × Bool × Unit)) × Int × Unit)) × Int × (List (Bool × (List ByteArray) × (List ByteArray) × (List Int) × Unit)) × Unit) × Unit) × (Unit)) := callF cx k 44 ()
/-! loop.example/jetton/impl.BaseNew -/
noncomputable def F45 (k : Nat) : Option ((((List (ByteArray × (List (ByteArray × Int × Int × Int × Bool × Unit)) × (List (ByteArray × (List Int) × (List Bool) × Bool × Unit)) × Int × Unit)) × Int × (List (Bool × (List ByteArray) × (List ByteArray) × (List Int) × Unit)) × Unit) × Unit) × (Unit)) := callF cx k 45 ()
/-! loop.example/jetton/laws.eqBase -/
noncomputable def F46 (k : Nat) (a0_0 : List (ByteArray × (List (ByteArray × Int × Int × Int × Bool × Unit)) × (List (ByteArray × (List Int) × (List Bool) × Bool × Unit)) × Int × Unit)) (a0_1 : Int) (a0_2 : List (Bool × (List ByteArray) × (List ByteArray) × (List Int) × Unit)) (a1_0 : List (ByteArray × (List (ByteArray × Int × Int × Int × Bool × Unit)) × (List (ByteArray × (List Int) × (List Bool) × Bool × Unit)) × Int × Unit)) (a1_1 : Int) (a1_2 : List (Bool × (List ByteArray) × (List ByteArray) × (List Int) × Unit)) : Option ((Bool × Unit) × ((Unit × Unit × Unit × Unit) × (Unit × Unit × Unit × Unit) × Unit)) := callF cx k 46 ((a0_0, a0_1, a0_2, ()), (a1_0, a1_1, a1_2, ()), ())
/-! loop.example/jetton/laws.markBase -/
noncomputable def F47 (k : Nat) (a0_0 : List (ByteArray × (List (ByteArray × Int × Int × Int × Bool × Unit)) × (List (ByteArray × (List Int) × (List Bool) × Bool × Unit)) × Int × Unit)) (a0_1 : Int) (a0_2 : List (Bool × (List ByteArray) × (List ByteArray) × (List Int) × Unit)) (a1 : Int) : Option ((Int × Unit) × ((Unit × Unit × (List (Bool × (List ByteArray) × (List ByteArray) × (List Int) × Unit)) × Unit) × Unit × Unit)) := callF cx k 47 ((a0_0, a0_1, a0_2, ()), a1, ())
/-! loop.example/jetton/laws.heldBase -/
noncomputable def F48 (k : Nat) (a0_0 : List (ByteArray × (List (ByteArray × Int × Int × Int × Bool × Unit)) × (List (ByteArray × (List Int) × (List Bool) × Bool × Unit)) × Int × Unit)) (a0_1 : Int) (a0_2 : List (Bool × (List ByteArray) × (List ByteArray) × (List Int) × Unit)) (a1 : Int) : Option ((Int × Unit) × ((Unit × Unit × Unit × Unit) × Unit × Unit)) := callF cx k 48 ((a0_0, a0_1, a0_2, ()), a1, ())
/-! loop.example/jetton/laws.eqStringS -/
noncomputable def F53 (k : Nat) (a0 : List ByteArray) (a1 : List ByteArray) : Option ((Bool × Unit) × (Unit × Unit × Unit)) := callF cx k 53 (a0, a1, ())
noncomputable def F53c4 (k : Nat) (x0 : List ByteArray) (x1 : List ByteArray) (x5 : Int) : Option ((Bool × Unit) × (Unit × Unit × Unit)) := cutF cx 53 4 Try.f53 k (x0, x1, x5, ())
/-! loop.example/jetton/laws.markStringS -/
noncomputable def F55 (k : Nat) (a0 : List ByteArray) (a1 : Int) : Option ((Int × Unit) × (Unit × Unit × Unit)) := callF cx k 55 (a0, a1, ())
noncomputable def F55c2 (k : Nat) (x0 : List ByteArray) (x1 : Int) (x5 : Int) : Option ((Int × Unit) × (Unit × Unit × Unit)) := cutF cx 55 2 Try.f55 k (x0, x1, x5, ())
/-! loop.example/jetton/laws.heldStringS -/
noncomputable def F57 (k : Nat) (a0 : List ByteArray) (a1 : Int) : Option ((Int × Unit) × (Unit × Unit × Unit)) := callF cx k 57 (a0, a1, ())
noncomputable def F57c2 (k : Nat) (x0 : List ByteArray) (x1 : Int) (x5 : Int) : Option ((Int × Unit) × (Unit × Unit × Unit)) := cutF cx 57 2 Try.f57 k (x0, x1, x5, ())
/-! loop.example/jetton/spec.l9New -/
noncomputable def F59 (k : Nat) : Option (((Int × (List (Bool × (List ByteArray) × (List ByteArray) × (List Int) × Unit)) × Unit) × Unit) × (Unit)) := callF cx k 59 ()
/-! loop.example/jetton/laws.eqNodeS -/
noncomputable def F60 (k : Nat) (a0 : List (Bool × (List ByteArray) × (List ByteArray) × (List Int) × Unit)) (a1 : List (Bool × (List ByteArray) × (List ByteArray) × (List Int) × Unit)) : Option ((Bool × Unit) × (Unit × Unit × Unit)) := callF cx k 60 (a0, a1, ())
noncomputable def F60c4 (k : Nat) (x0 : List (Bool × (List ByteArray) × (List ByteArray) × (List Int) × Unit)) (x1 : List (Bool × (List ByteArray) × (List ByteArray) × (List Int) × Unit)) (x5 : Int) : Option ((Bool × Unit) × (Unit × Unit × Unit)) := cutF cx 60 4 Try.f60 k (x0, x1, x5, ())
/-! loop.example/jetton/laws.markNodeS -/
noncomputable def F61 (k : Nat) (a0 : List (Bool × (List ByteArray) × (List ByteArray) × (List Int) × Unit)) (a1 : Int) : Option ((Int × Unit) × ((List (Bool × (List ByteArray) × (List ByteArray) × (List Int) × Unit)) × Unit × Unit)) := callF cx k 61 (a0, a1, ())
noncomputable def F61c2 (k : Nat) (x0 : List (Bool × (List ByteArray) × (List ByteArray) × (List Int) × Unit)) (x1 : Int) (x5 : Int) : Option ((Int × Unit) × ((List (Bool × (List ByteArray) × (List ByteArray) × (List Int) × Unit)) × Unit × Unit)) := cutF cx 61 2 Try.f61 k (x0, x1, x5, ())
/-! loop.example/jetton/laws.heldNodeS -/
noncomputable def F62 (k : Nat) (a0 : List (Bool × (List ByteArray) × (List ByteArray) × (List Int) × Unit)) (a1 : Int) : Option ((Int × Unit) × (Unit × Unit × Unit)) := callF cx k 62 (a0, a1, ())
noncomputable def F62c2 (k : Nat) (x0 : List (Bool × (List ByteArray) × (List ByteArray) × (List Int) × Unit)) (x1 : Int) (x5 : Int) : Option ((Int × Unit) × (Unit × Unit × Unit)) := cutF cx 62 2 Try.f62 k (x0, x1, x5, ())
/-! loop.example/jetton/laws.eqTableS -/
noncomputable def F91 (k : Nat) (a0 : List (ByteArray × (List (ByteArray × Int × Int × Int × Bool × Unit)) × (List (ByteArray × (List Int) × (List Bool) × Bool × Unit)) × Int × Unit)) (a1 : List (ByteArray × (List (ByteArray × Int × Int × Int × Bool × Unit)) × (List (ByteArray × (List Int) × (List Bool) × Bool × Unit)) × Int × Unit)) : Option ((Bool × Unit) × (Unit × Unit × Unit)) := callF cx k 91 (a0, a1, ())
noncomputable def F91c4 (k : Nat) (x0 : List (ByteArray × (List (ByteArray × Int × Int × Int × Bool × Unit)) × (List (ByteArray × (List Int) × (List Bool) × Bool × Unit)) × Int × Unit)) (x1 : List (ByteArray × (List (ByteArray × Int × Int × Int × Bool × Unit)) × (List (ByteArray × (List Int) × (List Bool) × Bool × Unit)) × Int × Unit)) (x5 : Int) : Option ((Bool × Unit) × (Unit × Unit × Unit)) := cutF cx 91 4 Try.f91 k (x0, x1, x5, ())
/-! loop.example/jetton/laws.markTableS -/
noncomputable def F92 (k : Nat) (a0 : List (ByteArray × (List (ByteArray × Int × Int × Int × Bool × Unit)) × (List (ByteArray × (List Int) × (List Bool) × Bool × Unit)) × Int × Unit)) (a1 : Int) : Option ((Int × Unit) × (Unit × Unit × Unit)) := callF cx k 92 (a0, a1, ())
noncomputable def F92c2 (k : Nat) (x0 : List (ByteArray × (List (ByteArray × Int × Int × Int × Bool × Unit)) × (List (ByteArray × (List Int) × (List Bool) × Bool × Unit)) × Int × Unit)) (x1 : Int) (x5 : Int) : Option ((Int × Unit) × (Unit × Unit × Unit)) := cutF cx 92 2 Try.f92 k (x0, x1, x5, ())
/-! loop.example/jetton/laws.heldTableS -/
noncomputable def F93 (k : Nat) (a0 : List (ByteArray × (List (ByteArray × Int × Int × Int × Bool × Unit)) × (List (ByteArray × (List Int) × (List Bool) × Bool × Unit)) × Int × Unit)) (a1 : Int) : Option ((Int × Unit) × (Unit × Unit × Unit)) := callF cx k 93 (a0, a1, ())
noncomputable def F93c2 (k : Nat) (x0 : List (ByteArray × (List (ByteArray × Int × Int × Int × Bool × Unit)) × (List (ByteArray × (List Int) × (List Bool) × Bool × Unit)) × Int × Unit)) (x1 : Int) (x5 : Int) : Option ((Int × Unit) × (Unit × Unit × Unit)) := cutF cx 93 2 Try.f93 k (x0, x1, x5, ())
/-! loop.example/jetton/laws.markText -/
noncomputable def F97 (k : Nat) (a0 : Int) : Option ((ByteArray × Unit) × (Unit × Unit)) := callF cx k 97 (a0, ())
noncomputable def F97c4 (k : Nat) (x0 : Int) (x3 : ByteArray) : Option ((ByteArray × Unit) × (Unit × Unit)) := cutF cx 97 4 Try.f97 k (x0, x3, ())
/-! loop.example/jetton/laws.eqNode -/
noncomputable def F98 (k : Nat) (a0_0 : Bool) (a0_1 : List ByteArray) (a0_2 : List ByteArray) (a0_3 : List Int) (a1_0 : Bool) (a1_1 : List ByteArray) (a1_2 : List ByteArray) (a1_3 : List Int) : Option ((Bool × Unit) × ((Unit × Unit × Unit × Unit × Unit) × (Unit × Unit × Unit × Unit × Unit) × Unit)) := callF cx k 98 ((a0_0, a0_1, a0_2, a0_3, ()), (a1_0, a1_1, a1_2, a1_3, ()), ())
/-! loop.example/jetton/laws.markIntS -/
noncomputable def F99 (k : Nat) (a0 : List Int) (a1 : Int) : Option ((Int × Unit) × (Unit × Unit × Unit)) := callF cx k 99 (a0, a1, ())
noncomputable def F99c2 (k : Nat) (x0 : List Int) (x1 : Int) (x5 : Int) : Option ((Int × Unit) × (Unit × Unit × Unit)) := cutF cx 99 2 Try.f99 k (x0, x1, x5, ())
/-! loop.example/jetton/laws.heldIntS -/
noncomputable def F100 (k : Nat) (a0 : List Int) (a1 : Int) : Option ((Int × Unit) × (Unit × Unit × Unit)) := callF cx k 100 (a0, a1, ())
noncomputable def F100c2 (k : Nat) (x0 : List Int) (x1 : Int) (x5 : Int) : Option ((Int × Unit) × (Unit × Unit × Unit)) := cutF cx 100 2 Try.f100 k (x0, x1, x5, ())
/-! loop.example/jetton/laws.eqTable -/
noncomputable def F118 (k : Nat) (a0_0 : ByteArray) (a0_1 : List (ByteArray × Int × Int × Int × Bool × Unit)) (a0_2 : List (ByteArray × (List Int) × (List Bool) × Bool × Unit)) (a0_3 : Int) (a1_0 : ByteArray) (a1_1 : List (ByteArray × Int × Int × Int × Bool × Unit)) (a1_2 : List (ByteArray × (List Int) × (List Bool) × Bool × Unit)) (a1_3 : Int) : Option ((Bool × Unit) × ((Unit × Unit × Unit × Unit × Unit) × (Unit × Unit × Unit × Unit × Unit) × Unit)) := callF cx k 118 ((a0_0, a0_1, a0_2, a0_3, ()), (a1_0, a1_1, a1_2, a1_3, ()), ())
/-! loop.example/jetton/laws.heldColS -/
noncomputable def F121 (k : Nat) (a0 : List (ByteArray × Int × Int × Int × Bool × Unit)) (a1 : Int) : Option ((Int × Unit) × (Unit × Unit × Unit)) := callF cx k 121 (a0, a1, ())
noncomputable def F121c2 (k : Nat) (x0 : List (ByteArray × Int × Int × Int × Bool × Unit)) (x1 : Int) (x5 : Int) : Option ((Int × Unit) × (Unit × Unit × Unit)) := cutF cx 121 2 Try.f121 k (x0, x1, x5, ())
/-! loop.example/jetton/laws.heldIndexS -/
noncomputable def F122 (k : Nat) (a0 : List (ByteArray × (List Int) × (List Bool) × Bool × Unit)) (a1 : Int) : Option ((Int × Unit) × (Unit × Unit × Unit)) := callF cx k 122 (a0, a1, ())
noncomputable def F122c2 (k : Nat) (x0 : List (ByteArray × (List Int) × (List Bool) × Bool × Unit)) (x1 : Int) (x5 : Int) : Option ((Int × Unit) × (Unit × Unit × Unit)) := cutF cx 122 2 Try.f122 k (x0, x1, x5, ())
/-! loop.example/jetton/laws.eqIntS -/
noncomputable def F127 (k : Nat) (a0 : List Int) (a1 : List Int) : Option ((Bool × Unit) × (Unit × Unit × Unit)) := callF cx k 127 (a0, a1, ())
noncomputable def F127c4 (k : Nat) (x0 : List Int) (x1 : List Int) (x5 : Int) : Option ((Bool × Unit) × (Unit × Unit × Unit)) := cutF cx 127 4 Try.f127 k (x0, x1, x5, ())
/-! loop.example/jetton/laws.eqColS -/
noncomputable def F136 (k : Nat) (a0 : List (ByteArray × Int × Int × Int × Bool × Unit)) (a1 : List (ByteArray × Int × Int × Int × Bool × Unit)) : Option ((Bool × Unit) × (Unit × Unit × Unit)) := callF cx k 136 (a0, a1, ())
noncomputable def F136c4 (k : Nat) (x0 : List (ByteArray × Int × Int × Int × Bool × Unit)) (x1 : List (ByteArray × Int × Int × Int × Bool × Unit)) (x5 : Int) : Option ((Bool × Unit) × (Unit × Unit × Unit)) := cutF cx 136 4 Try.f136 k (x0, x1, x5, ())
/-! loop.example/jetton/laws.eqIndexS -/
noncomputable def F137 (k : Nat) (a0 : List (ByteArray × (List Int) × (List Bool) × Bool × Unit)) (a1 : List (ByteArray × (List Int) × (List Bool) × Bool × Unit)) : Option ((Bool × Unit) × (Unit × Unit × Unit)) := callF cx k 137 (a0, a1, ())
noncomputable def F137c4 (k : Nat) (x0 : List (ByteArray × (List Int) × (List Bool) × Bool × Unit)) (x1 : List (ByteArray × (List Int) × (List Bool) × Bool × Unit)) (x5 : Int) : Option ((Bool × Unit) × (Unit × Unit × Unit)) := cutF cx 137 4 Try.f137 k (x0, x1, x5, ())
/-! loop.example/jetton/laws.heldBoolS -/
noncomputable def F139 (k : Nat) (a0 : List Bool) (a1 : Int) : Option ((Int × Unit) × (Unit × Unit × Unit)) := callF cx k 139 (a0, a1, ())
noncomputable def F139c2 (k : Nat) (x0 : List Bool) (x1 : Int) (x5 : Int) : Option ((Int × Unit) × (Unit × Unit × Unit)) := cutF cx 139 2 Try.f139 k (x0, x1, x5, ())
/-! loop.example/jetton/laws.eqCol -/
noncomputable def F149 (k : Nat) (a0_0 : ByteArray) (a0_1 : Int) (a0_2 : Int) (a0_3 : Int) (a0_4 : Bool) (a1_0 : ByteArray) (a1_1 : Int) (a1_2 : Int) (a1_3 : Int) (a1_4 : Bool) : Option ((Bool × Unit) × ((Unit × Unit × Unit × Unit × Unit × Unit) × (Unit × Unit × Unit × Unit × Unit × Unit) × Unit)) := callF cx k 149 ((a0_0, a0_1, a0_2, a0_3, a0_4, ()), (a1_0, a1_1, a1_2, a1_3, a1_4, ()), ())
/-! loop.example/jetton/laws.eqIndex -/
noncomputable def F150 (k : Nat) (a0_0 : ByteArray) (a0_1 : List Int) (a0_2 : List Bool) (a0_3 : Bool) (a1_0 : ByteArray) (a1_1 : List Int) (a1_2 : List Bool) (a1_3 : Bool) : Option ((Bool × Unit) × ((Unit × Unit × Unit × Unit × Unit) × (Unit × Unit × Unit × Unit × Unit) × Unit)) := callF cx k 150 ((a0_0, a0_1, a0_2, a0_3, ()), (a1_0, a1_1, a1_2, a1_3, ()), ())
/-! loop.example/jetton/laws.eqType -/
noncomputable def F153 (k : Nat) (a0_0 : Int) (a0_1 : Int) (a0_2 : Int) (a1_0 : Int) (a1_1 : Int) (a1_2 : Int) : Option ((Bool × Unit) × ((Unit × Unit × Unit × Unit) × (Unit × Unit × Unit × Unit) × Unit)) := callF cx k 153 ((a0_0, a0_1, a0_2, ()), (a1_0, a1_1, a1_2, ()), ())
/-! loop.example/jetton/laws.eqBoolS -/
noncomputable def F154 (k : Nat) (a0 : List Bool) (a1 : List Bool) : Option ((Bool × Unit) × (Unit × Unit × Unit)) := callF cx k 154 (a0, a1, ())
noncomputable def F154c4 (k : Nat) (x0 : List Bool) (x1 : List Bool) (x5 : Int) : Option ((Bool × Unit) × (Unit × Unit × Unit)) := cutF cx 154 4 Try.f154 k (x0, x1, x5, ())
theorem F6_eq (k : Nat) : F6 (k + 2) =
    (F23 k).bind fun r1 => (F24 k).bind fun r2 => (F25 k r2.1.1.1 r2.1.1.2.1 r1.1.1.1 r1.1.1.2.1).bind fun r3 => if (!r3.1.1) = true then some ((false, ()), ()) else (F26 k r2.1.1.1 r2.1.1.2.1 (1 : Int)).bind fun r4 => (F27 k r2.1.1.1 r4.2.1.2.1 (1 : Int)).bind fun r5 => if (decide (r5.1.1 < (0 : Int))) = true then some ((false, ()), ()) else if (r5.1.1 != r4.1.1) = true then some ((false, ()), ()) else (F24 k).bind fun r6 => (F25 k r6.1.1.1 r6.1.1.2.1 r1.1.1.1 r1.1.1.2.1).bind fun r7 => if (!r7.1.1) = true then some ((false, ()), ()) else (F27 k r2.1.1.1 r4.2.1.2.1 (1 : Int)).bind fun r8 => if (decide (r8.1.1 < (0 : Int))) = true then some ((false, ()), ()) else if (r8.1.1 != r4.1.1) = true then some ((false, ()), ()) else some ((true, ()), ()) := by kernel_rfl
theorem F13_eq (k : Nat) : F13 (k + 2) =
    (F44 k).bind fun r1 => (F45 k).bind fun r2 => (F46 k r2.1.1.1 r2.1.1.2.1 r2.1.1.2.2.1 r1.1.1.1 r1.1.1.2.1 r1.1.1.2.2.1).bind fun r3 => if (!r3.1.1) = true then some ((false, ()), ()) else (F47 k r2.1.1.1 r2.1.1.2.1 r2.1.1.2.2.1 (1 : Int)).bind fun r4 => (F48 k r2.1.1.1 r2.1.1.2.1 r4.2.1.2.2.1 (1 : Int)).bind fun r5 => if (decide (r5.1.1 < (0 : Int))) = true then some ((false, ()), ()) else if (r5.1.1 != r4.1.1) = true then some ((false, ()), ()) else (F45 k).bind fun r6 => (F46 k r6.1.1.1 r6.1.1.2.1 r6.1.1.2.2.1 r1.1.1.1 r1.1.1.2.1 r1.1.1.2.2.1).bind fun r7 => if (!r7.1.1) = true then some ((false, ()), ()) else (F48 k r2.1.1.1 r2.1.1.2.1 r4.2.1.2.2.1 (1 : Int)).bind fun r8 => if (decide (r8.1.1 < (0 : Int))) = true then some ((false, ()), ()) else if (r8.1.1 != r4.1.1) = true then some ((false, ()), ()) else some ((true, ()), ()) := by kernel_rfl
theorem F23_eq (k : Nat) : F23 (k + 2) =
    (F59 k).bind fun r1 => some (((r1.1.1.1, r1.1.1.2.1, ()), ()), ()) := by kernel_rfl
theorem F24_eq (k : Nat) : F24 (k + 2) =
    if (decide (0 ≤ (19 : Int)) && decide ((19 : Int) ≤ (19 : Int)) && decide ((19 : Int) ≤ (1759218604441 : Int))) = true then if (decide (0 ≤ (0 : Int)) && decide ((0 : Int) < ((List.replicate 19 (false, (([] : List ByteArray), (([] : List ByteArray), (([] : List Int), ()))))).length : Int))) = true then ((List.replicate 19 (false, (([] : List ByteArray), (([] : List ByteArray), (([] : List Int), ())))))[0]?).bind fun y1 => some ((((0 : Int), (List.replicate 19 (false, (([] : List ByteArray), (([] : List ByteArray), (([] : List Int), ()))))).set 0 (true, (y1.2.1, (y1.2.2.1, (y1.2.2.2.1, ())))), ()), ()), ()) else none else none := by kernel_rfl
theorem F25_eq (k : Nat) (a0_0 : Int) (a0_1 : List (Bool × (List ByteArray) × (List ByteArray) × (List Int) × Unit)) (a1_0 : Int) (a1_1 : List (Bool × (List ByteArray) × (List ByteArray) × (List Int) × Unit)) : F25 (k + 2) a0_0 a0_1 a1_0 a1_1 =
    if (a0_0 != a1_0) = true then some ((false, ()), (((), (), ()), ((), (), ()), ())) else (F60 k a0_1 a1_1).bind fun r1 => if (!r1.1.1) = true then some ((false, ()), (((), (), ()), ((), (), ()), ())) else some ((true, ()), (((), (), ()), ((), (), ()), ())) := by kernel_rfl
theorem F26_eq (k : Nat) (a0_0 : Int) (a0_1 : List (Bool × (List ByteArray) × (List ByteArray) × (List Int) × Unit)) (a1 : Int) : F26 (k + 2) a0_0 a0_1 a1 =
    (F61 k a0_1 a1).bind fun r1 => some ((r1.1.1, ()), (((), r1.2.1, ()), (), ())) := by kernel_rfl
theorem F27_eq (k : Nat) (a0_0 : Int) (a0_1 : List (Bool × (List ByteArray) × (List ByteArray) × (List Int) × Unit)) (a1 : Int) : F27 (k + 2) a0_0 a0_1 a1 =
    (F62 k a0_1 a1).bind fun r1 => if (decide (r1.1.1 < (0 : Int))) = true then some (((-1 : Int), ()), (((), (), ()), (), ())) else some ((r1.1.1, ()), (((), (), ()), (), ())) := by kernel_rfl
theorem F44_eq (k : Nat) : F44 (k + 2) =
    (F59 k).bind fun r1 => some (((([] : List (ByteArray × (List (ByteArray × Int × Int × Int × Bool × Unit)) × (List (ByteArray × (List Int) × (List Bool) × Bool × Unit)) × Int × Unit)), r1.1.1.1, r1.1.1.2.1, ()), ()), ()) := by kernel_rfl
theorem F45_eq (k : Nat) : F45 (k + 2) =
    (F24 k).bind fun r1 => some (((([] : List (ByteArray × (List (ByteArray × Int × Int × Int × Bool × Unit)) × (List (ByteArray × (List Int) × (List Bool) × Bool × Unit)) × Int × Unit)), r1.1.1.1, r1.1.1.2.1, ()), ()), ()) := by kernel_rfl
theorem F46_eq (k : Nat) (a0_0 : List (ByteArray × (List (ByteArray × Int × Int × Int × Bool × Unit)) × (List (ByteArray × (List Int) × (List Bool) × Bool × Unit)) × Int × Unit)) (a0_1 : Int) (a0_2 : List (Bool × (List ByteArray) × (List ByteArray) × (List Int) × Unit)) (a1_0 : List (ByteArray × (List (ByteArray × Int × Int × Int × Bool × Unit)) × (List (ByteArray × (List Int) × (List Bool) × Bool × Unit)) × Int × Unit)) (a1_1 : Int) (a1_2 : List (Bool × (List ByteArray) × (List ByteArray) × (List Int) × Unit)) : F46 (k + 2) a0_0 a0_1 a0_2 a1_0 a1_1 a1_2 =
    (F91 k a0_0 a1_0).bind fun r1 => if (!r1.1.1) = true then some ((false, ()), (((), (), (), ()), ((), (), (), ()), ())) else (F25 k a0_1 a0_2 a1_1 a1_2).bind fun r2 => if (!r2.1.1) = true then some ((false, ()), (((), (), (), ()), ((), (), (), ()), ())) else some ((true, ()), (((), (), (), ()), ((), (), (), ()), ())) := by kernel_rfl
theorem F47_eq (k : Nat) (a0_0 : List (ByteArray × (List (ByteArray × Int × Int × Int × Bool × Unit)) × (List (ByteArray × (List Int) × (List Bool) × Bool × Unit)) × Int × Unit)) (a0_1 : Int) (a0_2 : List (Bool × (List ByteArray) × (List ByteArray) × (List Int) × Unit)) (a1 : Int) : F47 (k + 2) a0_0 a0_1 a0_2 a1 =
    (F92 k a0_0 a1).bind fun r1 => (F26 k a0_1 a0_2 r1.1.1).bind fun r2 => some ((r2.1.1, ()), (((), (), r2.2.1.2.1, ()), (), ())) := by kernel_rfl
theorem F48_eq (k : Nat) (a0_0 : List (ByteArray × (List (ByteArray × Int × Int × Int × Bool × Unit)) × (List (ByteArray × (List Int) × (List Bool) × Bool × Unit)) × Int × Unit)) (a0_1 : Int) (a0_2 : List (Bool × (List ByteArray) × (List ByteArray) × (List Int) × Unit)) (a1 : Int) : F48 (k + 2) a0_0 a0_1 a0_2 a1 =
    (F93 k a0_0 a1).bind fun r1 => if (decide (r1.1.1 < (0 : Int))) = true then some (((-1 : Int), ()), (((), (), (), ()), (), ())) else (F27 k a0_1 a0_2 r1.1.1).bind fun r2 => if (decide (r2.1.1 < (0 : Int))) = true then some (((-1 : Int), ()), (((), (), (), ()), (), ())) else some ((r2.1.1, ()), (((), (), (), ()), (), ())) := by kernel_rfl
theorem F53_eq (k : Nat) (a0 : List ByteArray) (a1 : List ByteArray) : F53 (k + 2) a0 a1 =
    if ((a0.length : Int) != (a1.length : Int)) = true then some ((false, ()), ((), (), ())) else F53c4 k a0 a1 (0 : Int) := by kernel_rfl
theorem F53c4_eq (k : Nat) (x0 : List ByteArray) (x1 : List ByteArray) (x5 : Int) : F53c4 (k + 1) x0 x1 x5 =
    if (decide (x5 < (x0.length : Int))) = true then if (decide (0 ≤ x5)) = true then (x0[x5.toNat]?).bind fun y1 => if (decide (0 ≤ x5)) = true then (x1[x5.toNat]?).bind fun y2 => if (!(y1.toList == y2.toList)) = true then some ((false, ()), ((), (), ())) else F53c4 k x0 x1 (IntKind.i64.wrap (x5 + (1 : Int))) else none else none else some ((true, ()), ((), (), ())) := by kernel_rfl
theorem F55_eq (k : Nat) (a0 : List ByteArray) (a1 : Int) : F55 (k + 2) a0 a1 =
    F55c2 k a0 a1 (0 : Int) := by kernel_rfl
theorem F55c2_eq (k : Nat) (x0 : List ByteArray) (x1 : Int) (x5 : Int) : F55c2 (k + 1) x0 x1 x5 =
    if (decide (x5 < (x0.length : Int))) = true then (F97 k x1).bind fun r1 => if (decide (0 ≤ x5)) = true then (x0[x5.toNat]?).bind fun y2 => none else none else some ((x1, ()), ((), (), ())) := by kernel_rfl
theorem F57_eq (k : Nat) (a0 : List ByteArray) (a1 : Int) : F57 (k + 2) a0 a1 =
    F57c2 k a0 a1 (0 : Int) := by kernel_rfl
theorem F57c2_eq (k : Nat) (x0 : List ByteArray) (x1 : Int) (x5 : Int) : F57c2 (k + 1) x0 x1 x5 =
    if (decide (x5 < (x0.length : Int))) = true then if (decide (0 ≤ x5)) = true then (x0[x5.toNat]?).bind fun y1 => (F97 k x1).bind fun r2 => if (!(y1.toList == r2.1.1.toList)) = true then some (((-1 : Int), ()), ((), (), ())) else F57c2 k x0 (IntKind.i64.wrap (x1 + (1 : Int))) (IntKind.i64.wrap (x5 + (1 : Int))) else none else some ((x1, ()), ((), (), ())) := by kernel_rfl
theorem F59_eq (k : Nat) : F59 (k + 2) =
    if (decide (0 ≤ (19 : Int)) && decide ((19 : Int) ≤ (19 : Int)) && decide ((19 : Int) ≤ (1759218604441 : Int))) = true then if (decide (0 ≤ (0 : Int)) && decide ((0 : Int) < ((List.replicate 19 (false, (([] : List ByteArray), (([] : List ByteArray), (([] : List Int), ()))))).length : Int))) = true then ((List.replicate 19 (false, (([] : List ByteArray), (([] : List ByteArray), (([] : List Int), ())))))[0]?).bind fun y1 => some ((((0 : Int), (List.replicate 19 (false, (([] : List ByteArray), (([] : List ByteArray), (([] : List Int), ()))))).set 0 (true, (([] : List ByteArray), (([] : List ByteArray), (([] : List Int), ())))), ()), ()), ()) else none else none := by kernel_rfl
theorem F60_eq (k : Nat) (a0 : List (Bool × (List ByteArray) × (List ByteArray) × (List Int) × Unit)) (a1 : List (Bool × (List ByteArray) × (List ByteArray) × (List Int) × Unit)) : F60 (k + 2) a0 a1 =
    if ((a0.length : Int) != (a1.length : Int)) = true then some ((false, ()), ((), (), ())) else F60c4 k a0 a1 (0 : Int) := by kernel_rfl
theorem F60c4_eq (k : Nat) (x0 : List (Bool × (List ByteArray) × (List ByteArray) × (List Int) × Unit)) (x1 : List (Bool × (List ByteArray) × (List ByteArray) × (List Int) × Unit)) (x5 : Int) : F60c4 (k + 1) x0 x1 x5 =
    if (decide (x5 < (x0.length : Int))) = true then if (decide (0 ≤ x5)) = true then (x0[x5.toNat]?).bind fun y1 => if (decide (0 ≤ x5)) = true then (x1[x5.toNat]?).bind fun y2 => (F98 k y1.1 y1.2.1 y1.2.2.1 y1.2.2.2.1 y2.1 y2.2.1 y2.2.2.1 y2.2.2.2.1).bind fun r3 => if (!r3.1.1) = true then some ((false, ()), ((), (), ())) else F60c4 k x0 x1 (IntKind.i64.wrap (x5 + (1 : Int))) else none else none else some ((true, ()), ((), (), ())) := by kernel_rfl
theorem F61_eq (k : Nat) (a0 : List (Bool × (List ByteArray) × (List ByteArray) × (List Int) × Unit)) (a1 : Int) : F61 (k + 2) a0 a1 =
    F61c2 k a0 a1 (0 : Int) := by kernel_rfl
theorem F61c2_eq (k : Nat) (x0 : List (Bool × (List ByteArray) × (List ByteArray) × (List Int) × Unit)) (x1 : Int) (x5 : Int) : F61c2 (k + 1) x0 x1 x5 =
    if (decide (x5 < (x0.length : Int))) = true then if (decide (0 ≤ x5) && decide (x5 < (x0.length : Int))) = true then (x0[x5.toNat]?).bind fun y1 => if (decide (0 ≤ x5) && decide (x5 < ((x0.set x5.toNat (((x1.tmod (3 : Int)) == (0 : Int)), (y1.2.1, (y1.2.2.1, (y1.2.2.2.1, ()))))).length : Int))) = true then ((x0.set x5.toNat (((x1.tmod (3 : Int)) == (0 : Int)), (y1.2.1, (y1.2.2.1, (y1.2.2.2.1, ())))))[x5.toNat]?).bind fun y2 => (F55 k y2.2.1 (IntKind.i64.wrap (x1 + (1 : Int)))).bind fun r3 => if (decide (0 ≤ x5) && decide (x5 < ((x0.set x5.toNat (((x1.tmod (3 : Int)) == (0 : Int)), (y1.2.1, (y1.2.2.1, (y1.2.2.2.1, ()))))).length : Int))) = true then ((x0.set x5.toNat (((x1.tmod (3 : Int)) == (0 : Int)), (y1.2.1, (y1.2.2.1, (y1.2.2.2.1, ())))))[x5.toNat]?).bind fun y4 => (F55 k y4.2.2.1 r3.1.1).bind fun r5 => if (decide (0 ≤ x5) && decide (x5 < ((x0.set x5.toNat (((x1.tmod (3 : Int)) == (0 : Int)), (y1.2.1, (y1.2.2.1, (y1.2.2.2.1, ()))))).length : Int))) = true then ((x0.set x5.toNat (((x1.tmod (3 : Int)) == (0 : Int)), (y1.2.1, (y1.2.2.1, (y1.2.2.2.1, ())))))[x5.toNat]?).bind fun y6 => (F99 k y6.2.2.2.1 r5.1.1).bind fun r7 => F61c2 k (x0.set x5.toNat (((x1.tmod (3 : Int)) == (0 : Int)), (y1.2.1, (y1.2.2.1, (y1.2.2.2.1, ()))))) r7.1.1 (IntKind.i64.wrap (x5 + (1 : Int))) else none else none else none else none else some ((x1, ()), (x0, (), ())) := by kernel_rfl
theorem F62_eq (k : Nat) (a0 : List (Bool × (List ByteArray) × (List ByteArray) × (List Int) × Unit)) (a1 : Int) : F62 (k + 2) a0 a1 =
    F62c2 k a0 a1 (0 : Int) := by kernel_rfl
theorem F62c2_eq (k : Nat) (x0 : List (Bool × (List ByteArray) × (List ByteArray) × (List Int) × Unit)) (x1 : Int) (x5 : Int) : F62c2 (k + 1) x0 x1 x5 =
    if (decide (x5 < (x0.length : Int))) = true then if (decide (0 ≤ x5)) = true then (x0[x5.toNat]?).bind fun y1 => if (!(y1.1 == ((x1.tmod (3 : Int)) == (0 : Int)))) = true then some (((-1 : Int), ()), ((), (), ())) else if (decide (0 ≤ x5)) = true then (x0[x5.toNat]?).bind fun y2 => (F57 k y2.2.1 (IntKind.i64.wrap (x1 + (1 : Int)))).bind fun r3 => if (decide (r3.1.1 < (0 : Int))) = true then some (((-1 : Int), ()), ((), (), ())) else if (decide (0 ≤ x5)) = true then (x0[x5.toNat]?).bind fun y4 => (F57 k y4.2.2.1 r3.1.1).bind fun r5 => if (decide (r5.1.1 < (0 : Int))) = true then some (((-1 : Int), ()), ((), (), ())) else if (decide (0 ≤ x5)) = true then (x0[x5.toNat]?).bind fun y6 => (F100 k y6.2.2.2.1 r5.1.1).bind fun r7 => if (decide (r7.1.1 < (0 : Int))) = true then some (((-1 : Int), ()), ((), (), ())) else F62c2 k x0 r7.1.1 (IntKind.i64.wrap (x5 + (1 : Int))) else none else none else none else none else some ((x1, ()), ((), (), ())) := by kernel_rfl
theorem F91_eq (k : Nat) (a0 : List (ByteArray × (List (ByteArray × Int × Int × Int × Bool × Unit)) × (List (ByteArray × (List Int) × (List Bool) × Bool × Unit)) × Int × Unit)) (a1 : List (ByteArray × (List (ByteArray × Int × Int × Int × Bool × Unit)) × (List (ByteArray × (List Int) × (List Bool) × Bool × Unit)) × Int × Unit)) : F91 (k + 2) a0 a1 =
    if ((a0.length : Int) != (a1.length : Int)) = true then some ((false, ()), ((), (), ())) else F91c4 k a0 a1 (0 : Int) := by kernel_rfl
theorem F91c4_eq (k : Nat) (x0 : List (ByteArray × (List (ByteArray × Int × Int × Int × Bool × Unit)) × (List (ByteArray × (List Int) × (List Bool) × Bool × Unit)) × Int × Unit)) (x1 : List (ByteArray × (List (ByteArray × Int × Int × Int × Bool × Unit)) × (List (ByteArray × (List Int) × (List Bool) × Bool × Unit)) × Int × Unit)) (x5 : Int) : F91c4 (k + 1) x0 x1 x5 =
    if (decide (x5 < (x0.length : Int))) = true then if (decide (0 ≤ x5)) = true then (x0[x5.toNat]?).bind fun y1 => if (decide (0 ≤ x5)) = true then (x1[x5.toNat]?).bind fun y2 => (F118 k y1.1 y1.2.1 y1.2.2.1 y1.2.2.2.1 y2.1 y2.2.1 y2.2.2.1 y2.2.2.2.1).bind fun r3 => if (!r3.1.1) = true then some ((false, ()), ((), (), ())) else F91c4 k x0 x1 (IntKind.i64.wrap (x5 + (1 : Int))) else none else none else some ((true, ()), ((), (), ())) := by kernel_rfl
theorem F92_eq (k : Nat) (a0 : List (ByteArray × (List (ByteArray × Int × Int × Int × Bool × Unit)) × (List (ByteArray × (List Int) × (List Bool) × Bool × Unit)) × Int × Unit)) (a1 : Int) : F92 (k + 2) a0 a1 =
    F92c2 k a0 a1 (0 : Int) := by kernel_rfl
theorem F92c2_eq (k : Nat) (x0 : List (ByteArray × (List (ByteArray × Int × Int × Int × Bool × Unit)) × (List (ByteArray × (List Int) × (List Bool) × Bool × Unit)) × Int × Unit)) (x1 : Int) (x5 : Int) : F92c2 (k + 1) x0 x1 x5 =
    if (decide (x5 < (x0.length : Int))) = true then (F97 k x1).bind fun r1 => if (decide (0 ≤ x5)) = true then (x0[x5.toNat]?).bind fun y2 => none else none else some ((x1, ()), ((), (), ())) := by kernel_rfl
theorem F93_eq (k : Nat) (a0 : List (ByteArray × (List (ByteArray × Int × Int × Int × Bool × Unit)) × (List (ByteArray × (List Int) × (List Bool) × Bool × Unit)) × Int × Unit)) (a1 : Int) : F93 (k + 2) a0 a1 =
    F93c2 k a0 a1 (0 : Int) := by kernel_rfl
theorem F93c2_eq (k : Nat) (x0 : List (ByteArray × (List (ByteArray × Int × Int × Int × Bool × Unit)) × (List (ByteArray × (List Int) × (List Bool) × Bool × Unit)) × Int × Unit)) (x1 : Int) (x5 : Int) : F93c2 (k + 1) x0 x1 x5 =
    if (decide (x5 < (x0.length : Int))) = true then if (decide (0 ≤ x5)) = true then (x0[x5.toNat]?).bind fun y1 => (F97 k x1).bind fun r2 => if (!(y1.1.toList == r2.1.1.toList)) = true then some (((-1 : Int), ()), ((), (), ())) else if (decide (0 ≤ x5)) = true then (x0[x5.toNat]?).bind fun y3 => (F121 k y3.2.1 (IntKind.i64.wrap (x1 + (1 : Int)))).bind fun r4 => if (decide (r4.1.1 < (0 : Int))) = true then some (((-1 : Int), ()), ((), (), ())) else if (decide (0 ≤ x5)) = true then (x0[x5.toNat]?).bind fun y5 => (F122 k y5.2.2.1 r4.1.1).bind fun r6 => if (decide (r6.1.1 < (0 : Int))) = true then some (((-1 : Int), ()), ((), (), ())) else if (decide (0 ≤ x5)) = true then (x0[x5.toNat]?).bind fun y7 => if (y7.2.2.2.1 != r6.1.1) = true then some (((-1 : Int), ()), ((), (), ())) else F93c2 k x0 (IntKind.i64.wrap (r6.1.1 + (1 : Int))) (IntKind.i64.wrap (x5 + (1 : Int))) else none else none else none else none else some ((x1, ()), ((), (), ())) := by kernel_rfl
theorem F97_eq (k : Nat) (a0 : Int) : F97 (k + 2) a0 =
    if (decide (a0 ≤ (0 : Int))) = true then some (((⟨#[109, 48]⟩ : ByteArray), ()), ((), ())) else F97c4 k a0 (⟨#[]⟩ : ByteArray) := by kernel_rfl
theorem F97c4_eq (k : Nat) (x0 : Int) (x3 : ByteArray) : F97c4 (k + 1) x0 x3 =
    if (decide (x0 > (0 : Int))) = true then if (decide ((((bytesOf [(IntKind.u8.wrap (IntKind.i64.wrap ((48 : Int) + (x0.tmod (10 : Int)))))]).size + x3.size : Nat) : Int) ≤ 9223372036854775807)) = true then F97c4 k (IntKind.i64.wrap (x0.tdiv (10 : Int))) ((bytesOf [(IntKind.u8.wrap (IntKind.i64.wrap ((48 : Int) + (x0.tmod (10 : Int)))))]) ++ x3) else none else if (decide ((((⟨#[109]⟩ : ByteArray).size + x3.size : Nat) : Int) ≤ 9223372036854775807)) = true then some ((((⟨#[109]⟩ : ByteArray) ++ x3), ()), ((), ())) else none := by kernel_rfl
theorem F98_eq (k : Nat) (a0_0 : Bool) (a0_1 : List ByteArray) (a0_2 : List ByteArray) (a0_3 : List Int) (a1_0 : Bool) (a1_1 : List ByteArray) (a1_2 : List ByteArray) (a1_3 : List Int) : F98 (k + 2) a0_0 a0_1 a0_2 a0_3 a1_0 a1_1 a1_2 a1_3 =
    if (!(a0_0 == a1_0)) = true then some ((false, ()), (((), (), (), (), ()), ((), (), (), (), ()), ())) else (F53 k a0_1 a1_1).bind fun r1 => if (!r1.1.1) = true then some ((false, ()), (((), (), (), (), ()), ((), (), (), (), ()), ())) else (F53 k a0_2 a1_2).bind fun r2 => if (!r2.1.1) = true then some ((false, ()), (((), (), (), (), ()), ((), (), (), (), ()), ())) else (F127 k a0_3 a1_3).bind fun r3 => if (!r3.1.1) = true then some ((false, ()), (((), (), (), (), ()), ((), (), (), (), ()), ())) else some ((true, ()), (((), (), (), (), ()), ((), (), (), (), ()), ())) := by kernel_rfl
theorem F99_eq (k : Nat) (a0 : List Int) (a1 : Int) : F99 (k + 2) a0 a1 =
    F99c2 k a0 a1 (0 : Int) := by kernel_rfl
theorem F99c2_eq (k : Nat) (x0 : List Int) (x1 : Int) (x5 : Int) : F99c2 (k + 1) x0 x1 x5 =
    if (decide (x5 < (x0.length : Int))) = true then if (decide (0 ≤ x5)) = true then (x0[x5.toNat]?).bind fun y1 => none else none else some ((x1, ()), ((), (), ())) := by kernel_rfl
theorem F100_eq (k : Nat) (a0 : List Int) (a1 : Int) : F100 (k + 2) a0 a1 =
    F100c2 k a0 a1 (0 : Int) := by kernel_rfl
theorem F100c2_eq (k : Nat) (x0 : List Int) (x1 : Int) (x5 : Int) : F100c2 (k + 1) x0 x1 x5 =
    if (decide (x5 < (x0.length : Int))) = true then if (decide (0 ≤ x5)) = true then (x0[x5.toNat]?).bind fun y1 => if (y1 != x1) = true then some (((-1 : Int), ()), ((), (), ())) else F100c2 k x0 (IntKind.i64.wrap (x1 + (1 : Int))) (IntKind.i64.wrap (x5 + (1 : Int))) else none else some ((x1, ()), ((), (), ())) := by kernel_rfl
theorem F118_eq (k : Nat) (a0_0 : ByteArray) (a0_1 : List (ByteArray × Int × Int × Int × Bool × Unit)) (a0_2 : List (ByteArray × (List Int) × (List Bool) × Bool × Unit)) (a0_3 : Int) (a1_0 : ByteArray) (a1_1 : List (ByteArray × Int × Int × Int × Bool × Unit)) (a1_2 : List (ByteArray × (List Int) × (List Bool) × Bool × Unit)) (a1_3 : Int) : F118 (k + 2) a0_0 a0_1 a0_2 a0_3 a1_0 a1_1 a1_2 a1_3 =
    if (!(a0_0.toList == a1_0.toList)) = true then some ((false, ()), (((), (), (), (), ()), ((), (), (), (), ()), ())) else (F136 k a0_1 a1_1).bind fun r1 => if (!r1.1.1) = true then some ((false, ()), (((), (), (), (), ()), ((), (), (), (), ()), ())) else (F137 k a0_2 a1_2).bind fun r2 => if (!r2.1.1) = true then some ((false, ()), (((), (), (), (), ()), ((), (), (), (), ()), ())) else if (a0_3 != a1_3) = true then some ((false, ()), (((), (), (), (), ()), ((), (), (), (), ()), ())) else some ((true, ()), (((), (), (), (), ()), ((), (), (), (), ()), ())) := by kernel_rfl
theorem F121_eq (k : Nat) (a0 : List (ByteArray × Int × Int × Int × Bool × Unit)) (a1 : Int) : F121 (k + 2) a0 a1 =
    F121c2 k a0 a1 (0 : Int) := by kernel_rfl
theorem F121c2_eq (k : Nat) (x0 : List (ByteArray × Int × Int × Int × Bool × Unit)) (x1 : Int) (x5 : Int) : F121c2 (k + 1) x0 x1 x5 =
    if (decide (x5 < (x0.length : Int))) = true then if (decide (0 ≤ x5)) = true then (x0[x5.toNat]?).bind fun y1 => (F97 k x1).bind fun r2 => if (!(y1.1.toList == r2.1.1.toList)) = true then some (((-1 : Int), ()), ((), (), ())) else if (decide (0 ≤ x5)) = true then (x0[x5.toNat]?).bind fun y3 => if (y3.2.1 != (IntKind.i64.wrap (x1 + (1 : Int)))) = true then some (((-1 : Int), ()), ((), (), ())) else if (decide (0 ≤ x5)) = true then (x0[x5.toNat]?).bind fun y4 => if (y4.2.2.1 != (IntKind.i64.wrap ((IntKind.i64.wrap (x1 + (1 : Int))) + (1 : Int)))) = true then some (((-1 : Int), ()), ((), (), ())) else if (decide (0 ≤ x5)) = true then (x0[x5.toNat]?).bind fun y5 => if (y5.2.2.2.1 != (IntKind.i64.wrap ((IntKind.i64.wrap ((IntKind.i64.wrap (x1 + (1 : Int))) + (1 : Int))) + (1 : Int)))) = true then some (((-1 : Int), ()), ((), (), ())) else if (decide (0 ≤ x5)) = true then (x0[x5.toNat]?).bind fun y6 => if (!(y6.2.2.2.2.1 == (((IntKind.i64.wrap ((IntKind.i64.wrap ((IntKind.i64.wrap ((IntKind.i64.wrap (x1 + (1 : Int))) + (1 : Int))) + (1 : Int))) + (1 : Int))).tmod (3 : Int)) == (0 : Int)))) = true then some (((-1 : Int), ()), ((), (), ())) else F121c2 k x0 (IntKind.i64.wrap ((IntKind.i64.wrap ((IntKind.i64.wrap ((IntKind.i64.wrap ((IntKind.i64.wrap (x1 + (1 : Int))) + (1 : Int))) + (1 : Int))) + (1 : Int))) + (1 : Int))) (IntKind.i64.wrap (x5 + (1 : Int))) else none else none else none else none else none else some ((x1, ()), ((), (), ())) := by kernel_rfl
theorem F122_eq (k : Nat) (a0 : List (ByteArray × (List Int) × (List Bool) × Bool × Unit)) (a1 : Int) : F122 (k + 2) a0 a1 =
    F122c2 k a0 a1 (0 : Int) := by kernel_rfl
theorem F122c2_eq (k : Nat) (x0 : List (ByteArray × (List Int) × (List Bool) × Bool × Unit)) (x1 : Int) (x5 : Int) : F122c2 (k + 1) x0 x1 x5 =
    if (decide (x5 < (x0.length : Int))) = true then if (decide (0 ≤ x5)) = true then (x0[x5.toNat]?).bind fun y1 => (F97 k x1).bind fun r2 => if (!(y1.1.toList == r2.1.1.toList)) = true then some (((-1 : Int), ()), ((), (), ())) else if (decide (0 ≤ x5)) = true then (x0[x5.toNat]?).bind fun y3 => (F100 k y3.2.1 (IntKind.i64.wrap (x1 + (1 : Int)))).bind fun r4 => if (decide (r4.1.1 < (0 : Int))) = true then some (((-1 : Int), ()), ((), (), ())) else if (decide (0 ≤ x5)) = true then (x0[x5.toNat]?).bind fun y5 => (F139 k y5.2.2.1 r4.1.1).bind fun r6 => if (decide (r6.1.1 < (0 : Int))) = true then some (((-1 : Int), ()), ((), (), ())) else if (decide (0 ≤ x5)) = true then (x0[x5.toNat]?).bind fun y7 => if (!(y7.2.2.2.1 == ((r6.1.1.tmod (3 : Int)) == (0 : Int)))) = true then some (((-1 : Int), ()), ((), (), ())) else F122c2 k x0 (IntKind.i64.wrap (r6.1.1 + (1 : Int))) (IntKind.i64.wrap (x5 + (1 : Int))) else none else none else none else none else some ((x1, ()), ((), (), ())) := by kernel_rfl
theorem F127_eq (k : Nat) (a0 : List Int) (a1 : List Int) : F127 (k + 2) a0 a1 =
    if ((a0.length : Int) != (a1.length : Int)) = true then some ((false, ()), ((), (), ())) else F127c4 k a0 a1 (0 : Int) := by kernel_rfl
theorem F127c4_eq (k : Nat) (x0 : List Int) (x1 : List Int) (x5 : Int) : F127c4 (k + 1) x0 x1 x5 =
    if (decide (x5 < (x0.length : Int))) = true then if (decide (0 ≤ x5)) = true then (x0[x5.toNat]?).bind fun y1 => if (decide (0 ≤ x5)) = true then (x1[x5.toNat]?).bind fun y2 => if (y1 != y2) = true then some ((false, ()), ((), (), ())) else F127c4 k x0 x1 (IntKind.i64.wrap (x5 + (1 : Int))) else none else none else some ((true, ()), ((), (), ())) := by kernel_rfl
theorem F136_eq (k : Nat) (a0 : List (ByteArray × Int × Int × Int × Bool × Unit)) (a1 : List (ByteArray × Int × Int × Int × Bool × Unit)) : F136 (k + 2) a0 a1 =
    if ((a0.length : Int) != (a1.length : Int)) = true then some ((false, ()), ((), (), ())) else F136c4 k a0 a1 (0 : Int) := by kernel_rfl
theorem F136c4_eq (k : Nat) (x0 : List (ByteArray × Int × Int × Int × Bool × Unit)) (x1 : List (ByteArray × Int × Int × Int × Bool × Unit)) (x5 : Int) : F136c4 (k + 1) x0 x1 x5 =
    if (decide (x5 < (x0.length : Int))) = true then if (decide (0 ≤ x5)) = true then (x0[x5.toNat]?).bind fun y1 => if (decide (0 ≤ x5)) = true then (x1[x5.toNat]?).bind fun y2 => (F149 k y1.1 y1.2.1 y1.2.2.1 y1.2.2.2.1 y1.2.2.2.2.1 y2.1 y2.2.1 y2.2.2.1 y2.2.2.2.1 y2.2.2.2.2.1).bind fun r3 => if (!r3.1.1) = true then some ((false, ()), ((), (), ())) else F136c4 k x0 x1 (IntKind.i64.wrap (x5 + (1 : Int))) else none else none else some ((true, ()), ((), (), ())) := by kernel_rfl
theorem F137_eq (k : Nat) (a0 : List (ByteArray × (List Int) × (List Bool) × Bool × Unit)) (a1 : List (ByteArray × (List Int) × (List Bool) × Bool × Unit)) : F137 (k + 2) a0 a1 =
    if ((a0.length : Int) != (a1.length : Int)) = true then some ((false, ()), ((), (), ())) else F137c4 k a0 a1 (0 : Int) := by kernel_rfl
theorem F137c4_eq (k : Nat) (x0 : List (ByteArray × (List Int) × (List Bool) × Bool × Unit)) (x1 : List (ByteArray × (List Int) × (List Bool) × Bool × Unit)) (x5 : Int) : F137c4 (k + 1) x0 x1 x5 =
    if (decide (x5 < (x0.length : Int))) = true then if (decide (0 ≤ x5)) = true then (x0[x5.toNat]?).bind fun y1 => if (decide (0 ≤ x5)) = true then (x1[x5.toNat]?).bind fun y2 => (F150 k y1.1 y1.2.1 y1.2.2.1 y1.2.2.2.1 y2.1 y2.2.1 y2.2.2.1 y2.2.2.2.1).bind fun r3 => if (!r3.1.1) = true then some ((false, ()), ((), (), ())) else F137c4 k x0 x1 (IntKind.i64.wrap (x5 + (1 : Int))) else none else none else some ((true, ()), ((), (), ())) := by kernel_rfl
theorem F139_eq (k : Nat) (a0 : List Bool) (a1 : Int) : F139 (k + 2) a0 a1 =
    F139c2 k a0 a1 (0 : Int) := by kernel_rfl
theorem F139c2_eq (k : Nat) (x0 : List Bool) (x1 : Int) (x5 : Int) : F139c2 (k + 1) x0 x1 x5 =
    if (decide (x5 < (x0.length : Int))) = true then if (decide (0 ≤ x5)) = true then (x0[x5.toNat]?).bind fun y1 => if (!(y1 == ((x1.tmod (3 : Int)) == (0 : Int)))) = true then some (((-1 : Int), ()), ((), (), ())) else F139c2 k x0 (IntKind.i64.wrap (x1 + (1 : Int))) (IntKind.i64.wrap (x5 + (1 : Int))) else none else some ((x1, ()), ((), (), ())) := by kernel_rfl
theorem F149_eq (k : Nat) (a0_0 : ByteArray) (a0_1 : Int) (a0_2 : Int) (a0_3 : Int) (a0_4 : Bool) (a1_0 : ByteArray) (a1_1 : Int) (a1_2 : Int) (a1_3 : Int) (a1_4 : Bool) : F149 (k + 2) a0_0 a0_1 a0_2 a0_3 a0_4 a1_0 a1_1 a1_2 a1_3 a1_4 =
    if (!(a0_0.toList == a1_0.toList)) = true then some ((false, ()), (((), (), (), (), (), ()), ((), (), (), (), (), ()), ())) else (F153 k a0_1 a0_2 a0_3 a1_1 a1_2 a1_3).bind fun r1 => if (!r1.1.1) = true then some ((false, ()), (((), (), (), (), (), ()), ((), (), (), (), (), ()), ())) else if (!(a0_4 == a1_4)) = true then some ((false, ()), (((), (), (), (), (), ()), ((), (), (), (), (), ()), ())) else some ((true, ()), (((), (), (), (), (), ()), ((), (), (), (), (), ()), ())) := by kernel_rfl
theorem F150_eq (k : Nat) (a0_0 : ByteArray) (a0_1 : List Int) (a0_2 : List Bool) (a0_3 : Bool) (a1_0 : ByteArray) (a1_1 : List Int) (a1_2 : List Bool) (a1_3 : Bool) : F150 (k + 2) a0_0 a0_1 a0_2 a0_3 a1_0 a1_1 a1_2 a1_3 =
    if (!(a0_0.toList == a1_0.toList)) = true then some ((false, ()), (((), (), (), (), ()), ((), (), (), (), ()), ())) else (F127 k a0_1 a1_1).bind fun r1 => if (!r1.1.1) = true then some ((false, ()), (((), (), (), (), ()), ((), (), (), (), ()), ())) else (F154 k a0_2 a1_2).bind fun r2 => if (!r2.1.1) = true then some ((false, ()), (((), (), (), (), ()), ((), (), (), (), ()), ())) else if (!(a0_3 == a1_3)) = true then some ((false, ()), (((), (), (), (), ()), ((), (), (), (), ()), ())) else some ((true, ()), (((), (), (), (), ()), ((), (), (), (), ()), ())) := by kernel_rfl
theorem F153_eq (k : Nat) (a0_0 : Int) (a0_1 : Int) (a0_2 : Int) (a1_0 : Int) (a1_1 : Int) (a1_2 : Int) : F153 (k + 2) a0_0 a0_1 a0_2 a1_0 a1_1 a1_2 =
    if (a0_0 != a1_0) = true then some ((false, ()), (((), (), (), ()), ((), (), (), ()), ())) else if (a0_1 != a1_1) = true then some ((false, ()), (((), (), (), ()), ((), (), (), ()), ())) else if (a0_2 != a1_2) = true then some ((false, ()), (((), (), (), ()), ((), (), (), ()), ())) else some ((true, ()), (((), (), (), ()), ((), (), (), ()), ())) := by kernel_rfl
theorem F154_eq (k : Nat) (a0 : List Bool) (a1 : List Bool) : F154 (k + 2) a0 a1 =
    if ((a0.length : Int) != (a1.length : Int)) = true then some ((false, ()), ((), (), ())) else F154c4 k a0 a1 (0 : Int) := by kernel_rfl
theorem F154c4_eq (k : Nat) (x0 : List Bool) (x1 : List Bool) (x5 : Int) : F154c4 (k + 1) x0 x1 x5 =
    if (decide (x5 < (x0.length : Int))) = true then if (decide (0 ≤ x5)) = true then (x0[x5.toNat]?).bind fun y1 => if (decide (0 ≤ x5)) = true then (x1[x5.toNat]?).bind fun y2 => if (!(y1 == y2)) = true then some ((false, ()), ((), (), ())) else F154c4 k x0 x1 (IntKind.i64.wrap (x5 + (1 : Int))) else none else none else some ((true, ()), ((), (), ())) := by kernel_rfl
end Go.Proofs.Ytldjfonpegffiaa.R
/-! Rf: what is to be shown of a law, with no machine in sight. -/
namespace Go.Proofs.Ytldjfonpegffiaa.R
open Go.Rf
def PureFnExactBaseNew : Prop := ∃ k p, F13 k = some ((true, ()), p)
end Go.Proofs.Ytldjfonpegffiaa.R
