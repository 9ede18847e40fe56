/- A run of the loaded program over lists, and its soundness (part 2). -/
import Derived.Test.YtdmcibaoebmieaaDoorCFnExactDecSubx1
import Derived.Test.YtdmcibaoebmieaaDoorProg
import Derived.KernelRfl
import Derived.Test.YtdmcibaoebmieaaDoorQTextWalk
set_option autoImplicit false
/-! Rf: the seat's tables. -/
namespace Go.Proofs.YtdmcibaoebmieaaDoor.R
open Go.Rf
noncomputable def tabs : Tabs where
  ty := [(3, ⟨false, [.int .i64], [], 8⟩),
    (4, ⟨false, [.bool], [], 1⟩),
    (5, ⟨false, [.int .u8], [], 1⟩),
    (9, ⟨false, [.str], [], 16⟩),
    (22, ⟨false, [.sl (.int .i64)], [], 24⟩),
    (24, ⟨true, [.bool, .sl (.int .i64)], [(0, 1, false), (1, 1, false)], 32⟩),
    (26, ⟨true, [.bool, .sl (.int .i64), .int .i64], [(0, 2, true), (2, 1, false)], 40⟩),
    (29, ⟨true, [.bool, .sl (.int .i64)], [(0, 1, false), (1, 1, false)], 32⟩),
    (31, ⟨true, [.bool, .sl (.int .i64), .int .i64], [(0, 2, true), (2, 1, false)], 40⟩),
    (44, ⟨false, [.sl (.int .u8)], [], 24⟩),
    (57, ⟨false, [.sl (.int .i64)], [], 24⟩),
    (64, ⟨true, [.bool, .sl (.int .i64)], [(0, 1, false), (1, 1, false)], 32⟩)]
  el := [(22, 3), (44, 5), (57, 3)]
  ifcs := []
  known := [3, 5, 6, 11, 12, 13, 14, 15, 18, 19, 20, 21, 22, 23, 33, 38, 39, 40, 41, 42, 43, 44, 46, 48, 49, 50, 51, 52, 53, 54, 55, 56, 58, 61, 62, 66, 70, 71, 73, 74, 75, 80, 82, 83, 84, 85, 86, 87, 88, 90, 91, 93, 95, 96, 97, 98, 99, 100, 101, 102, 103, 105, 114, 115, 118, 120, 122, 123, 124, 125, 126, 138, 139]
  spec := [(3, ⟨[.agg [.v .bool, .v (.sl (.int .i64)), .v (.int .i64)], .agg [.v .bool, .v (.sl (.int .i64)), .v (.int .i64)]], [.c (.v .bool)]⟩),
    (5, ⟨[.agg [.v .bool, .v (.sl (.int .i64)), .v (.int .i64)], .agg [.v .bool, .v (.sl (.int .i64)), .v (.int .i64)]], [.c (.v .bool)]⟩),
    (6, ⟨[.agg [.v .bool, .v (.sl (.int .i64)), .v (.int .i64)], .agg [.v .bool, .v (.sl (.int .i64)), .v (.int .i64)]], [.c (.v .bool)]⟩),
    (11, ⟨[.agg [.v .bool, .v (.sl (.int .i64)), .v (.int .i64)], .c (.v (.int .i64))], [.c (.v (.int .i64))]⟩),
    (12, ⟨[.agg [.v .bool, .v (.sl (.int .i64)), .v (.int .i64)], .agg [.v .bool, .v (.sl (.int .i64)), .v (.int .i64)]], [.c (.v (.int .i64))]⟩),
    (13, ⟨[.agg [.v .bool, .v (.sl (.int .i64)), .v (.int .i64)]], [.agg [.v .bool, .o (.int .i64) 3 true, .v (.int .i64)]]⟩),
    (14, ⟨[.agg [.v .bool, .v (.sl (.int .i64)), .v (.int .i64)], .agg [.v .bool, .v (.sl (.int .i64)), .v (.int .i64)]], [.c (.v (.int .i64))]⟩),
    (15, ⟨[.agg [.v .bool, .v (.sl (.int .i64)), .v (.int .i64)], .agg [.v .bool, .v (.sl (.int .i64)), .v (.int .i64)]], [.c (.v .bool)]⟩),
    (18, ⟨[.agg [.v .bool, .o (.int .i64) 3 true, .v (.int .i64)], .c (.v (.int .i64))], [.c (.v (.int .i64))]⟩),
    (19, ⟨[.agg [.v .bool, .v (.sl (.int .i64)), .v (.int .i64)], .c (.v (.int .i64))], [.c (.v (.int .i64))]⟩),
    (20, ⟨[.agg [.v .bool, .v (.sl (.int .i64)), .v (.int .i64)], .agg [.v .bool, .v (.sl (.int .i64)), .v (.int .i64)]], [.agg [.v .bool, .o (.int .i64) 3 true, .v (.int .i64)], .c (.v (.int .i64))]⟩),
    (21, ⟨[.agg [.v .bool, .v (.sl (.int .i64)), .v (.int .i64)], .agg [.v .bool, .v (.sl (.int .i64)), .v (.int .i64)]], [.agg [.v .bool, .o (.int .i64) 3 true, .v (.int .i64)], .c (.v (.int .i64))]⟩),
    (22, ⟨[.agg [.v .bool, .v (.sl (.int .i64)), .v (.int .i64)], .agg [.v .bool, .v (.sl (.int .i64)), .v (.int .i64)]], [.agg [.v .bool, .o (.int .i64) 3 true, .v (.int .i64)], .c (.v (.int .i64))]⟩),
    (23, ⟨[.agg [.v .bool, .v (.sl (.int .i64)), .v (.int .i64)], .agg [.v .bool, .v (.sl (.int .i64)), .v (.int .i64)]], [.agg [.v .bool, .o (.int .i64) 3 true, .v (.int .i64)], .c (.v (.int .i64))]⟩),
    (33, ⟨[.agg [.v .bool, .v (.sl (.int .i64))]], [.c (.v .bool)]⟩),
    (38, ⟨[.agg [.v .bool, .v (.sl (.int .i64))], .c (.v (.int .i64))], [.c (.v (.int .i64))]⟩),
    (39, ⟨[.agg [.v .bool, .v (.sl (.int .i64)), .v (.int .i64)]], [.c (.v .bool)]⟩),
    (40, ⟨[.agg [.v .bool, .v (.sl (.int .i64)), .v (.int .i64)], .agg [.v .bool, .v (.sl (.int .i64)), .v (.int .i64)]], [.c (.v (.int .i64))]⟩),
    (41, ⟨[.agg [.v .bool, .v (.sl (.int .i64))]], [.agg [.v .bool, .o (.int .i64) 3 true]]⟩),
    (42, ⟨[.agg [.v .bool, .v (.sl (.int .i64)), .v (.int .i64)], .agg [.v .bool, .v (.sl (.int .i64)), .v (.int .i64)]], [.c (.v .bool)]⟩),
    (43, ⟨[.agg [.v .bool, .v (.sl (.int .i64)), .v (.int .i64)], .agg [.v .bool, .v (.sl (.int .i64)), .v (.int .i64)]], [.c (.v (.int .i64))]⟩),
    (44, ⟨[.agg [.v .bool, .v (.sl (.int .i64))], .agg [.v .bool, .v (.sl (.int .i64))]], [.c (.v .bool)]⟩),
    (46, ⟨[.agg [.v .bool, .v (.sl (.int .i64)), .v (.int .i64)]], [.c (.v .bool)]⟩),
    (48, ⟨[.c (.v .bool), .c (.v (.sl (.int .i64)))], [.agg [.v .bool, .o (.int .i64) 3 true], .c (.v .bool)]⟩),
    (49, ⟨[.agg [.v .bool, .o (.int .i64) 3 true], .c (.v (.int .i64))], [.c (.v (.int .i64))]⟩),
    (50, ⟨[.agg [.v .bool, .v (.sl (.int .i64))], .c (.v (.int .i64))], [.c (.v (.int .i64))]⟩),
    (51, ⟨[.agg [.v .bool, .v (.sl (.int .i64)), .v (.int .i64)], .agg [.v .bool, .v (.sl (.int .i64)), .v (.int .i64)]], [.agg [.v .bool, .o (.int .i64) 3 true, .v (.int .i64)], .c (.v (.int .i64))]⟩),
    (52, ⟨[.agg [.v .bool, .v (.sl (.int .i64))], .c (.v (.int .i64))], [.agg [.v .bool, .o (.int .i64) 3 true, .v (.int .i64)], .c (.v (.int .i64))]⟩),
    (53, ⟨[.agg [.v .bool, .v (.sl (.int .i64)), .v (.int .i64)], .c (.v (.int .i64))], [.agg [.v .bool, .v (.sl (.int .i64))]]⟩),
    (54, ⟨[.agg [.v .bool, .v (.sl (.int .i64))], .agg [.v .bool, .v (.sl (.int .i64))]], [.agg [.v .bool, .v (.sl (.int .i64))]]⟩),
    (55, ⟨[.agg [.v .bool, .v (.sl (.int .i64)), .v (.int .i64)]], [.agg [.v .bool, .v (.sl (.int .i64)), .v (.int .i64)]]⟩),
    (56, ⟨[.agg [.v .bool, .v (.sl (.int .i64))]], [.agg [.v .bool, .v (.sl (.int .i64))]]⟩),
    (58, ⟨[.agg [.v .bool, .v (.sl (.int .i64))]], [.agg [.v .bool, .v (.sl (.int .i64))]]⟩),
    (61, ⟨[.c (.v (.int .i64))], [.c (.v (.sl (.int .i64)))]⟩),
    (62, ⟨[.c (.v (.int .i64)), .c (.v (.int .i64)), .c (.v (.int .i64))], [.c (.v .bool)]⟩),
    (66, ⟨[.c (.v (.sl (.int .i64))), .c (.v (.sl (.int .i64)))], [.c (.v (.sl (.int .i64)))]⟩),
    (70, ⟨[.c (.v (.sl (.int .i64)))], [.c (.v .str)]⟩),
    (71, ⟨[.agg [.v .bool, .v (.sl (.int .i64))]], [.c (.v .bool)]⟩),
    (74, ⟨[.c (.v (.int .i64))], [.c (.v .bool)]⟩),
    (75, ⟨[.c (.v (.int .i64)), .c (.v (.int .i64)), .c (.v (.int .i64))], [.c (.v .bool)]⟩),
    (80, ⟨[.agg [.v .bool, .v (.sl (.int .i64))]], [.c (.v (.int .i64))]⟩),
    (82, ⟨[.c (.v (.sl (.int .i64))), .c (.v (.int .i64))], [.c (.v (.int .i64))]⟩),
    (83, ⟨[.c (.v (.sl (.int .i64)))], [.c (.v (.int .i64))]⟩),
    (84, ⟨[.c (.v (.int .i64)), .c (.v (.int .i64))], [.c (.v (.int .i64))]⟩),
    (85, ⟨[.agg [.v .bool, .v (.sl (.int .i64)), .v (.int .i64)], .c (.v (.int .i64))], [.c (.v (.sl (.int .i64)))]⟩),
    (86, ⟨[.agg [.v .bool, .v (.sl (.int .i64))], .agg [.v .bool, .v (.sl (.int .i64))]], [.c (.v (.int .i64))]⟩),
    (87, ⟨[.c (.v (.sl (.int .i64)))], [.c (.o (.int .i64) 3 true)]⟩),
    (88, ⟨[.c (.v (.sl (.int .i64))), .c (.v (.sl (.int .i64)))], [.c (.v .bool)]⟩),
    (90, ⟨[.c (.v (.sl (.int .i64)))], [.c (.o (.int .i64) 3 true)]⟩),
    (91, ⟨[.c (.v (.sl (.int .i64)))], [.c (.v (.int .i64))]⟩),
    (93, ⟨[.c (.v (.sl (.int .i64)))], [.c (.v (.sl (.int .i64)))]⟩),
    (95, ⟨[.c (.v (.sl (.int .i64))), .c (.v (.sl (.int .i64)))], [.c (.v (.int .i64))]⟩),
    (96, ⟨[.c (.v (.sl (.int .i64))), .c (.v (.sl (.int .i64)))], [.c (.v (.sl (.int .i64)))]⟩),
    (97, ⟨[.c (.v (.sl (.int .i64)))], [.c (.o (.int .i64) 3 true)]⟩),
    (98, ⟨[.c (.o (.int .i64) 3 true), .c (.v (.int .i64))], [.c (.v (.int .i64))]⟩),
    (99, ⟨[.c (.v (.sl (.int .i64))), .c (.v (.int .i64))], [.c (.v (.int .i64))]⟩),
    (100, ⟨[.c (.v .bool), .c (.v (.sl (.int .i64))), .c (.v .bool), .c (.v (.sl (.int .i64)))], [.c (.v .bool), .c (.o (.int .i64) 3 true)]⟩),
    (101, ⟨[.c (.v .bool), .c (.o (.int .i64) 3 false), .c (.v (.int .i64))], [.agg [.v .bool, .o (.int .i64) 3 true, .v (.int .i64)], .c (.v (.int .i64))]⟩),
    (102, ⟨[.c (.v (.sl (.int .i64))), .c (.v (.sl (.int .i64)))], [.c (.v (.sl (.int .i64)))]⟩),
    (103, ⟨[.c (.v (.sl (.int .i64))), .c (.v (.sl (.int .i64)))], [.c (.v (.sl (.int .i64)))]⟩),
    (105, ⟨[.c (.v (.int .i64))], [.c (.v (.sl (.int .i64)))]⟩),
    (114, ⟨[.c (.v (.sl (.int .i64)))], [.c (.v .str)]⟩),
    (118, ⟨[.c (.v (.sl (.int .i64))), .c (.v (.sl (.int .i64)))], [.c (.v (.int .i64))]⟩),
    (120, ⟨[.c (.v (.sl (.int .i64))), .c (.v (.sl (.int .i64)))], [.c (.o (.int .i64) 3 true)]⟩),
    (122, ⟨[.c (.v (.sl (.int .i64)))], [.c (.o (.int .i64) 3 true)]⟩),
    (123, ⟨[.c (.o (.int .i64) 3 false)], [.c (.o (.int .i64) 3 true)]⟩),
    (124, ⟨[.c (.v (.sl (.int .i64)))], [.c (.o (.int .i64) 3 true)]⟩),
    (125, ⟨[.c (.v (.sl (.int .i64))), .c (.v (.sl (.int .i64)))], [.c (.o (.int .i64) 3 true)]⟩),
    (126, ⟨[.c (.v (.sl (.int .i64))), .c (.v (.int .i64))], [.c (.v (.int .i64))]⟩),
    (138, ⟨[.c (.v (.int .i64))], [.c (.v .str)]⟩),
    (139, ⟨[.c (.v (.int .i64)), .c (.v (.int .i64))], [.c (.v .str)]⟩),
    (75073, ⟨[.c (.v (.sl (.int .i64))), .clo 74 []], [.c (.v .bool)]⟩),
    (75115, ⟨[.c (.v (.sl (.int .i64))), .clo 74 []], [.c (.v (.int .i64))]⟩)]
  cut := [(61, [(3, [(3, .c (.v (.sl (.int .i64)))), (5, .c (.v (.int .i64))), (6, .c (.v (.int .i64)))])]),
    (66, [(3, [(1, .c (.v (.sl (.int .i64)))), (5, .c (.o (.int .i64) 3 true)), (19, .c (.v (.sl (.int .i64)))), (20, .c (.v (.int .i64))), (21, .c (.v (.int .i64)))]), (7, [(1, .c (.v (.sl (.int .i64)))), (5, .c (.o (.int .i64) 3 true)), (6, .c (.v (.int .i64))), (7, .c (.v (.int .i64))), (8, .c (.v (.int .i64))), (19, .c (.v (.sl (.int .i64)))), (20, .c (.v (.int .i64))), (21, .c (.v (.int .i64))), (26, .c (.v (.sl (.int .i64)))), (27, .c (.v (.int .i64))), (28, .c (.v (.int .i64)))])]),
    (71, [(4, [(1, .box [.v .bool, .v (.sl (.int .i64))]), (3, .c (.v (.int .i64)))])]),
    (87, [(3, [(0, .c (.v (.sl (.int .i64)))), (3, .c (.o (.int .i64) 3 true)), (4, .c (.v (.int .i64)))])]),
    (88, [(4, [(0, .c (.v (.sl (.int .i64)))), (1, .c (.v (.sl (.int .i64)))), (5, .c (.v (.int .i64)))])]),
    (90, [(2, [(0, .c (.v (.sl (.int .i64)))), (3, .c (.v (.int .i64)))])]),
    (93, [(1, [(0, .c (.v (.sl (.int .i64))))])]),
    (95, [(4, [(0, .c (.v (.sl (.int .i64)))), (1, .c (.v (.sl (.int .i64)))), (5, .c (.v (.int .i64)))])]),
    (96, [(3, [(5, .c (.o (.int .i64) 3 true)), (11, .c (.v (.sl (.int .i64)))), (12, .c (.v (.int .i64))), (13, .c (.v (.int .i64)))]), (8, [(5, .c (.o (.int .i64) 3 true)), (27, .c (.v (.int .i64))), (28, .c (.v (.int .i64)))]), (13, [(5, .c (.o (.int .i64) 3 true)), (27, .c (.v (.int .i64))), (28, .c (.v (.int .i64)))])]),
    (98, [(2, [(0, .c (.o (.int .i64) 3 true)), (1, .c (.v (.int .i64))), (5, .c (.v (.int .i64)))])]),
    (99, [(2, [(0, .c (.v (.sl (.int .i64)))), (1, .c (.v (.int .i64))), (5, .c (.v (.int .i64)))])]),
    (102, [(4, [(5, .c (.o (.int .i64) 3 true)), (19, .c (.v (.sl (.int .i64)))), (20, .c (.v (.int .i64))), (21, .c (.v (.int .i64)))]), (9, [(5, .c (.o (.int .i64) 3 true)), (36, .c (.v (.int .i64))), (37, .c (.v (.int .i64)))])]),
    (103, [(3, [(0, .c (.v (.sl (.int .i64)))), (1, .c (.v (.sl (.int .i64)))), (5, .c (.o (.int .i64) 3 true)), (6, .c (.v (.int .i64)))]), (7, [(0, .c (.v (.sl (.int .i64)))), (1, .c (.v (.sl (.int .i64)))), (5, .c (.o (.int .i64) 3 true)), (6, .c (.v (.int .i64))), (7, .c (.v (.int .i64))), (8, .c (.v (.int .i64)))])]),
    (105, [(2, [(0, .c (.v (.int .i64))), (3, .c (.o (.int .i64) 3 true))]), (6, [(0, .c (.v (.int .i64))), (3, .c (.o (.int .i64) 3 true)), (4, .c (.v (.int .i64)))])]),
    (114, [(5, [(0, .c (.v (.sl (.int .i64)))), (3, .c (.v .str)), (4, .c (.v (.int .i64)))])]),
    (118, [(6, [(0, .c (.v (.sl (.int .i64)))), (1, .c (.v (.sl (.int .i64)))), (5, .c (.v (.int .i64)))])]),
    (120, [(4, [(0, .c (.v (.sl (.int .i64)))), (1, .c (.v (.sl (.int .i64)))), (5, .c (.o (.int .i64) 3 true)), (6, .c (.v (.int .i64))), (7, .c (.v (.int .i64)))]), (11, [(0, .c (.v (.sl (.int .i64)))), (1, .c (.v (.sl (.int .i64)))), (5, .c (.o (.int .i64) 3 true)), (6, .c (.v (.int .i64))), (7, .c (.v (.int .i64))), (8, .c (.v (.int .i64)))])]),
    (125, [(4, [(0, .c (.v (.sl (.int .i64)))), (1, .c (.v (.sl (.int .i64)))), (5, .c (.o (.int .i64) 3 true)), (6, .c (.v (.int .i64))), (7, .c (.v (.int .i64)))])]),
    (139, [(2, [(1, .c (.v (.int .i64))), (5, .c (.v .str))])]),
    (75115, [(2, [(0, .c (.v (.sl (.int .i64)))), (1, .clo 74 []), (7, .c (.v (.int .i64))), (8, .c (.v (.int .i64)))])])]
theorem tabs_ok : tabs.ok Tryd.prog = true := by kernel_rfl
noncomputable def extR : (f : Nat) → Option ((specOf tabs.spec f).In → Option (specOf tabs.spec f).Out) := fun f => match f with
  | 70 => some textR
  | _ => none
/-- the variable that holds strconv's powers of ten, and its cells -/
def powG : Nat := 2
def powCells : Array Value := (Lib.pow10Tab.map fun z => Value.int .u64 z).toArray
def objsR : Nat → Option (Array Value) := fun g => if g = powG then some powCells else none
noncomputable def cx : Go.Rf.Cx := tabs.cx Tryd.prog extR (fun _ => false) (fun _ => none) objsR
theorem good : Go.Rf.Good cx := Go.Rf.Tabs.good tabs_ok (fun _ h => by cases h)
end Go.Proofs.YtdmcibaoebmieaaDoor.R
/-! Rf: the functions, and what each answers. -/
set_option linter.unusedVariables false
namespace Go.Proofs.YtdmcibaoebmieaaDoor.R
open Go.Rf
/-! loop.example/jetton/laws.FnExactDecCmp -/
noncomputable def F3 (k : Nat) (a0_0 : Bool) (a0_1 : List Int) (a0_2 : Int) (a1_0 : Bool) (a1_1 : List Int) (a1_2 : Int) : Option ((Bool × Unit) × ((Unit × Unit × Unit × Unit) × (Unit × Unit × Unit × Unit) × Unit)) := callF cx k 3 ((a0_0, a0_1, a0_2, ()), (a1_0, a1_1, a1_2, ()), ())
/-! loop.example/jetton/laws.FnExactDecAdd -/
noncomputable def F5 (k : Nat) (a0_0 : Bool) (a0_1 : List Int) (a0_2 : Int) (a1_0 : Bool) (a1_1 : List Int) (a1_2 : Int) : Option ((Bool × Unit) × ((Unit × Unit × Unit × Unit) × (Unit × Unit × Unit × Unit) × Unit)) := callF cx k 5 ((a0_0, a0_1, a0_2, ()), (a1_0, a1_1, a1_2, ()), ())
/-! loop.example/jetton/laws.FnExactDecSub -/
noncomputable def F6 (k : Nat) (a0_0 : Bool) (a0_1 : List Int) (a0_2 : Int) (a1_0 : Bool) (a1_1 : List Int) (a1_2 : Int) : Option ((Bool × Unit) × ((Unit × Unit × Unit × Unit) × (Unit × Unit × Unit × Unit) × Unit)) := callF cx k 6 ((a0_0, a0_1, a0_2, ()), (a1_0, a1_1, a1_2, ()), ())
/-! loop.example/jetton/laws.szDec -/
noncomputable def F11 (k : Nat) (a0_0 : Bool) (a0_1 : List Int) (a0_2 : Int) (a1 : Int) : Option ((Int × Unit) × ((Unit × Unit × Unit × Unit) × Unit × Unit)) := callF cx k 11 ((a0_0, a0_1, a0_2, ()), a1, ())
/-! loop.example/jetton/spec.DecCmp -/
noncomputable def F12 (k : Nat) (a0_0 : Bool) (a0_1 : List Int) (a0_2 : Int) (a1_0 : Bool) (a1_1 : List Int) (a1_2 : Int) : Option ((Int × Unit) × ((Unit × Unit × Unit × Unit) × (Unit × Unit × Unit × Unit) × Unit)) := callF cx k 12 ((a0_0, a0_1, a0_2, ()), (a1_0, a1_1, a1_2, ()), ())
/-! loop.example/jetton/laws.toDec -/
noncomputable def F13 (k : Nat) (a0_0 : Bool) (a0_1 : List Int) (a0_2 : Int) : Option (((Bool × (List Int) × Int × Unit) × Unit) × ((Unit × Unit × Unit × Unit) × Unit)) := callF cx k 13 ((a0_0, a0_1, a0_2, ()), ())
/-! loop.example/jetton/impl.DecCmp -/
noncomputable def F14 (k : Nat) (a0_0 : Bool) (a0_1 : List Int) (a0_2 : Int) (a1_0 : Bool) (a1_1 : List Int) (a1_2 : Int) : Option ((Int × Unit) × ((Unit × Unit × Unit × Unit) × (Unit × Unit × Unit × Unit) × Unit)) := callF cx k 14 ((a0_0, a0_1, a0_2, ()), (a1_0, a1_1, a1_2, ()), ())
/-! loop.example/jetton/laws.eqDec -/
noncomputable def F15 (k : Nat) (a0_0 : Bool) (a0_1 : List Int) (a0_2 : Int) (a1_0 : Bool) (a1_1 : List Int) (a1_2 : Int) : Option ((Bool × Unit) × ((Unit × Unit × Unit × Unit) × (Unit × Unit × Unit × Unit) × Unit)) := callF cx k 15 ((a0_0, a0_1, a0_2, ()), (a1_0, a1_1, a1_2, ()), ())
/-! loop.example/jetton/laws.markDec -/
noncomputable def F18 (k : Nat) (a0_0 : Bool) (a0_1 : List Int) (a0_2 : Int) (a1 : Int) : Option ((Int × Unit) × ((Unit × (List Int) × Unit × Unit) × Unit × Unit)) := callF cx k 18 ((a0_0, a0_1, a0_2, ()), a1, ())
/-! loop.example/jetton/laws.heldDec -/
noncomputable def F19 (k : Nat) (a0_0 : Bool) (a0_1 : List Int) (a0_2 : Int) (a1 : Int) : Option ((Int × Unit) × ((Unit × Unit × Unit × Unit) × Unit × Unit)) := callF cx k 19 ((a0_0, a0_1, a0_2, ()), a1, ())
/-! loop.example/jetton/spec.DecAdd -/
noncomputable def F20 (k : Nat) (a0_0 : Bool) (a0_1 : List Int) (a0_2 : Int) (a1_0 : Bool) (a1_1 : List Int) (a1_2 : Int) : Option (((Bool × (List Int) × Int × Unit) × Int × Unit) × ((Unit × Unit × Unit × Unit) × (Unit × Unit × Unit × Unit) × Unit)) := callF cx k 20 ((a0_0, a0_1, a0_2, ()), (a1_0, a1_1, a1_2, ()), ())
/-! loop.example/jetton/impl.DecAdd -/
noncomputable def F21 (k : Nat) (a0_0 : Bool) (a0_1 : List Int) (a0_2 : Int) (a1_0 : Bool) (a1_1 : List Int) (a1_2 : Int) : Option (((Bool × (List Int) × Int × Unit) × Int × Unit) × ((Unit × Unit × Unit × Unit) × (Unit × Unit × Unit × Unit) × Unit)) := callF cx k 21 ((a0_0, a0_1, a0_2, ()), (a1_0, a1_1, a1_2, ()), ())
/-! loop.example/jetton/spec.DecSub -/
noncomputable def F22 (k : Nat) (a0_0 : Bool) (a0_1 : List Int) (a0_2 : Int) (a1_0 : Bool) (a1_1 : List Int) (a1_2 : Int) : Option (((Bool × (List Int) × Int × Unit) × Int × Unit) × ((Unit × Unit × Unit × Unit) × (Unit × Unit × Unit × Unit) × Unit)) := callF cx k 22 ((a0_0, a0_1, a0_2, ()), (a1_0, a1_1, a1_2, ()), ())
/-! loop.example/jetton/impl.DecSub -/
noncomputable def F23 (k : Nat) (a0_0 : Bool) (a0_1 : List Int) (a0_2 : Int) (a1_0 : Bool) (a1_1 : List Int) (a1_2 : Int) : Option (((Bool × (List Int) × Int × Unit) × Int × Unit) × ((Unit × Unit × Unit × Unit) × (Unit × Unit × Unit × Unit) × Unit)) := callF cx k 23 ((a0_0, a0_1, a0_2, ()), (a1_0, a1_1, a1_2, ()), ())
/-! loop.example/jetton/impl.BigOk -/
noncomputable def F33 (k : Nat) (a0_0 : Bool) (a0_1 : List Int) : Option ((Bool × Unit) × ((Unit × Unit × Unit) × Unit)) := callF cx k 33 ((a0_0, a0_1, ()), ())
/-! loop.example/jetton/laws.szBig -/
noncomputable def F38 (k : Nat) (a0_0 : Bool) (a0_1 : List Int) (a1 : Int) : Option ((Int × Unit) × ((Unit × Unit × Unit) × Unit × Unit)) := callF cx k 38 ((a0_0, a0_1, ()), a1, ())
/-! loop.example/jetton/spec.l2Ok -/
noncomputable def F39 (k : Nat) (a0_0 : Bool) (a0_1 : List Int) (a0_2 : Int) : Option ((Bool × Unit) × ((Unit × Unit × Unit × Unit) × Unit)) := callF cx k 39 ((a0_0, a0_1, a0_2, ()), ())
/-! loop.example/jetton/spec.l2Cmp -/
noncomputable def F40 (k : Nat) (a0_0 : Bool) (a0_1 : List Int) (a0_2 : Int) (a1_0 : Bool) (a1_1 : List Int) (a1_2 : Int) : Option ((Int × Unit) × ((Unit × Unit × Unit × Unit) × (Unit × Unit × Unit × Unit) × Unit)) := callF cx k 40 ((a0_0, a0_1, a0_2, ()), (a1_0, a1_1, a1_2, ()), ())
/-! loop.example/jetton/laws.toBig -/
noncomputable def F41 (k : Nat) (a0_0 : Bool) (a0_1 : List Int) : Option (((Bool × (List Int) × Unit) × Unit) × ((Unit × Unit × Unit) × Unit)) := callF cx k 41 ((a0_0, a0_1, ()), ())
/-! loop.example/jetton/impl.decs -/
noncomputable def F42 (k : Nat) (a0_0 : Bool) (a0_1 : List Int) (a0_2 : Int) (a1_0 : Bool) (a1_1 : List Int) (a1_2 : Int) : Option ((Bool × Unit) × ((Unit × Unit × Unit × Unit) × (Unit × Unit × Unit × Unit) × Unit)) := callF cx k 42 ((a0_0, a0_1, a0_2, ()), (a1_0, a1_1, a1_2, ()), ())
/-! (loop.example/jetton/impl.Dec).cmp -/
noncomputable def F43 (k : Nat) (a0_0 : Bool) (a0_1 : List Int) (a0_2 : Int) (a1_0 : Bool) (a1_1 : List Int) (a1_2 : Int) : Option ((Int × Unit) × ((Unit × Unit × Unit × Unit) × (Unit × Unit × Unit × Unit) × Unit)) := callF cx k 43 ((a0_0, a0_1, a0_2, ()), (a1_0, a1_1, a1_2, ()), ())
/-! loop.example/jetton/laws.eqBig -/
noncomputable def F44 (k : Nat) (a0_0 : Bool) (a0_1 : List Int) (a1_0 : Bool) (a1_1 : List Int) : Option ((Bool × Unit) × ((Unit × Unit × Unit) × (Unit × Unit × Unit) × Unit)) := callF cx k 44 ((a0_0, a0_1, ()), (a1_0, a1_1, ()), ())
/-! loop.example/jetton/impl.DecOk -/
noncomputable def F46 (k : Nat) (a0_0 : Bool) (a0_1 : List Int) (a0_2 : Int) : Option ((Bool × Unit) × ((Unit × Unit × Unit × Unit) × Unit)) := callF cx k 46 ((a0_0, a0_1, a0_2, ()), ())
/-! loop.example/jetton/impl.big -/
noncomputable def F48 (k : Nat) (a0 : Bool) (a1 : List Int) : Option (((Bool × (List Int) × Unit) × Bool × Unit) × (Unit × Unit × Unit)) := callF cx k 48 (a0, a1, ())
/-! loop.example/jetton/laws.markBig -/
noncomputable def F49 (k : Nat) (a0_0 : Bool) (a0_1 : List Int) (a1 : Int) : Option ((Int × Unit) × ((Unit × (List Int) × Unit) × Unit × Unit)) := callF cx k 49 ((a0_0, a0_1, ()), a1, ())
/-! loop.example/jetton/laws.heldBig -/
noncomputable def F50 (k : Nat) (a0_0 : Bool) (a0_1 : List Int) (a1 : Int) : Option ((Int × Unit) × ((Unit × Unit × Unit) × Unit × Unit)) := callF cx k 50 ((a0_0, a0_1, ()), a1, ())
/-! loop.example/jetton/spec.l2Add -/
noncomputable def F51 (k : Nat) (a0_0 : Bool) (a0_1 : List Int) (a0_2 : Int) (a1_0 : Bool) (a1_1 : List Int) (a1_2 : Int) : Option (((Bool × (List Int) × Int × Unit) × Int × Unit) × ((Unit × Unit × Unit × Unit) × (Unit × Unit × Unit × Unit) × Unit)) := callF cx k 51 ((a0_0, a0_1, a0_2, ()), (a1_0, a1_1, a1_2, ()), ())
/-! loop.example/jetton/impl.dec -/
noncomputable def F52 (k : Nat) (a0_0 : Bool) (a0_1 : List Int) (a1 : Int) : Option (((Bool × (List Int) × Int × Unit) × Int × Unit) × ((Unit × Unit × Unit) × Unit × Unit)) := callF cx k 52 ((a0_0, a0_1, ()), a1, ())
/-! (loop.example/jetton/impl.Dec).at -/
noncomputable def F53 (k : Nat) (a0_0 : Bool) (a0_1 : List Int) (a0_2 : Int) (a1 : Int) : Option (((Bool × (List Int) × Unit) × Unit) × ((Unit × Unit × Unit × Unit) × Unit × Unit)) := callF cx k 53 ((a0_0, a0_1, a0_2, ()), a1, ())
/-! (loop.example/jetton/impl.signed).add -/
noncomputable def F54 (k : Nat) (a0_0 : Bool) (a0_1 : List Int) (a1_0 : Bool) (a1_1 : List Int) : Option (((Bool × (List Int) × Unit) × Unit) × ((Unit × Unit × Unit) × (Unit × Unit × Unit) × Unit)) := callF cx k 54 ((a0_0, a0_1, ()), (a1_0, a1_1, ()), ())
/-! loop.example/jetton/spec.l2Not -/
noncomputable def F55 (k : Nat) (a0_0 : Bool) (a0_1 : List Int) (a0_2 : Int) : Option (((Bool × (List Int) × Int × Unit) × Unit) × ((Unit × Unit × Unit × Unit) × Unit)) := callF cx k 55 ((a0_0, a0_1, a0_2, ()), ())
/-! (loop.example/jetton/impl.signed).minus -/
noncomputable def F56 (k : Nat) (a0_0 : Bool) (a0_1 : List Int) : Option (((Bool × (List Int) × Unit) × Unit) × ((Unit × Unit × Unit) × Unit)) := callF cx k 56 ((a0_0, a0_1, ()), ())
/-! (loop.example/jetton/impl.Big).signed -/
noncomputable def F58 (k : Nat) (a0_0 : Bool) (a0_1 : List Int) : Option (((Bool × (List Int) × Unit) × Unit) × ((Unit × Unit × Unit) × Unit)) := callF cx k 58 ((a0_0, a0_1, ()), ())
/-! loop.example/jetton/impl.ten -/
noncomputable def F61 (k : Nat) (a0 : Int) : Option (((List Int) × Unit) × (Unit × Unit)) := callF cx k 61 (a0, ())
noncomputable def F61c3 (k : Nat) (x3 : List Int) (x5 : Int) (x6 : Int) : Option (((List Int) × Unit) × (Unit × Unit)) := cutF cx 61 3 Tryd.f61 k (x3, x5, x6, ())
/-! loop.example/jetton/spec.l1In -/
noncomputable def F62 (k : Nat) (a0 : Int) (a1 : Int) (a2 : Int) : Option ((Bool × Unit) × (Unit × Unit × Unit × Unit)) := callF cx k 62 (a0, a1, a2, ())
/-! (loop.example/jetton/impl.limbs).mul -/
noncomputable def F66 (k : Nat) (a0 : List Int) (a1 : List Int) : Option (((List Int) × Unit) × (Unit × Unit × Unit)) := callF cx k 66 (a0, a1, ())
noncomputable def F66c3 (k : Nat) (x1 : List Int) (x5 : List Int) (x19 : List Int) (x20 : Int) (x21 : Int) : Option (((List Int) × Unit) × (Unit × Unit × Unit)) := cutF cx 66 3 Tryd.f66 k (x1, x5, x19, x20, x21, ())
noncomputable def F66c7 (k : Nat) (x1 : List Int) (x5 : List Int) (x6 : Int) (x7 : Int) (x8 : Int) (x19 : List Int) (x20 : Int) (x21 : Int) (x26 : List Int) (x27 : Int) (x28 : Int) : Option (((List Int) × Unit) × (Unit × Unit × Unit)) := cutF cx 66 7 Tryd.f66 k (x1, x5, x6, x7, x8, x19, x20, x21, x26, x27, x28, ())
/-! (loop.example/jetton/impl.limbs).text -/
noncomputable def F70 (k : Nat) (a0 : List Int) : Option ((ByteArray × Unit) × (Unit × Unit)) := callF cx k 70 (a0, ())
/-! loop.example/jetton/spec.l1Ok -/
noncomputable def F71 (k : Nat) (a0_0 : Bool) (a0_1 : List Int) : Option ((Bool × Unit) × ((Unit × Unit × Unit) × Unit)) := callF cx k 71 ((a0_0, a0_1, ()), ())
noncomputable def F71c4 (k : Nat) (x1_0 : Bool) (x1_1 : List Int) (x3 : Int) : Option ((Bool × Unit) × ((Unit × Unit × Unit) × Unit)) := cutF cx 71 4 Tryd.f71 k ((x1_0, x1_1, ()), x3, ())
/-! loop.example/jetton/impl.BigOk$1 -/
noncomputable def F74 (k : Nat) (a0 : Int) : Option ((Bool × Unit) × (Unit × Unit)) := callF cx k 74 (a0, ())
/-! loop.example/jetton/impl.in -/
noncomputable def F75 (k : Nat) (a0 : Int) (a1 : Int) (a2 : Int) : Option ((Bool × Unit) × (Unit × Unit × Unit × Unit)) := callF cx k 75 (a0, a1, a2, ())
/-! (loop.example/jetton/impl.signed).sign -/
noncomputable def F80 (k : Nat) (a0_0 : Bool) (a0_1 : List Int) : Option ((Int × Unit) × ((Unit × Unit × Unit) × Unit)) := callF cx k 80 ((a0_0, a0_1, ()), ())
/-! loop.example/jetton/laws.szIntS -/
noncomputable def F82 (k : Nat) (a0 : List Int) (a1 : Int) : Option ((Int × Unit) × (Unit × Unit × Unit)) := callF cx k 82 (a0, a1, ())
/-! loop.example/jetton/spec.l1Long -/
noncomputable def F83 (k : Nat) (a0 : List Int) : Option ((Int × Unit) × (Unit × Unit)) := callF cx k 83 (a0, ())
/-! loop.example/jetton/spec.l2Greater -/
noncomputable def F84 (k : Nat) (a0 : Int) (a1 : Int) : Option ((Int × Unit) × (Unit × Unit × Unit)) := callF cx k 84 (a0, a1, ())
/-! loop.example/jetton/spec.l2At -/
noncomputable def F85 (k : Nat) (a0_0 : Bool) (a0_1 : List Int) (a0_2 : Int) (a1 : Int) : Option (((List Int) × Unit) × ((Unit × Unit × Unit × Unit) × Unit × Unit)) := callF cx k 85 ((a0_0, a0_1, a0_2, ()), a1, ())
/-! loop.example/jetton/spec.l1Cmp -/
noncomputable def F86 (k : Nat) (a0_0 : Bool) (a0_1 : List Int) (a1_0 : Bool) (a1_1 : List Int) : Option ((Int × Unit) × ((Unit × Unit × Unit) × (Unit × Unit × Unit) × Unit)) := callF cx k 86 ((a0_0, a0_1, ()), (a1_0, a1_1, ()), ())
/-! loop.example/jetton/laws.toIntS -/
noncomputable def F87 (k : Nat) (a0 : List Int) : Option (((List Int) × Unit) × (Unit × Unit)) := callF cx k 87 (a0, ())
noncomputable def F87c3 (k : Nat) (x0 : List Int) (x3 : List Int) (x4 : Int) : Option (((List Int) × Unit) × (Unit × Unit)) := cutF cx 87 3 Tryd.f87 k (x0, x3, x4, ())
/-! loop.example/jetton/laws.eqIntS -/
noncomputable def F88 (k : Nat) (a0 : List Int) (a1 : List Int) : Option ((Bool × Unit) × (Unit × Unit × Unit)) := callF cx k 88 (a0, a1, ())
noncomputable def F88c4 (k : Nat) (x0 : List Int) (x1 : List Int) (x5 : Int) : Option ((Bool × Unit) × (Unit × Unit × Unit)) := cutF cx 88 4 Tryd.f88 k (x0, x1, x5, ())
/-! loop.example/jetton/spec.l1Trim -/
noncomputable def F90 (k : Nat) (a0 : List Int) : Option (((List Int) × Unit) × (Unit × Unit)) := callF cx k 90 (a0, ())
noncomputable def F90c2 (k : Nat) (x0 : List Int) (x3 : Int) : Option (((List Int) × Unit) × (Unit × Unit)) := cutF cx 90 2 Tryd.f90 k (x0, x3, ())
/-! (loop.example/jetton/impl.limbs).digits -/
noncomputable def F91 (k : Nat) (a0 : List Int) : Option ((Int × Unit) × (Unit × Unit)) := callF cx k 91 (a0, ())
/-! (loop.example/jetton/impl.limbs).trim -/
noncomputable def F93 (k : Nat) (a0 : List Int) : Option (((List Int) × Unit) × (Unit × Unit)) := callF cx k 93 (a0, ())
noncomputable def F93c1 (k : Nat) (x0 : List Int) : Option (((List Int) × Unit) × (Unit × Unit)) := cutF cx 93 1 Tryd.f93 k (x0, ())
/-! (loop.example/jetton/impl.limbs).cmp -/
noncomputable def F95 (k : Nat) (a0 : List Int) (a1 : List Int) : Option ((Int × Unit) × (Unit × Unit × Unit)) := callF cx k 95 (a0, a1, ())
noncomputable def F95c4 (k : Nat) (x0 : List Int) (x1 : List Int) (x5 : Int) : Option ((Int × Unit) × (Unit × Unit × Unit)) := cutF cx 95 4 Tryd.f95 k (x0, x1, x5, ())
/-! (loop.example/jetton/impl.limbs).sub -/
noncomputable def F96 (k : Nat) (a0 : List Int) (a1 : List Int) : Option (((List Int) × Unit) × (Unit × Unit × Unit)) := callF cx k 96 (a0, a1, ())
noncomputable def F96c3 (k : Nat) (x5 : List Int) (x11 : List Int) (x12 : Int) (x13 : Int) : Option (((List Int) × Unit) × (Unit × Unit × Unit)) := cutF cx 96 3 Tryd.f96 k (x5, x11, x12, x13, ())
noncomputable def F96c8 (k : Nat) (x5 : List Int) (x27 : Int) (x28 : Int) : Option (((List Int) × Unit) × (Unit × Unit × Unit)) := cutF cx 96 8 Tryd.f96 k (x5, x27, x28, ())
noncomputable def F96c13 (k : Nat) (x5 : List Int) (x27 : Int) (x28 : Int) : Option (((List Int) × Unit) × (Unit × Unit × Unit)) := cutF cx 96 13 Tryd.f96 k (x5, x27, x28, ())
/-! loop.example/jetton/impl.clone[int] -/
noncomputable def F97 (k : Nat) (a0 : List Int) : Option (((List Int) × Unit) × (Unit × Unit)) := callF cx k 97 (a0, ())
/-! loop.example/jetton/laws.markIntS -/
noncomputable def F98 (k : Nat) (a0 : List Int) (a1 : Int) : Option ((Int × Unit) × ((List Int) × Unit × Unit)) := callF cx k 98 (a0, a1, ())
noncomputable def F98c2 (k : Nat) (x0 : List Int) (x1 : Int) (x5 : Int) : Option ((Int × Unit) × ((List Int) × Unit × Unit)) := cutF cx 98 2 Tryd.f98 k (x0, x1, x5, ())
/-! loop.example/jetton/laws.heldIntS -/
noncomputable def F99 (k : Nat) (a0 : List Int) (a1 : Int) : Option ((Int × Unit) × (Unit × Unit × Unit)) := callF cx k 99 (a0, a1, ())
noncomputable def F99c2 (k : Nat) (x0 : List Int) (x1 : Int) (x5 : Int) : Option ((Int × Unit) × (Unit × Unit × Unit)) := cutF cx 99 2 Tryd.f99 k (x0, x1, x5, ())
/-! loop.example/jetton/spec.l1Add -/
noncomputable def F100 (k : Nat) (a0 : Bool) (a1 : List Int) (a2 : Bool) (a3 : List Int) : Option ((Bool × (List Int) × Unit) × (Unit × Unit × Unit × Unit × Unit)) := callF cx k 100 (a0, a1, a2, a3, ())
/-! loop.example/jetton/spec.l2Make -/
noncomputable def F101 (k : Nat) (a0 : Bool) (a1 : List Int) (a2 : Int) : Option (((Bool × (List Int) × Int × Unit) × Int × Unit) × (Unit × Unit × Unit × Unit)) := callF cx k 101 (a0, a1, a2, ())
/-! (loop.example/jetton/impl.limbs).add -/
noncomputable def F102 (k : Nat) (a0 : List Int) (a1 : List Int) : Option (((List Int) × Unit) × (Unit × Unit × Unit)) := callF cx k 102 (a0, a1, ())
noncomputable def F102c4 (k : Nat) (x5 : List Int) (x19 : List Int) (x20 : Int) (x21 : Int) : Option (((List Int) × Unit) × (Unit × Unit × Unit)) := cutF cx 102 4 Tryd.f102 k (x5, x19, x20, x21, ())
noncomputable def F102c9 (k : Nat) (x5 : List Int) (x36 : Int) (x37 : Int) : Option (((List Int) × Unit) × (Unit × Unit × Unit)) := cutF cx 102 9 Tryd.f102 k (x5, x36, x37, ())
/-! loop.example/jetton/spec.l1MulAbs -/
noncomputable def F103 (k : Nat) (a0 : List Int) (a1 : List Int) : Option (((List Int) × Unit) × (Unit × Unit × Unit)) := callF cx k 103 (a0, a1, ())
noncomputable def F103c3 (k : Nat) (x0 : List Int) (x1 : List Int) (x5 : List Int) (x6 : Int) : Option (((List Int) × Unit) × (Unit × Unit × Unit)) := cutF cx 103 3 Tryd.f103 k (x0, x1, x5, x6, ())
noncomputable def F103c7 (k : Nat) (x0 : List Int) (x1 : List Int) (x5 : List Int) (x6 : Int) (x7 : Int) (x8 : Int) : Option (((List Int) × Unit) × (Unit × Unit × Unit)) := cutF cx 103 7 Tryd.f103 k (x0, x1, x5, x6, x7, x8, ())
/-! loop.example/jetton/spec.l1TenAbs -/
noncomputable def F105 (k : Nat) (a0 : Int) : Option (((List Int) × Unit) × (Unit × Unit)) := callF cx k 105 (a0, ())
noncomputable def F105c2 (k : Nat) (x0 : Int) (x3 : List Int) : Option (((List Int) × Unit) × (Unit × Unit)) := cutF cx 105 2 Tryd.f105 k (x0, x3, ())
noncomputable def F105c6 (k : Nat) (x0 : Int) (x3 : List Int) (x4 : Int) : Option (((List Int) × Unit) × (Unit × Unit)) := cutF cx 105 6 Tryd.f105 k (x0, x3, x4, ())
/-! loop.example/jetton/spec.l1Figures -/
noncomputable def F114 (k : Nat) (a0 : List Int) : Option ((ByteArray × Unit) × (Unit × Unit)) := callF cx k 114 (a0, ())
noncomputable def F114c5 (k : Nat) (x0 : List Int) (x3 : ByteArray) (x4 : Int) : Option ((ByteArray × Unit) × (Unit × Unit)) := cutF cx 114 5 Tryd.f114 k (x0, x3, x4, ())
/-! loop.example/jetton/spec.l1CmpAbs -/
noncomputable def F118 (k : Nat) (a0 : List Int) (a1 : List Int) : Option ((Int × Unit) × (Unit × Unit × Unit)) := callF cx k 118 (a0, a1, ())
noncomputable def F118c6 (k : Nat) (x0 : List Int) (x1 : List Int) (x5 : Int) : Option ((Int × Unit) × (Unit × Unit × Unit)) := cutF cx 118 6 Tryd.f118 k (x0, x1, x5, ())
/-! loop.example/jetton/spec.l1SubAbs -/
noncomputable def F120 (k : Nat) (a0 : List Int) (a1 : List Int) : Option (((List Int) × Unit) × (Unit × Unit × Unit)) := callF cx k 120 (a0, a1, ())
noncomputable def F120c4 (k : Nat) (x0 : List Int) (x1 : List Int) (x5 : List Int) (x6 : Int) (x7 : Int) : Option (((List Int) × Unit) × (Unit × Unit × Unit)) := cutF cx 120 4 Tryd.f120 k (x0, x1, x5, x6, x7, ())
noncomputable def F120c11 (k : Nat) (x0 : List Int) (x1 : List Int) (x5 : List Int) (x6 : Int) (x7 : Int) (x8 : Int) : Option (((List Int) × Unit) × (Unit × Unit × Unit)) := cutF cx 120 11 Tryd.f120 k (x0, x1, x5, x6, x7, x8, ())
/-! slices.Clone[loop.example/jetton/impl.limbs,int] -/
noncomputable def F122 (k : Nat) (a0 : List Int) : Option (((List Int) × Unit) × (Unit × Unit)) := callF cx k 122 (a0, ())
/-! slices.Clip[[]int,int] -/
noncomputable def F123 (k : Nat) (a0 : List Int) : Option (((List Int) × Unit) × (Unit × Unit)) := callF cx k 123 (a0, ())
/-! slices.Clone[[]int,int] -/
noncomputable def F124 (k : Nat) (a0 : List Int) : Option (((List Int) × Unit) × (Unit × Unit)) := callF cx k 124 (a0, ())
/-! loop.example/jetton/spec.l1AddAbs -/
noncomputable def F125 (k : Nat) (a0 : List Int) (a1 : List Int) : Option (((List Int) × Unit) × (Unit × Unit × Unit)) := callF cx k 125 (a0, a1, ())
noncomputable def F125c4 (k : Nat) (x0 : List Int) (x1 : List Int) (x5 : List Int) (x6 : Int) (x7 : Int) : Option (((List Int) × Unit) × (Unit × Unit × Unit)) := cutF cx 125 4 Tryd.f125 k (x0, x1, x5, x6, x7, ())
/-! loop.example/jetton/spec.l1Limb -/
noncomputable def F126 (k : Nat) (a0 : List Int) (a1 : Int) : Option ((Int × Unit) × (Unit × Unit × Unit)) := callF cx k 126 (a0, a1, ())
/-! loop.example/jetton/spec.l1Dec -/
noncomputable def F138 (k : Nat) (a0 : Int) : Option ((ByteArray × Unit) × (Unit × Unit)) := callF cx k 138 (a0, ())
/-! loop.example/jetton/spec.l1Wide -/
noncomputable def F139 (k : Nat) (a0 : Int) (a1 : Int) : Option ((ByteArray × Unit) × (Unit × Unit × Unit)) := callF cx k 139 (a0, a1, ())
noncomputable def F139c2 (k : Nat) (x1 : Int) (x5 : ByteArray) : Option ((ByteArray × Unit) × (Unit × Unit × Unit)) := cutF cx 139 2 Tryd.f139 k (x1, x5, ())
/-! slices.ContainsFunc[[]int,int] -/
noncomputable def F75073 (k : Nat) (a0 : List Int) : Option ((Bool × Unit) × (Unit × Unit × Unit)) := callF cx k 75073 (a0, (()), ())
/-! slices.IndexFunc[[]int,int] -/
noncomputable def F75115 (k : Nat) (a0 : List Int) : Option ((Int × Unit) × (Unit × Unit × Unit)) := callF cx k 75115 (a0, (()), ())
noncomputable def F75115c2 (k : Nat) (x0 : List Int) (x7 : Int) (x8 : Int) : Option ((Int × Unit) × (Unit × Unit × Unit)) := cutF cx 75115 2 Tryd.f115 k (x0, (()), x7, x8, ())
theorem F3_eq (k : Nat) (a0_0 : Bool) (a0_1 : List Int) (a0_2 : Int) (a1_0 : Bool) (a1_1 : List Int) (a1_2 : Int) : F3 (k + 2) a0_0 a0_1 a0_2 a1_0 a1_1 a1_2 =
    (F11 k a0_0 a0_1 a0_2 (1048576 : Int)).bind fun r1 => if (decide (r1.1.1 < (0 : Int))) = true then some ((true, ()), (((), (), (), ()), ((), (), (), ()), ())) else (F11 k a1_0 a1_1 a1_2 r1.1.1).bind fun r2 => if (decide (r2.1.1 < (0 : Int))) = true then some ((true, ()), (((), (), (), ()), ((), (), (), ()), ())) else (F13 k a0_0 a0_1 a0_2).bind fun r3 => (F13 k a1_0 a1_1 a1_2).bind fun r4 => (F12 k r3.1.1.1 r3.1.1.2.1 r3.1.1.2.2.1 r4.1.1.1 r4.1.1.2.1 r4.1.1.2.2.1).bind fun r5 => (F13 k a0_0 a0_1 a0_2).bind fun r6 => (F13 k a1_0 a1_1 a1_2).bind fun r7 => (F14 k r6.1.1.1 r6.1.1.2.1 r6.1.1.2.2.1 r7.1.1.1 r7.1.1.2.1 r7.1.1.2.2.1).bind fun r8 => if (r8.1.1 != r5.1.1) = true then some ((false, ()), (((), (), (), ()), ((), (), (), ()), ())) else (F13 k a0_0 a0_1 a0_2).bind fun r9 => (F15 k r6.1.1.1 r6.1.1.2.1 r6.1.1.2.2.1 r9.1.1.1 r9.1.1.2.1 r9.1.1.2.2.1).bind fun r10 => if (!r10.1.1) = true then some ((false, ()), (((), (), (), ()), ((), (), (), ()), ())) else (F13 k a1_0 a1_1 a1_2).bind fun r11 => (F15 k r7.1.1.1 r7.1.1.2.1 r7.1.1.2.2.1 r11.1.1.1 r11.1.1.2.1 r11.1.1.2.2.1).bind fun r12 => if (!r12.1.1) = true then some ((false, ()), (((), (), (), ()), ((), (), (), ()), ())) else some ((true, ()), (((), (), (), ()), ((), (), (), ()), ())) := by kernel_rfl
theorem F5_eq (k : Nat) (a0_0 : Bool) (a0_1 : List Int) (a0_2 : Int) (a1_0 : Bool) (a1_1 : List Int) (a1_2 : Int) : F5 (k + 2) a0_0 a0_1 a0_2 a1_0 a1_1 a1_2 =
    (F11 k a0_0 a0_1 a0_2 (1048576 : Int)).bind fun r1 => if (decide (r1.1.1 < (0 : Int))) = true then some ((true, ()), (((), (), (), ()), ((), (), (), ()), ())) else (F11 k a1_0 a1_1 a1_2 r1.1.1).bind fun r2 => if (decide (r2.1.1 < (0 : Int))) = true then some ((true, ()), (((), (), (), ()), ((), (), (), ()), ())) else (F13 k a0_0 a0_1 a0_2).bind fun r3 => (F13 k a1_0 a1_1 a1_2).bind fun r4 => (F20 k r3.1.1.1 r3.1.1.2.1 r3.1.1.2.2.1 r4.1.1.1 r4.1.1.2.1 r4.1.1.2.2.1).bind fun r5 => (F13 k a0_0 a0_1 a0_2).bind fun r6 => (F13 k a1_0 a1_1 a1_2).bind fun r7 => (F21 k r6.1.1.1 r6.1.1.2.1 r6.1.1.2.2.1 r7.1.1.1 r7.1.1.2.1 r7.1.1.2.2.1).bind fun r8 => (F15 k r8.1.1.1 r8.1.1.2.1 r8.1.1.2.2.1 r5.1.1.1 r5.1.1.2.1 r5.1.1.2.2.1).bind fun r9 => if (!r9.1.1) = true then some ((false, ()), (((), (), (), ()), ((), (), (), ()), ())) else if (r8.1.2.1 != r5.1.2.1) = true then some ((false, ()), (((), (), (), ()), ((), (), (), ()), ())) else (F13 k a0_0 a0_1 a0_2).bind fun r10 => (F15 k r6.1.1.1 r6.1.1.2.1 r6.1.1.2.2.1 r10.1.1.1 r10.1.1.2.1 r10.1.1.2.2.1).bind fun r11 => if (!r11.1.1) = true then some ((false, ()), (((), (), (), ()), ((), (), (), ()), ())) else (F13 k a1_0 a1_1 a1_2).bind fun r12 => (F15 k r7.1.1.1 r7.1.1.2.1 r7.1.1.2.2.1 r12.1.1.1 r12.1.1.2.1 r12.1.1.2.2.1).bind fun r13 => if (!r13.1.1) = true then some ((false, ()), (((), (), (), ()), ((), (), (), ()), ())) else (F18 k r6.1.1.1 r6.1.1.2.1 r6.1.1.2.2.1 (1 : Int)).bind fun r14 => (F18 k r7.1.1.1 r7.1.1.2.1 r7.1.1.2.2.1 r14.1.1).bind fun r15 => if (decide (r15.1.1 < (0 : Int))) = true then some ((false, ()), (((), (), (), ()), ((), (), (), ()), ())) else (F15 k r8.1.1.1 r8.1.1.2.1 r8.1.1.2.2.1 r5.1.1.1 r5.1.1.2.1 r5.1.1.2.2.1).bind fun r16 => if (!r16.1.1) = true then some ((false, ()), (((), (), (), ()), ((), (), (), ()), ())) else if (r8.1.2.1 != r5.1.2.1) = true then some ((false, ()), (((), (), (), ()), ((), (), (), ()), ())) else (F18 k r8.1.1.1 r8.1.1.2.1 r8.1.1.2.2.1 (1 : Int)).bind fun r17 => (F19 k r8.1.1.1 r17.2.1.2.1 r8.1.1.2.2.1 (1 : Int)).bind fun r18 => if (decide (r18.1.1 < (0 : Int))) = true then some ((false, ()), (((), (), (), ()), ((), (), (), ()), ())) else if (r18.1.1 != r17.1.1) = true then some ((false, ()), (((), (), (), ()), ((), (), (), ()), ())) else (F13 k a0_0 a0_1 a0_2).bind fun r19 => (F13 k a1_0 a1_1 a1_2).bind fun r20 => (F21 k r19.1.1.1 r19.1.1.2.1 r19.1.1.2.2.1 r20.1.1.1 r20.1.1.2.1 r20.1.1.2.2.1).bind fun r21 => (F15 k r21.1.1.1 r21.1.1.2.1 r21.1.1.2.2.1 r5.1.1.1 r5.1.1.2.1 r5.1.1.2.2.1).bind fun r22 => if (!r22.1.1) = true then some ((false, ()), (((), (), (), ()), ((), (), (), ()), ())) else if (r21.1.2.1 != r5.1.2.1) = true then some ((false, ()), (((), (), (), ()), ((), (), (), ()), ())) else (F19 k r8.1.1.1 r17.2.1.2.1 r8.1.1.2.2.1 (1 : Int)).bind fun r23 => if (decide (r23.1.1 < (0 : Int))) = true then some ((false, ()), (((), (), (), ()), ((), (), (), ()), ())) else if (r23.1.1 != r17.1.1) = true then some ((false, ()), (((), (), (), ()), ((), (), (), ()), ())) else some ((true, ()), (((), (), (), ()), ((), (), (), ()), ())) := by kernel_rfl
theorem F6_eq (k : Nat) (a0_0 : Bool) (a0_1 : List Int) (a0_2 : Int) (a1_0 : Bool) (a1_1 : List Int) (a1_2 : Int) : F6 (k + 2) a0_0 a0_1 a0_2 a1_0 a1_1 a1_2 =
    (F11 k a0_0 a0_1 a0_2 (1048576 : Int)).bind fun r1 => if (decide (r1.1.1 < (0 : Int))) = true then some ((true, ()), (((), (), (), ()), ((), (), (), ()), ())) else (F11 k a1_0 a1_1 a1_2 r1.1.1).bind fun r2 => if (decide (r2.1.1 < (0 : Int))) = true then some ((true, ()), (((), (), (), ()), ((), (), (), ()), ())) else (F13 k a0_0 a0_1 a0_2).bind fun r3 => (F13 k a1_0 a1_1 a1_2).bind fun r4 => (F22 k r3.1.1.1 r3.1.1.2.1 r3.1.1.2.2.1 r4.1.1.1 r4.1.1.2.1 r4.1.1.2.2.1).bind fun r5 => (F13 k a0_0 a0_1 a0_2).bind fun r6 => (F13 k a1_0 a1_1 a1_2).bind fun r7 => (F23 k r6.1.1.1 r6.1.1.2.1 r6.1.1.2.2.1 r7.1.1.1 r7.1.1.2.1 r7.1.1.2.2.1).bind fun r8 => (F15 k r8.1.1.1 r8.1.1.2.1 r8.1.1.2.2.1 r5.1.1.1 r5.1.1.2.1 r5.1.1.2.2.1).bind fun r9 => if (!r9.1.1) = true then some ((false, ()), (((), (), (), ()), ((), (), (), ()), ())) else if (r8.1.2.1 != r5.1.2.1) = true then some ((false, ()), (((), (), (), ()), ((), (), (), ()), ())) else (F13 k a0_0 a0_1 a0_2).bind fun r10 => (F15 k r6.1.1.1 r6.1.1.2.1 r6.1.1.2.2.1 r10.1.1.1 r10.1.1.2.1 r10.1.1.2.2.1).bind fun r11 => if (!r11.1.1) = true then some ((false, ()), (((), (), (), ()), ((), (), (), ()), ())) else (F13 k a1_0 a1_1 a1_2).bind fun r12 => (F15 k r7.1.1.1 r7.1.1.2.1 r7.1.1.2.2.1 r12.1.1.1 r12.1.1.2.1 r12.1.1.2.2.1).bind fun r13 => if (!r13.1.1) = true then some ((false, ()), (((), (), (), ()), ((), (), (), ()), ())) else (F18 k r6.1.1.1 r6.1.1.2.1 r6.1.1.2.2.1 (1 : Int)).bind fun r14 => (F18 k r7.1.1.1 r7.1.1.2.1 r7.1.1.2.2.1 r14.1.1).bind fun r15 => if (decide (r15.1.1 < (0 : Int))) = true then some ((false, ()), (((), (), (), ()), ((), (), (), ()), ())) else (F15 k r8.1.1.1 r8.1.1.2.1 r8.1.1.2.2.1 r5.1.1.1 r5.1.1.2.1 r5.1.1.2.2.1).bind fun r16 => if (!r16.1.1) = true then some ((false, ()), (((), (), (), ()), ((), (), (), ()), ())) else if (r8.1.2.1 != r5.1.2.1) = true then some ((false, ()), (((), (), (), ()), ((), (), (), ()), ())) else (F18 k r8.1.1.1 r8.1.1.2.1 r8.1.1.2.2.1 (1 : Int)).bind fun r17 => (F19 k r8.1.1.1 r17.2.1.2.1 r8.1.1.2.2.1 (1 : Int)).bind fun r18 => if (decide (r18.1.1 < (0 : Int))) = true then some ((false, ()), (((), (), (), ()), ((), (), (), ()), ())) else if (r18.1.1 != r17.1.1) = true then some ((false, ()), (((), (), (), ()), ((), (), (), ()), ())) else (F13 k a0_0 a0_1 a0_2).bind fun r19 => (F13 k a1_0 a1_1 a1_2).bind fun r20 => (F23 k r19.1.1.1 r19.1.1.2.1 r19.1.1.2.2.1 r20.1.1.1 r20.1.1.2.1 r20.1.1.2.2.1).bind fun r21 => (F15 k r21.1.1.1 r21.1.1.2.1 r21.1.1.2.2.1 r5.1.1.1 r5.1.1.2.1 r5.1.1.2.2.1).bind fun r22 => if (!r22.1.1) = true then some ((false, ()), (((), (), (), ()), ((), (), (), ()), ())) else if (r21.1.2.1 != r5.1.2.1) = true then some ((false, ()), (((), (), (), ()), ((), (), (), ()), ())) else (F19 k r8.1.1.1 r17.2.1.2.1 r8.1.1.2.2.1 (1 : Int)).bind fun r23 => if (decide (r23.1.1 < (0 : Int))) = true then some ((false, ()), (((), (), (), ()), ((), (), (), ()), ())) else if (r23.1.1 != r17.1.1) = true then some ((false, ()), (((), (), (), ()), ((), (), (), ()), ())) else some ((true, ()), (((), (), (), ()), ((), (), (), ()), ())) := by kernel_rfl
theorem F11_eq (k : Nat) (a0_0 : Bool) (a0_1 : List Int) (a0_2 : Int) (a1 : Int) : F11 (k + 2) a0_0 a0_1 a0_2 a1 =
    (F38 k a0_0 a0_1 a1).bind fun r1 => if (decide (r1.1.1 < (0 : Int))) = true then some (((-1 : Int), ()), (((), (), (), ()), (), ())) else some ((r1.1.1, ()), (((), (), (), ()), (), ())) := by kernel_rfl
theorem F12_eq (k : Nat) (a0_0 : Bool) (a0_1 : List Int) (a0_2 : Int) (a1_0 : Bool) (a1_1 : List Int) (a1_2 : Int) : F12 (k + 2) a0_0 a0_1 a0_2 a1_0 a1_1 a1_2 =
    (F39 k a0_0 a0_1 a0_2).bind fun r1 => if (!r1.1.1) = true then some (((2 : Int), ()), (((), (), (), ()), ((), (), (), ()), ())) else (F39 k a1_0 a1_1 a1_2).bind fun r2 => if (!r2.1.1) = true then some (((2 : Int), ()), (((), (), (), ()), ((), (), (), ()), ())) else (F40 k a0_0 a0_1 a0_2 a1_0 a1_1 a1_2).bind fun r3 => some ((r3.1.1, ()), (((), (), (), ()), ((), (), (), ()), ())) := by kernel_rfl
theorem F13_eq (k : Nat) (a0_0 : Bool) (a0_1 : List Int) (a0_2 : Int) : F13 (k + 2) a0_0 a0_1 a0_2 =
    (F41 k a0_0 a0_1).bind fun r1 => some (((r1.1.1.1, r1.1.1.2.1, a0_2, ()), ()), (((), (), (), ()), ())) := by kernel_rfl
theorem F14_eq (k : Nat) (a0_0 : Bool) (a0_1 : List Int) (a0_2 : Int) (a1_0 : Bool) (a1_1 : List Int) (a1_2 : Int) : F14 (k + 2) a0_0 a0_1 a0_2 a1_0 a1_1 a1_2 =
    (F42 k a0_0 a0_1 a0_2 a1_0 a1_1 a1_2).bind fun r1 => if (!r1.1.1) = true then some (((2 : Int), ()), (((), (), (), ()), ((), (), (), ()), ())) else (F43 k a0_0 a0_1 a0_2 a1_0 a1_1 a1_2).bind fun r2 => some ((r2.1.1, ()), (((), (), (), ()), ((), (), (), ()), ())) := by kernel_rfl
theorem F15_eq (k : Nat) (a0_0 : Bool) (a0_1 : List Int) (a0_2 : Int) (a1_0 : Bool) (a1_1 : List Int) (a1_2 : Int) : F15 (k + 2) a0_0 a0_1 a0_2 a1_0 a1_1 a1_2 =
    (F44 k a0_0 a0_1 a1_0 a1_1).bind fun r1 => if (!r1.1.1) = true then some ((false, ()), (((), (), (), ()), ((), (), (), ()), ())) else if (a0_2 != a1_2) = true then some ((false, ()), (((), (), (), ()), ((), (), (), ()), ())) else some ((true, ()), (((), (), (), ()), ((), (), (), ()), ())) := by kernel_rfl
theorem F18_eq (k : Nat) (a0_0 : Bool) (a0_1 : List Int) (a0_2 : Int) (a1 : Int) : F18 (k + 2) a0_0 a0_1 a0_2 a1 =
    (F49 k a0_0 a0_1 a1).bind fun r1 => some ((r1.1.1, ()), (((), r1.2.1.2.1, (), ()), (), ())) := by kernel_rfl
theorem F19_eq (k : Nat) (a0_0 : Bool) (a0_1 : List Int) (a0_2 : Int) (a1 : Int) : F19 (k + 2) a0_0 a0_1 a0_2 a1 =
    (F50 k a0_0 a0_1 a1).bind fun r1 => if (decide (r1.1.1 < (0 : Int))) = true then some (((-1 : Int), ()), (((), (), (), ()), (), ())) else some ((r1.1.1, ()), (((), (), (), ()), (), ())) := by kernel_rfl
theorem F20_eq (k : Nat) (a0_0 : Bool) (a0_1 : List Int) (a0_2 : Int) (a1_0 : Bool) (a1_1 : List Int) (a1_2 : Int) : F20 (k + 2) a0_0 a0_1 a0_2 a1_0 a1_1 a1_2 =
    (F39 k a0_0 a0_1 a0_2).bind fun r1 => if (!r1.1.1) = true then some (((false, ([] : List Int), (0 : Int), ()), (1 : Int), ()), (((), (), (), ()), ((), (), (), ()), ())) else (F39 k a1_0 a1_1 a1_2).bind fun r2 => if (!r2.1.1) = true then some (((false, ([] : List Int), (0 : Int), ()), (1 : Int), ()), (((), (), (), ()), ((), (), (), ()), ())) else (F51 k a0_0 a0_1 a0_2 a1_0 a1_1 a1_2).bind fun r3 => some (((r3.1.1.1, r3.1.1.2.1, r3.1.1.2.2.1, ()), r3.1.2.1, ()), (((), (), (), ()), ((), (), (), ()), ())) := by kernel_rfl
theorem F21_eq (k : Nat) (a0_0 : Bool) (a0_1 : List Int) (a0_2 : Int) (a1_0 : Bool) (a1_1 : List Int) (a1_2 : Int) : F21 (k + 2) a0_0 a0_1 a0_2 a1_0 a1_1 a1_2 =
    (F42 k a0_0 a0_1 a0_2 a1_0 a1_1 a1_2).bind fun r1 => if (!r1.1.1) = true then some (((false, ([] : List Int), (0 : Int), ()), (1 : Int), ()), (((), (), (), ()), ((), (), (), ()), ())) else (F53 k a0_0 a0_1 a0_2 (if a1_2 > a0_2 then a1_2 else a0_2)).bind fun r2 => (F53 k a1_0 a1_1 a1_2 (if a1_2 > a0_2 then a1_2 else a0_2)).bind fun r3 => (F54 k r2.1.1.1 r2.1.1.2.1 r3.1.1.1 r3.1.1.2.1).bind fun r4 => (F52 k r4.1.1.1 r4.1.1.2.1 (if a1_2 > a0_2 then a1_2 else a0_2)).bind fun r5 => some (((r5.1.1.1, r5.1.1.2.1, r5.1.1.2.2.1, ()), r5.1.2.1, ()), (((), (), (), ()), ((), (), (), ()), ())) := by kernel_rfl
theorem F22_eq (k : Nat) (a0_0 : Bool) (a0_1 : List Int) (a0_2 : Int) (a1_0 : Bool) (a1_1 : List Int) (a1_2 : Int) : F22 (k + 2) a0_0 a0_1 a0_2 a1_0 a1_1 a1_2 =
    (F39 k a0_0 a0_1 a0_2).bind fun r1 => if (!r1.1.1) = true then some (((false, ([] : List Int), (0 : Int), ()), (1 : Int), ()), (((), (), (), ()), ((), (), (), ()), ())) else (F39 k a1_0 a1_1 a1_2).bind fun r2 => if (!r2.1.1) = true then some (((false, ([] : List Int), (0 : Int), ()), (1 : Int), ()), (((), (), (), ()), ((), (), (), ()), ())) else (F55 k a1_0 a1_1 a1_2).bind fun r3 => (F51 k a0_0 a0_1 a0_2 r3.1.1.1 r3.1.1.2.1 r3.1.1.2.2.1).bind fun r4 => some (((r4.1.1.1, r4.1.1.2.1, r4.1.1.2.2.1, ()), r4.1.2.1, ()), (((), (), (), ()), ((), (), (), ()), ())) := by kernel_rfl
theorem F23_eq (k : Nat) (a0_0 : Bool) (a0_1 : List Int) (a0_2 : Int) (a1_0 : Bool) (a1_1 : List Int) (a1_2 : Int) : F23 (k + 2) a0_0 a0_1 a0_2 a1_0 a1_1 a1_2 =
    (F42 k a0_0 a0_1 a0_2 a1_0 a1_1 a1_2).bind fun r1 => if (!r1.1.1) = true then some (((false, ([] : List Int), (0 : Int), ()), (1 : Int), ()), (((), (), (), ()), ((), (), (), ()), ())) else (F53 k a0_0 a0_1 a0_2 (if a1_2 > a0_2 then a1_2 else a0_2)).bind fun r2 => (F53 k a1_0 a1_1 a1_2 (if a1_2 > a0_2 then a1_2 else a0_2)).bind fun r3 => (F56 k r3.1.1.1 r3.1.1.2.1).bind fun r4 => (F54 k r2.1.1.1 r2.1.1.2.1 r4.1.1.1 r4.1.1.2.1).bind fun r5 => (F52 k r5.1.1.1 r5.1.1.2.1 (if a1_2 > a0_2 then a1_2 else a0_2)).bind fun r6 => some (((r6.1.1.1, r6.1.1.2.1, r6.1.1.2.2.1, ()), r6.1.2.1, ()), (((), (), (), ()), ((), (), (), ()), ())) := by kernel_rfl
theorem F33_eq (k : Nat) (a0_0 : Bool) (a0_1 : List Int) : F33 (k + 2) a0_0 a0_1 =
    if (decide ((a0_1.length : Int) ≤ (16 : Int))) = true then if ((a0_1.length : Int) == (0 : Int)) = true then if (!a0_0) = true then (F75073 k a0_1).bind fun r1 => some (((!r1.1.1), ()), (((), (), ()), ())) else if (decide ((a0_1.length : Int) > (0 : Int))) = true then if (decide (0 ≤ (IntKind.i64.wrap ((a0_1.length : Int) - (1 : Int))))) = true then (a0_1[(IntKind.i64.wrap ((a0_1.length : Int) - (1 : Int))).toNat]?).bind fun y2 => if (y2 != (0 : Int)) = true then (F75073 k a0_1).bind fun r3 => some (((!r3.1.1), ()), (((), (), ()), ())) else some ((false, ()), (((), (), ()), ())) else none else some ((false, ()), (((), (), ()), ())) else if (decide ((a0_1.length : Int) > (0 : Int))) = true then if (decide (0 ≤ (IntKind.i64.wrap ((a0_1.length : Int) - (1 : Int))))) = true then (a0_1[(IntKind.i64.wrap ((a0_1.length : Int) - (1 : Int))).toNat]?).bind fun y4 => if (y4 != (0 : Int)) = true then (F75073 k a0_1).bind fun r5 => some (((!r5.1.1), ()), (((), (), ()), ())) else some ((false, ()), (((), (), ()), ())) else none else some ((false, ()), (((), (), ()), ())) else some ((false, ()), (((), (), ()), ())) := by kernel_rfl
theorem F38_eq (k : Nat) (a0_0 : Bool) (a0_1 : List Int) (a1 : Int) : F38 (k + 2) a0_0 a0_1 a1 =
    (F82 k a0_1 a1).bind fun r1 => if (decide (r1.1.1 < (0 : Int))) = true then some (((-1 : Int), ()), (((), (), ()), (), ())) else some ((r1.1.1, ()), (((), (), ()), (), ())) := by kernel_rfl
theorem F39_eq (k : Nat) (a0_0 : Bool) (a0_1 : List Int) (a0_2 : Int) : F39 (k + 2) a0_0 a0_1 a0_2 =
    (F71 k a0_0 a0_1).bind fun r1 => if r1.1.1 = true then (F83 k a0_1).bind fun r2 => if (decide (r2.1.1 ≤ (30 : Int))) = true then (F62 k a0_2 (0 : Int) (12 : Int)).bind fun r3 => some ((r3.1.1, ()), (((), (), (), ()), ())) else some ((false, ()), (((), (), (), ()), ())) else some ((false, ()), (((), (), (), ()), ())) := by kernel_rfl
theorem F40_eq (k : Nat) (a0_0 : Bool) (a0_1 : List Int) (a0_2 : Int) (a1_0 : Bool) (a1_1 : List Int) (a1_2 : Int) : F40 (k + 2) a0_0 a0_1 a0_2 a1_0 a1_1 a1_2 =
    (F84 k a0_2 a1_2).bind fun r1 => (F85 k a0_0 a0_1 a0_2 r1.1.1).bind fun r2 => (F85 k a1_0 a1_1 a1_2 r1.1.1).bind fun r3 => (F86 k a0_0 r2.1.1 a1_0 r3.1.1).bind fun r4 => some ((r4.1.1, ()), (((), (), (), ()), ((), (), (), ()), ())) := by kernel_rfl
theorem F41_eq (k : Nat) (a0_0 : Bool) (a0_1 : List Int) : F41 (k + 2) a0_0 a0_1 =
    (F87 k a0_1).bind fun r1 => some (((a0_0, r1.1.1, ()), ()), (((), (), ()), ())) := by kernel_rfl
theorem F42_eq (k : Nat) (a0_0 : Bool) (a0_1 : List Int) (a0_2 : Int) (a1_0 : Bool) (a1_1 : List Int) (a1_2 : Int) : F42 (k + 2) a0_0 a0_1 a0_2 a1_0 a1_1 a1_2 =
    (F46 k a0_0 a0_1 a0_2).bind fun r1 => if r1.1.1 = true then (F46 k a1_0 a1_1 a1_2).bind fun r2 => some ((r2.1.1, ()), (((), (), (), ()), ((), (), (), ()), ())) else some ((false, ()), (((), (), (), ()), ((), (), (), ()), ())) := by kernel_rfl
theorem F43_eq (k : Nat) (a0_0 : Bool) (a0_1 : List Int) (a0_2 : Int) (a1_0 : Bool) (a1_1 : List Int) (a1_2 : Int) : F43 (k + 2) a0_0 a0_1 a0_2 a1_0 a1_1 a1_2 =
    (F53 k a0_0 a0_1 a0_2 (if a1_2 > a0_2 then a1_2 else a0_2)).bind fun r1 => (F53 k a1_0 a1_1 a1_2 (if a1_2 > a0_2 then a1_2 else a0_2)).bind fun r2 => (F56 k r2.1.1.1 r2.1.1.2.1).bind fun r3 => (F54 k r1.1.1.1 r1.1.1.2.1 r3.1.1.1 r3.1.1.2.1).bind fun r4 => (F80 k r4.1.1.1 r4.1.1.2.1).bind fun r5 => some ((r5.1.1, ()), (((), (), (), ()), ((), (), (), ()), ())) := by kernel_rfl
theorem F44_eq (k : Nat) (a0_0 : Bool) (a0_1 : List Int) (a1_0 : Bool) (a1_1 : List Int) : F44 (k + 2) a0_0 a0_1 a1_0 a1_1 =
    if (!(a0_0 == a1_0)) = true then some ((false, ()), (((), (), ()), ((), (), ()), ())) else (F88 k a0_1 a1_1).bind fun r1 => if (!r1.1.1) = true then some ((false, ()), (((), (), ()), ((), (), ()), ())) else some ((true, ()), (((), (), ()), ((), (), ()), ())) := by kernel_rfl
theorem F46_eq (k : Nat) (a0_0 : Bool) (a0_1 : List Int) (a0_2 : Int) : F46 (k + 2) a0_0 a0_1 a0_2 =
    (F33 k a0_0 a0_1).bind fun r1 => if r1.1.1 = true then (F91 k a0_1).bind fun r2 => if (decide (r2.1.1 ≤ (30 : Int))) = true then (F75 k a0_2 (0 : Int) (12 : Int)).bind fun r3 => some ((r3.1.1, ()), (((), (), (), ()), ())) else some ((false, ()), (((), (), (), ()), ())) else some ((false, ()), (((), (), (), ()), ())) := by kernel_rfl
theorem F48_eq (k : Nat) (a0 : Bool) (a1 : List Int) : F48 (k + 2) a0 a1 =
    (F93 k a1).bind fun r1 => if (decide ((r1.1.1.length : Int) > (16 : Int))) = true then some (((false, ([] : List Int), ()), false, ()), ((), (), ())) else if a0 = true then (F97 k r1.1.1).bind fun r2 => some (((decide ((r1.1.1.length : Int) > (0 : Int)), r2.1.1, ()), true, ()), ((), (), ())) else (F97 k r1.1.1).bind fun r3 => some (((false, r3.1.1, ()), true, ()), ((), (), ())) := by kernel_rfl
theorem F49_eq (k : Nat) (a0_0 : Bool) (a0_1 : List Int) (a1 : Int) : F49 (k + 2) a0_0 a0_1 a1 =
    (F98 k a0_1 a1).bind fun r1 => some ((r1.1.1, ()), (((), r1.2.1, ()), (), ())) := by kernel_rfl
theorem F50_eq (k : Nat) (a0_0 : Bool) (a0_1 : List Int) (a1 : Int) : F50 (k + 2) a0_0 a0_1 a1 =
    (F99 k a0_1 a1).bind fun r1 => if (decide (r1.1.1 < (0 : Int))) = true then some (((-1 : Int), ()), (((), (), ()), (), ())) else some ((r1.1.1, ()), (((), (), ()), (), ())) := by kernel_rfl
theorem F51_eq (k : Nat) (a0_0 : Bool) (a0_1 : List Int) (a0_2 : Int) (a1_0 : Bool) (a1_1 : List Int) (a1_2 : Int) : F51 (k + 2) a0_0 a0_1 a0_2 a1_0 a1_1 a1_2 =
    (F84 k a0_2 a1_2).bind fun r1 => (F85 k a0_0 a0_1 a0_2 r1.1.1).bind fun r2 => (F85 k a1_0 a1_1 a1_2 r1.1.1).bind fun r3 => (F100 k a0_0 r2.1.1 a1_0 r3.1.1).bind fun r4 => (F101 k r4.1.1 r4.1.2.1 r1.1.1).bind fun r5 => some (((r5.1.1.1, r5.1.1.2.1, r5.1.1.2.2.1, ()), r5.1.2.1, ()), (((), (), (), ()), ((), (), (), ()), ())) := by kernel_rfl
theorem F52_eq (k : Nat) (a0_0 : Bool) (a0_1 : List Int) (a1 : Int) : F52 (k + 2) a0_0 a0_1 a1 =
    (F93 k a0_1).bind fun r1 => (F91 k r1.1.1).bind fun r2 => if (decide (r2.1.1 > (30 : Int))) = true then some (((false, ([] : List Int), (0 : Int), ()), (3 : Int), ()), (((), (), ()), (), ())) else (F48 k a0_0 a0_1).bind fun r3 => some (((r3.1.1.1, r3.1.1.2.1, a1, ()), (0 : Int), ()), (((), (), ()), (), ())) := by kernel_rfl
theorem F53_eq (k : Nat) (a0_0 : Bool) (a0_1 : List Int) (a0_2 : Int) (a1 : Int) : F53 (k + 2) a0_0 a0_1 a0_2 a1 =
    (F58 k a0_0 a0_1).bind fun r1 => (F61 k (IntKind.i64.wrap (a1 - a0_2))).bind fun r2 => (F66 k r1.1.1.2.1 r2.1.1).bind fun r3 => some (((r1.1.1.1, r3.1.1, ()), ()), (((), (), (), ()), (), ())) := by kernel_rfl
theorem F54_eq (k : Nat) (a0_0 : Bool) (a0_1 : List Int) (a1_0 : Bool) (a1_1 : List Int) : F54 (k + 2) a0_0 a0_1 a1_0 a1_1 =
    if (a0_0 == a1_0) = true then (F102 k a0_1 a1_1).bind fun r1 => some (((a0_0, r1.1.1, ()), ()), (((), (), ()), ((), (), ()), ())) else (F95 k a0_1 a1_1).bind fun r2 => if (decide (r2.1.1 ≥ (0 : Int))) = true then (F96 k a0_1 a1_1).bind fun r3 => some (((a0_0, r3.1.1, ()), ()), (((), (), ()), ((), (), ()), ())) else (F96 k a1_1 a0_1).bind fun r4 => some (((a1_0, r4.1.1, ()), ()), (((), (), ()), ((), (), ()), ())) := by kernel_rfl
theorem F55_eq (k : Nat) (a0_0 : Bool) (a0_1 : List Int) (a0_2 : Int) : F55 (k + 2) a0_0 a0_1 a0_2 =
    if (!a0_0) = true then some (((decide ((a0_1.length : Int) > (0 : Int)), a0_1, a0_2, ()), ()), (((), (), (), ()), ())) else some (((false, a0_1, a0_2, ()), ()), (((), (), (), ()), ())) := by kernel_rfl
theorem F56_eq (k : Nat) (a0_0 : Bool) (a0_1 : List Int) : F56 (k + 2) a0_0 a0_1 =
    some ((((!a0_0), a0_1, ()), ()), (((), (), ()), ())) := by kernel_rfl
theorem F58_eq (k : Nat) (a0_0 : Bool) (a0_1 : List Int) : F58 (k + 2) a0_0 a0_1 =
    some (((a0_0, a0_1, ()), ()), (((), (), ()), ())) := by kernel_rfl
theorem F61_eq (k : Nat) (a0 : Int) : F61 (k + 2) a0 =
    F61c3 k [(1 : Int)] a0 (0 : Int) := by kernel_rfl
theorem F61c3_eq (k : Nat) (x3 : List Int) (x5 : Int) (x6 : Int) : F61c3 (k + 1) x3 x5 x6 =
    if (decide (x6 < x5)) = true then (F66 k x3 [(10 : Int)]).bind fun r1 => F61c3 k r1.1.1 x5 (IntKind.i64.wrap (x6 + (1 : Int))) else some ((x3, ()), ((), ())) := by kernel_rfl
theorem F62_eq (k : Nat) (a0 : Int) (a1 : Int) (a2 : Int) : F62 (k + 2) a0 a1 a2 =
    if (decide (a0 ≥ a1)) = true then some ((decide (a0 ≤ a2), ()), ((), (), (), ())) else some ((false, ()), ((), (), (), ())) := by kernel_rfl
theorem F66_eq (k : Nat) (a0 : List Int) (a1 : List Int) : F66 (k + 2) a0 a1 =
    if (decide (0 ≤ (IntKind.i64.wrap ((IntKind.i64.wrap ((a0.length : Int) + (a1.length : Int))) + (1 : Int)))) && decide ((IntKind.i64.wrap ((IntKind.i64.wrap ((a0.length : Int) + (a1.length : Int))) + (1 : Int))) ≤ (IntKind.i64.wrap ((IntKind.i64.wrap ((a0.length : Int) + (a1.length : Int))) + (1 : Int)))) && decide ((IntKind.i64.wrap ((IntKind.i64.wrap ((a0.length : Int) + (a1.length : Int))) + (1 : Int))) ≤ (17592186044416 : Int))) = true then F66c3 k a1 (List.replicate (IntKind.i64.wrap ((IntKind.i64.wrap ((a0.length : Int) + (a1.length : Int))) + (1 : Int))).toNat (0 : Int)) a0 (a0.length : Int) (0 : Int) else none := by kernel_rfl
theorem F66c3_eq (k : Nat) (x1 : List Int) (x5 : List Int) (x19 : List Int) (x20 : Int) (x21 : Int) : F66c3 (k + 1) x1 x5 x19 x20 x21 =
    if (decide (x21 < x20)) = true then if (decide (0 ≤ x21)) = true then (x19[x21.toNat]?).bind fun y1 => F66c7 k x1 x5 x21 y1 (0 : Int) x19 x20 x21 x1 (x1.length : Int) (0 : Int) else none else (F93 k x5).bind fun r2 => some ((r2.1.1, ()), ((), (), ())) := by kernel_rfl
theorem F66c7_eq (k : Nat) (x1 : List Int) (x5 : List Int) (x6 : Int) (x7 : Int) (x8 : Int) (x19 : List Int) (x20 : Int) (x21 : Int) (x26 : List Int) (x27 : Int) (x28 : Int) : F66c7 (k + 1) x1 x5 x6 x7 x8 x19 x20 x21 x26 x27 x28 =
    if (decide (x28 < x27)) = true then if (decide (0 ≤ x28)) = true then (x26[x28.toNat]?).bind fun y3 => if (decide (0 ≤ (IntKind.i64.wrap (x6 + x28))) && decide ((IntKind.i64.wrap (x6 + x28)) < (x5.length : Int))) = true then (x5[(IntKind.i64.wrap (x6 + x28)).toNat]?).bind fun y4 => if (decide (0 ≤ (IntKind.i64.wrap (x6 + x28))) && decide ((IntKind.i64.wrap (x6 + x28)) < (x5.length : Int))) = true then (x5[(IntKind.i64.wrap (x6 + x28)).toNat]?).bind fun y5 => F66c7 k x1 (x5.set ((IntKind.i64.wrap (x6 + x28)).toNat) ((IntKind.i64.wrap ((IntKind.i64.wrap (y4 + (IntKind.i64.wrap (x7 * y3)))) + x8)).tmod (10000 : Int))) x6 x7 (IntKind.i64.wrap ((IntKind.i64.wrap ((IntKind.i64.wrap (y4 + (IntKind.i64.wrap (x7 * y3)))) + x8)).tdiv (10000 : Int))) x19 x20 x21 x26 x27 (IntKind.i64.wrap (x28 + (1 : Int))) else none else none else none else if (decide (0 ≤ (IntKind.i64.wrap (x6 + (x1.length : Int)))) && decide ((IntKind.i64.wrap (x6 + (x1.length : Int))) < (x5.length : Int))) = true then (x5[(IntKind.i64.wrap (x6 + (x1.length : Int))).toNat]?).bind fun y6 => if (decide (0 ≤ (IntKind.i64.wrap (x6 + (x1.length : Int)))) && decide ((IntKind.i64.wrap (x6 + (x1.length : Int))) < (x5.length : Int))) = true then (x5[(IntKind.i64.wrap (x6 + (x1.length : Int))).toNat]?).bind fun y7 => F66c3 k x1 (x5.set ((IntKind.i64.wrap (x6 + (x1.length : Int))).toNat) (IntKind.i64.wrap (y6 + x8))) x19 x20 (IntKind.i64.wrap (x21 + (1 : Int))) else none else none := by kernel_rfl
theorem F70_eq (k : Nat) (a0 : List Int) : F70 (k + 1) a0 = textR (a0, ()) := by kernel_rfl
theorem F71_eq (k : Nat) (a0_0 : Bool) (a0_1 : List Int) : F71 (k + 2) a0_0 a0_1 =
    if (decide ((a0_1.length : Int) > (16 : Int))) = true then some ((false, ()), (((), (), ()), ())) else if a0_0 = true then if ((a0_1.length : Int) == (0 : Int)) = true then some ((false, ()), (((), (), ()), ())) else F71c4 k a0_0 a0_1 (0 : Int) else F71c4 k a0_0 a0_1 (0 : Int) := by kernel_rfl
theorem F71c4_eq (k : Nat) (x1_0 : Bool) (x1_1 : List Int) (x3 : Int) : F71c4 (k + 1) x1_0 x1_1 x3 =
    if (decide (x3 < (x1_1.length : Int))) = true then if (decide (0 ≤ x3)) = true then (x1_1[x3.toNat]?).bind fun y1 => (F62 k y1 (0 : Int) (9999 : Int)).bind fun r2 => if (!r2.1.1) = true then some ((false, ()), (((), (), ()), ())) else F71c4 k x1_0 x1_1 (IntKind.i64.wrap (x3 + (1 : Int))) else none else if ((x1_1.length : Int) == (0 : Int)) = true then some ((true, ()), (((), (), ()), ())) else if (decide (0 ≤ (IntKind.i64.wrap ((x1_1.length : Int) - (1 : Int))))) = true then (x1_1[(IntKind.i64.wrap ((x1_1.length : Int) - (1 : Int))).toNat]?).bind fun y3 => some (((y3 != (0 : Int)), ()), (((), (), ()), ())) else none := by kernel_rfl
theorem F74_eq (k : Nat) (a0 : Int) : F74 (k + 2) a0 =
    (F75 k a0 (0 : Int) (9999 : Int)).bind fun r1 => some (((!r1.1.1), ()), ((), ())) := by kernel_rfl
theorem F75_eq (k : Nat) (a0 : Int) (a1 : Int) (a2 : Int) : F75 (k + 2) a0 a1 a2 =
    if (decide (a0 ≥ a1)) = true then some ((decide (a0 ≤ a2), ()), ((), (), (), ())) else some ((false, ()), ((), (), (), ())) := by kernel_rfl
theorem F80_eq (k : Nat) (a0_0 : Bool) (a0_1 : List Int) : F80 (k + 2) a0_0 a0_1 =
    if ((a0_1.length : Int) == (0 : Int)) = true then some (((0 : Int), ()), (((), (), ()), ())) else if a0_0 = true then some (((-1 : Int), ()), (((), (), ()), ())) else some (((1 : Int), ()), (((), (), ()), ())) := by kernel_rfl
theorem F82_eq (k : Nat) (a0 : List Int) (a1 : Int) : F82 (k + 2) a0 a1 =
    if (decide ((IntKind.i64.wrap (a1 - (a0.length : Int))) < (0 : Int))) = true then some (((-1 : Int), ()), ((), (), ())) else some (((IntKind.i64.wrap (a1 - (a0.length : Int))), ()), ((), (), ())) := by kernel_rfl
theorem F83_eq (k : Nat) (a0 : List Int) : F83 (k + 2) a0 =
    if ((a0.length : Int) == (0 : Int)) = true then some (((0 : Int), ()), ((), ())) else (F114 k a0).bind fun r1 => some (((r1.1.1.size : Int), ()), ((), ())) := by kernel_rfl
theorem F84_eq (k : Nat) (a0 : Int) (a1 : Int) : F84 (k + 2) a0 a1 =
    if (decide (a0 > a1)) = true then some ((a0, ()), ((), (), ())) else some ((a1, ()), ((), (), ())) := by kernel_rfl
theorem F85_eq (k : Nat) (a0_0 : Bool) (a0_1 : List Int) (a0_2 : Int) (a1 : Int) : F85 (k + 2) a0_0 a0_1 a0_2 a1 =
    (F105 k (IntKind.i64.wrap (a1 - a0_2))).bind fun r1 => (F103 k a0_1 r1.1.1).bind fun r2 => some ((r2.1.1, ()), (((), (), (), ()), (), ())) := by kernel_rfl
theorem F86_eq (k : Nat) (a0_0 : Bool) (a0_1 : List Int) (a1_0 : Bool) (a1_1 : List Int) : F86 (k + 2) a0_0 a0_1 a1_0 a1_1 =
    if (!(a0_0 == a1_0)) = true then if a0_0 = true then some (((-1 : Int), ()), (((), (), ()), ((), (), ()), ())) else some (((1 : Int), ()), (((), (), ()), ((), (), ()), ())) else if a0_0 = true then (F118 k a1_1 a0_1).bind fun r1 => some ((r1.1.1, ()), (((), (), ()), ((), (), ()), ())) else (F118 k a0_1 a1_1).bind fun r2 => some ((r2.1.1, ()), (((), (), ()), ((), (), ()), ())) := by kernel_rfl
theorem F87_eq (k : Nat) (a0 : List Int) : F87 (k + 2) a0 =
    if (decide (0 ≤ (a0.length : Int)) && decide ((a0.length : Int) ≤ (a0.length : Int)) && decide ((a0.length : Int) ≤ (17592186044416 : Int))) = true then F87c3 k a0 (List.replicate (a0.length : Int).toNat (0 : Int)) (0 : Int) else none := by kernel_rfl
theorem F87c3_eq (k : Nat) (x0 : List Int) (x3 : List Int) (x4 : Int) : F87c3 (k + 1) x0 x3 x4 =
    if (decide (x4 < (x0.length : Int))) = true then if (decide (0 ≤ x4)) = true then (x0[x4.toNat]?).bind fun y1 => if (decide (0 ≤ x4) && decide (x4 < (x3.length : Int))) = true then (x3[x4.toNat]?).bind fun y2 => F87c3 k x0 (x3.set x4.toNat y1) (IntKind.i64.wrap (x4 + (1 : Int))) else none else none else some ((x3, ()), ((), ())) := by kernel_rfl
theorem F88_eq (k : Nat) (a0 : List Int) (a1 : List Int) : F88 (k + 2) a0 a1 =
    if ((a0.length : Int) != (a1.length : Int)) = true then some ((false, ()), ((), (), ())) else F88c4 k a0 a1 (0 : Int) := by kernel_rfl
theorem F88c4_eq (k : Nat) (x0 : List Int) (x1 : List Int) (x5 : Int) : F88c4 (k + 1) x0 x1 x5 =
    if (decide (x5 < (x0.length : Int))) = true then if (decide (0 ≤ x5)) = true then (x0[x5.toNat]?).bind fun y1 => if (decide (0 ≤ x5)) = true then (x1[x5.toNat]?).bind fun y2 => if (y1 != y2) = true then some ((false, ()), ((), (), ())) else F88c4 k x0 x1 (IntKind.i64.wrap (x5 + (1 : Int))) else none else none else some ((true, ()), ((), (), ())) := by kernel_rfl
theorem F90_eq (k : Nat) (a0 : List Int) : F90 (k + 2) a0 =
    F90c2 k a0 (a0.length : Int) := by kernel_rfl
theorem F90c2_eq (k : Nat) (x0 : List Int) (x3 : Int) : F90c2 (k + 1) x0 x3 =
    if (decide (x3 > (0 : Int))) = true then if (decide (0 ≤ (IntKind.i64.wrap (x3 - (1 : Int))))) = true then (x0[(IntKind.i64.wrap (x3 - (1 : Int))).toNat]?).bind fun y1 => if (y1 == (0 : Int)) = true then F90c2 k x0 (IntKind.i64.wrap (x3 - (1 : Int))) else if (decide (0 ≤ x3) && decide (x3 ≤ (x0.length : Int))) = true then if (decide (([] : List Int).length + (slices x0 0 x3.toNat).length ≤ 17592186044416)) = true then some (((([] : List Int) ++ (slices x0 0 x3.toNat)), ()), ((), ())) else none else none else none else if (decide (0 ≤ x3) && decide (x3 ≤ (x0.length : Int))) = true then if (decide (([] : List Int).length + (slices x0 0 x3.toNat).length ≤ 17592186044416)) = true then some (((([] : List Int) ++ (slices x0 0 x3.toNat)), ()), ((), ())) else none else none := by kernel_rfl
theorem F91_eq (k : Nat) (a0 : List Int) : F91 (k + 2) a0 =
    if ((a0.length : Int) == (0 : Int)) = true then some (((0 : Int), ()), ((), ())) else (F70 k a0).bind fun r1 => some (((r1.1.1.size : Int), ()), ((), ())) := by kernel_rfl
theorem F93_eq (k : Nat) (a0 : List Int) : F93 (k + 2) a0 =
    F93c1 k a0 := by kernel_rfl
theorem F93c1_eq (k : Nat) (x0 : List Int) : F93c1 (k + 1) x0 =
    if (decide ((x0.length : Int) > (0 : Int))) = true then if (decide (0 ≤ (IntKind.i64.wrap ((x0.length : Int) - (1 : Int))))) = true then (x0[(IntKind.i64.wrap ((x0.length : Int) - (1 : Int))).toNat]?).bind fun y1 => if (y1 == (0 : Int)) = true then if (decide (0 ≤ (IntKind.i64.wrap ((x0.length : Int) - (1 : Int)))) && decide ((IntKind.i64.wrap ((x0.length : Int) - (1 : Int))) ≤ (x0.length : Int))) = true then F93c1 k (slices x0 0 ((IntKind.i64.wrap ((x0.length : Int) - (1 : Int))).toNat)) else none else some ((x0, ()), ((), ())) else none else some ((x0, ()), ((), ())) := by kernel_rfl
theorem F95_eq (k : Nat) (a0 : List Int) (a1 : List Int) : F95 (k + 2) a0 a1 =
    if ((a0.length : Int) != (a1.length : Int)) = true then some (((if (if (IntKind.i64.wrap ((a0.length : Int) - (a1.length : Int))) < (1 : Int) then (IntKind.i64.wrap ((a0.length : Int) - (a1.length : Int))) else (1 : Int)) > (-1 : Int) then (if (IntKind.i64.wrap ((a0.length : Int) - (a1.length : Int))) < (1 : Int) then (IntKind.i64.wrap ((a0.length : Int) - (a1.length : Int))) else (1 : Int)) else (-1 : Int)), ()), ((), (), ())) else F95c4 k a0 a1 (IntKind.i64.wrap ((a0.length : Int) - (1 : Int))) := by kernel_rfl
theorem F95c4_eq (k : Nat) (x0 : List Int) (x1 : List Int) (x5 : Int) : F95c4 (k + 1) x0 x1 x5 =
    if (decide (x5 ≥ (0 : Int))) = true then if (decide (0 ≤ x5)) = true then (x0[x5.toNat]?).bind fun y1 => if (decide (0 ≤ x5)) = true then (x1[x5.toNat]?).bind fun y2 => if (y1 != y2) = true then if (decide (0 ≤ x5)) = true then (x0[x5.toNat]?).bind fun y3 => if (decide (0 ≤ x5)) = true then (x1[x5.toNat]?).bind fun y4 => some (((if (if (IntKind.i64.wrap (y3 - y4)) < (1 : Int) then (IntKind.i64.wrap (y3 - y4)) else (1 : Int)) > (-1 : Int) then (if (IntKind.i64.wrap (y3 - y4)) < (1 : Int) then (IntKind.i64.wrap (y3 - y4)) else (1 : Int)) else (-1 : Int)), ()), ((), (), ())) else none else none else F95c4 k x0 x1 (IntKind.i64.wrap (x5 - (1 : Int))) else none else none else some (((0 : Int), ()), ((), (), ())) := by kernel_rfl
theorem F96_eq (k : Nat) (a0 : List Int) (a1 : List Int) : F96 (k + 2) a0 a1 =
    (F122 k a0).bind fun r1 => F96c3 k r1.1.1 a1 (a1.length : Int) (0 : Int) := by kernel_rfl
theorem F96c3_eq (k : Nat) (x5 : List Int) (x11 : List Int) (x12 : Int) (x13 : Int) : F96c3 (k + 1) x5 x11 x12 x13 =
    if (decide (x13 < x12)) = true then if (decide (0 ≤ x13)) = true then (x11[x13.toNat]?).bind fun y2 => if (decide (0 ≤ x13) && decide (x13 < (x5.length : Int))) = true then (x5[x13.toNat]?).bind fun y3 => if (decide (0 ≤ x13) && decide (x13 < (x5.length : Int))) = true then (x5[x13.toNat]?).bind fun y4 => F96c3 k (x5.set x13.toNat (IntKind.i64.wrap (y3 - y2))) x11 x12 (IntKind.i64.wrap (x13 + (1 : Int))) else none else none else none else F96c8 k x5 (x5.length : Int) (0 : Int) := by kernel_rfl
theorem F96c8_eq (k : Nat) (x5 : List Int) (x27 : Int) (x28 : Int) : F96c8 (k + 1) x5 x27 x28 =
    if (decide (x28 < x27)) = true then if (decide (0 ≤ x28) && decide (x28 < (x5.length : Int))) = true then (x5[x28.toNat]?).bind fun y5 => if (decide (y5 < (0 : Int))) = true then if (decide (0 ≤ x28) && decide (x28 < (x5.length : Int))) = true then (x5[x28.toNat]?).bind fun y6 => if (decide (0 ≤ x28) && decide (x28 < (x5.length : Int))) = true then (x5[x28.toNat]?).bind fun y7 => if (decide (0 ≤ (IntKind.i64.wrap (x28 + (1 : Int)))) && decide ((IntKind.i64.wrap (x28 + (1 : Int))) < ((x5.set x28.toNat (IntKind.i64.wrap (y6 + (10000 : Int)))).length : Int))) = true then ((x5.set x28.toNat (IntKind.i64.wrap (y6 + (10000 : Int))))[(IntKind.i64.wrap (x28 + (1 : Int))).toNat]?).bind fun y8 => if (decide (0 ≤ (IntKind.i64.wrap (x28 + (1 : Int)))) && decide ((IntKind.i64.wrap (x28 + (1 : Int))) < ((x5.set x28.toNat (IntKind.i64.wrap (y6 + (10000 : Int)))).length : Int))) = true then ((x5.set x28.toNat (IntKind.i64.wrap (y6 + (10000 : Int))))[(IntKind.i64.wrap (x28 + (1 : Int))).toNat]?).bind fun y9 => F96c13 k ((x5.set x28.toNat (IntKind.i64.wrap (y6 + (10000 : Int)))).set ((IntKind.i64.wrap (x28 + (1 : Int))).toNat) (IntKind.i64.wrap (y8 - (1 : Int)))) x27 x28 else none else none else none else none else F96c13 k x5 x27 x28 else none else (F93 k x5).bind fun r10 => some ((r10.1.1, ()), ((), (), ())) := by kernel_rfl
theorem F96c13_eq (k : Nat) (x5 : List Int) (x27 : Int) (x28 : Int) : F96c13 (k + 1) x5 x27 x28 =
    F96c8 k x5 x27 (IntKind.i64.wrap (x28 + (1 : Int))) := by kernel_rfl
theorem F97_eq (k : Nat) (a0 : List Int) : F97 (k + 2) a0 =
    (F124 k a0).bind fun r1 => (F123 k r1.1.1).bind fun r2 => some ((r2.1.1, ()), ((), ())) := by kernel_rfl
theorem F98_eq (k : Nat) (a0 : List Int) (a1 : Int) : F98 (k + 2) a0 a1 =
    F98c2 k a0 a1 (0 : Int) := by kernel_rfl
theorem F98c2_eq (k : Nat) (x0 : List Int) (x1 : Int) (x5 : Int) : F98c2 (k + 1) x0 x1 x5 =
    if (decide (x5 < (x0.length : Int))) = true then if (decide (0 ≤ x5) && decide (x5 < (x0.length : Int))) = true then (x0[x5.toNat]?).bind fun y1 => F98c2 k (x0.set x5.toNat x1) (IntKind.i64.wrap (x1 + (1 : Int))) (IntKind.i64.wrap (x5 + (1 : Int))) else none else some ((x1, ()), (x0, (), ())) := by kernel_rfl
theorem F99_eq (k : Nat) (a0 : List Int) (a1 : Int) : F99 (k + 2) a0 a1 =
    F99c2 k a0 a1 (0 : Int) := by kernel_rfl
theorem F99c2_eq (k : Nat) (x0 : List Int) (x1 : Int) (x5 : Int) : F99c2 (k + 1) x0 x1 x5 =
    if (decide (x5 < (x0.length : Int))) = true then if (decide (0 ≤ x5)) = true then (x0[x5.toNat]?).bind fun y1 => if (y1 != x1) = true then some (((-1 : Int), ()), ((), (), ())) else F99c2 k x0 (IntKind.i64.wrap (x1 + (1 : Int))) (IntKind.i64.wrap (x5 + (1 : Int))) else none else some ((x1, ()), ((), (), ())) := by kernel_rfl
theorem F100_eq (k : Nat) (a0 : Bool) (a1 : List Int) (a2 : Bool) (a3 : List Int) : F100 (k + 2) a0 a1 a2 a3 =
    if (a0 == a2) = true then (F125 k a1 a3).bind fun r1 => some ((a0, r1.1.1, ()), ((), (), (), (), ())) else (F118 k a1 a3).bind fun r2 => if (decide (r2.1.1 ≥ (0 : Int))) = true then (F120 k a1 a3).bind fun r3 => some ((a0, r3.1.1, ()), ((), (), (), (), ())) else (F120 k a3 a1).bind fun r4 => some ((a2, r4.1.1, ()), ((), (), (), (), ())) := by kernel_rfl
theorem F101_eq (k : Nat) (a0 : Bool) (a1 : List Int) (a2 : Int) : F101 (k + 2) a0 a1 a2 =
    (F83 k a1).bind fun r1 => if (decide (r1.1.1 > (30 : Int))) = true then some (((false, ([] : List Int), (0 : Int), ()), (3 : Int), ()), ((), (), (), ())) else if a0 = true then some (((decide ((a1.length : Int) > (0 : Int)), a1, a2, ()), (0 : Int), ()), ((), (), (), ())) else some (((false, a1, a2, ()), (0 : Int), ()), ((), (), (), ())) := by kernel_rfl
theorem F102_eq (k : Nat) (a0 : List Int) (a1 : List Int) : F102 (k + 2) a0 a1 =
    if (decide (0 ≤ (IntKind.i64.wrap ((if (a1.length : Int) > (a0.length : Int) then (a1.length : Int) else (a0.length : Int)) + (1 : Int)))) && decide ((IntKind.i64.wrap ((if (a1.length : Int) > (a0.length : Int) then (a1.length : Int) else (a0.length : Int)) + (1 : Int))) ≤ (IntKind.i64.wrap ((if (a1.length : Int) > (a0.length : Int) then (a1.length : Int) else (a0.length : Int)) + (1 : Int)))) && decide ((IntKind.i64.wrap ((if (a1.length : Int) > (a0.length : Int) then (a1.length : Int) else (a0.length : Int)) + (1 : Int))) ≤ (17592186044416 : Int))) = true then F102c4 k (a0.take (List.replicate (IntKind.i64.wrap ((if (a1.length : Int) > (a0.length : Int) then (a1.length : Int) else (a0.length : Int)) + (1 : Int))).toNat (0 : Int)).length ++ (List.replicate (IntKind.i64.wrap ((if (a1.length : Int) > (a0.length : Int) then (a1.length : Int) else (a0.length : Int)) + (1 : Int))).toNat (0 : Int)).drop a0.length) a1 (a1.length : Int) (0 : Int) else none := by kernel_rfl
theorem F102c4_eq (k : Nat) (x5 : List Int) (x19 : List Int) (x20 : Int) (x21 : Int) : F102c4 (k + 1) x5 x19 x20 x21 =
    if (decide (x21 < x20)) = true then if (decide (0 ≤ x21)) = true then (x19[x21.toNat]?).bind fun y1 => if (decide (0 ≤ x21) && decide (x21 < (x5.length : Int))) = true then (x5[x21.toNat]?).bind fun y2 => if (decide (0 ≤ x21) && decide (x21 < (x5.length : Int))) = true then (x5[x21.toNat]?).bind fun y3 => F102c4 k (x5.set x21.toNat (IntKind.i64.wrap (y2 + y1))) x19 x20 (IntKind.i64.wrap (x21 + (1 : Int))) else none else none else none else F102c9 k x5 (IntKind.i64.wrap ((x5.length : Int) - (1 : Int))) (0 : Int) := by kernel_rfl
theorem F102c9_eq (k : Nat) (x5 : List Int) (x36 : Int) (x37 : Int) : F102c9 (k + 1) x5 x36 x37 =
    if (decide (x37 < x36)) = true then if (decide (0 ≤ (IntKind.i64.wrap (x37 + (1 : Int)))) && decide ((IntKind.i64.wrap (x37 + (1 : Int))) < (x5.length : Int))) = true then (x5[(IntKind.i64.wrap (x37 + (1 : Int))).toNat]?).bind fun y4 => if (decide (0 ≤ x37) && decide (x37 < (x5.length : Int))) = true then (x5[x37.toNat]?).bind fun y5 => if (decide (0 ≤ (IntKind.i64.wrap (x37 + (1 : Int)))) && decide ((IntKind.i64.wrap (x37 + (1 : Int))) < (x5.length : Int))) = true then (x5[(IntKind.i64.wrap (x37 + (1 : Int))).toNat]?).bind fun y6 => if (decide (0 ≤ x37) && decide (x37 < ((x5.set ((IntKind.i64.wrap (x37 + (1 : Int))).toNat) (IntKind.i64.wrap (y4 + (IntKind.i64.wrap (y5.tdiv (10000 : Int)))))).length : Int))) = true then ((x5.set ((IntKind.i64.wrap (x37 + (1 : Int))).toNat) (IntKind.i64.wrap (y4 + (IntKind.i64.wrap (y5.tdiv (10000 : Int))))))[x37.toNat]?).bind fun y7 => if (decide (0 ≤ x37) && decide (x37 < ((x5.set ((IntKind.i64.wrap (x37 + (1 : Int))).toNat) (IntKind.i64.wrap (y4 + (IntKind.i64.wrap (y5.tdiv (10000 : Int)))))).length : Int))) = true then ((x5.set ((IntKind.i64.wrap (x37 + (1 : Int))).toNat) (IntKind.i64.wrap (y4 + (IntKind.i64.wrap (y5.tdiv (10000 : Int))))))[x37.toNat]?).bind fun y8 => F102c9 k ((x5.set ((IntKind.i64.wrap (x37 + (1 : Int))).toNat) (IntKind.i64.wrap (y4 + (IntKind.i64.wrap (y5.tdiv (10000 : Int)))))).set x37.toNat (y7.tmod (10000 : Int))) x36 (IntKind.i64.wrap (x37 + (1 : Int))) else none else none else none else none else none else (F93 k x5).bind fun r9 => some ((r9.1.1, ()), ((), (), ())) := by kernel_rfl
theorem F103_eq (k : Nat) (a0 : List Int) (a1 : List Int) : F103 (k + 2) a0 a1 =
    if (decide (0 ≤ (IntKind.i64.wrap ((a0.length : Int) + (a1.length : Int)))) && decide ((IntKind.i64.wrap ((a0.length : Int) + (a1.length : Int))) ≤ (IntKind.i64.wrap ((a0.length : Int) + (a1.length : Int)))) && decide ((IntKind.i64.wrap ((a0.length : Int) + (a1.length : Int))) ≤ (17592186044416 : Int))) = true then F103c3 k a0 a1 (List.replicate (IntKind.i64.wrap ((a0.length : Int) + (a1.length : Int))).toNat (0 : Int)) (0 : Int) else none := by kernel_rfl
theorem F103c3_eq (k : Nat) (x0 : List Int) (x1 : List Int) (x5 : List Int) (x6 : Int) : F103c3 (k + 1) x0 x1 x5 x6 =
    if (decide (x6 < (x0.length : Int))) = true then F103c7 k x0 x1 x5 x6 (0 : Int) (0 : Int) else (F90 k x5).bind fun r1 => some ((r1.1.1, ()), ((), (), ())) := by kernel_rfl
theorem F103c7_eq (k : Nat) (x0 : List Int) (x1 : List Int) (x5 : List Int) (x6 : Int) (x7 : Int) (x8 : Int) : F103c7 (k + 1) x0 x1 x5 x6 x7 x8 =
    if (decide (x8 < (x1.length : Int))) = true then if (decide (0 ≤ (IntKind.i64.wrap (x6 + x8))) && decide ((IntKind.i64.wrap (x6 + x8)) < (x5.length : Int))) = true then (x5[(IntKind.i64.wrap (x6 + x8)).toNat]?).bind fun y2 => if (decide (0 ≤ x6)) = true then (x0[x6.toNat]?).bind fun y3 => (F126 k x1 x8).bind fun r4 => if (decide (0 ≤ (IntKind.i64.wrap (x6 + x8))) && decide ((IntKind.i64.wrap (x6 + x8)) < (x5.length : Int))) = true then (x5[(IntKind.i64.wrap (x6 + x8)).toNat]?).bind fun y5 => F103c7 k x0 x1 (x5.set ((IntKind.i64.wrap (x6 + x8)).toNat) ((IntKind.i64.wrap ((IntKind.i64.wrap (y2 + (IntKind.i64.wrap (y3 * r4.1.1)))) + x7)).tmod (10000 : Int))) x6 (IntKind.i64.wrap ((IntKind.i64.wrap ((IntKind.i64.wrap (y2 + (IntKind.i64.wrap (y3 * r4.1.1)))) + x7)).tdiv (10000 : Int))) (IntKind.i64.wrap (x8 + (1 : Int))) else none else none else none else if (decide (x7 > (0 : Int))) = true then if (decide (0 ≤ (IntKind.i64.wrap (x6 + x8))) && decide ((IntKind.i64.wrap (x6 + x8)) < (x5.length : Int))) = true then (x5[(IntKind.i64.wrap (x6 + x8)).toNat]?).bind fun y6 => if (decide (0 ≤ x6)) = true then (x0[x6.toNat]?).bind fun y7 => (F126 k x1 x8).bind fun r8 => if (decide (0 ≤ (IntKind.i64.wrap (x6 + x8))) && decide ((IntKind.i64.wrap (x6 + x8)) < (x5.length : Int))) = true then (x5[(IntKind.i64.wrap (x6 + x8)).toNat]?).bind fun y9 => F103c7 k x0 x1 (x5.set ((IntKind.i64.wrap (x6 + x8)).toNat) ((IntKind.i64.wrap ((IntKind.i64.wrap (y6 + (IntKind.i64.wrap (y7 * r8.1.1)))) + x7)).tmod (10000 : Int))) x6 (IntKind.i64.wrap ((IntKind.i64.wrap ((IntKind.i64.wrap (y6 + (IntKind.i64.wrap (y7 * r8.1.1)))) + x7)).tdiv (10000 : Int))) (IntKind.i64.wrap (x8 + (1 : Int))) else none else none else none else F103c3 k x0 x1 x5 (IntKind.i64.wrap (x6 + (1 : Int))) := by kernel_rfl
theorem F105_eq (k : Nat) (a0 : Int) : F105 (k + 2) a0 =
    F105c2 k a0 ([] : List Int) := by kernel_rfl
theorem F105c2_eq (k : Nat) (x0 : Int) (x3 : List Int) : F105c2 (k + 1) x0 x3 =
    if (decide (x0 ≥ (4 : Int))) = true then if (decide (x3.length + [(0 : Int)].length ≤ 17592186044416)) = true then F105c2 k (IntKind.i64.wrap (x0 - (4 : Int))) (x3 ++ [(0 : Int)]) else none else F105c6 k x0 x3 (1 : Int) := by kernel_rfl
theorem F105c6_eq (k : Nat) (x0 : Int) (x3 : List Int) (x4 : Int) : F105c6 (k + 1) x0 x3 x4 =
    if (decide (x0 > (0 : Int))) = true then F105c6 k (IntKind.i64.wrap (x0 - (1 : Int))) x3 (IntKind.i64.wrap (x4 * (10 : Int))) else if (decide (x3.length + [x4].length ≤ 17592186044416)) = true then some (((x3 ++ [x4]), ()), ((), ())) else none := by kernel_rfl
theorem F114_eq (k : Nat) (a0 : List Int) : F114 (k + 2) a0 =
    if ((a0.length : Int) == (0 : Int)) = true then some (((⟨#[48]⟩ : ByteArray), ()), ((), ())) else if (decide (0 ≤ (IntKind.i64.wrap ((a0.length : Int) - (1 : Int))))) = true then (a0[(IntKind.i64.wrap ((a0.length : Int) - (1 : Int))).toNat]?).bind fun y1 => (F138 k y1).bind fun r2 => F114c5 k a0 r2.1.1 (IntKind.i64.wrap ((a0.length : Int) - (2 : Int))) else none := by kernel_rfl
theorem F114c5_eq (k : Nat) (x0 : List Int) (x3 : ByteArray) (x4 : Int) : F114c5 (k + 1) x0 x3 x4 =
    if (decide (x4 ≥ (0 : Int))) = true then if (decide (0 ≤ x4)) = true then (x0[x4.toNat]?).bind fun y3 => (F139 k y3 (4 : Int)).bind fun r4 => if (Nat.ble (x3.size + r4.1.1.size) 9223372036854775807) = true then F114c5 k x0 (x3 ++ r4.1.1) (IntKind.i64.wrap (x4 - (1 : Int))) else none else none else some ((x3, ()), ((), ())) := by kernel_rfl
theorem F118_eq (k : Nat) (a0 : List Int) (a1 : List Int) : F118 (k + 2) a0 a1 =
    if ((a0.length : Int) != (a1.length : Int)) = true then if (decide ((a0.length : Int) < (a1.length : Int))) = true then some (((-1 : Int), ()), ((), (), ())) else some (((1 : Int), ()), ((), (), ())) else F118c6 k a0 a1 (IntKind.i64.wrap ((a0.length : Int) - (1 : Int))) := by kernel_rfl
theorem F118c6_eq (k : Nat) (x0 : List Int) (x1 : List Int) (x5 : Int) : F118c6 (k + 1) x0 x1 x5 =
    if (decide (x5 ≥ (0 : Int))) = true then if (decide (0 ≤ x5)) = true then (x0[x5.toNat]?).bind fun y1 => if (decide (0 ≤ x5)) = true then (x1[x5.toNat]?).bind fun y2 => if (decide (y1 < y2)) = true then some (((-1 : Int), ()), ((), (), ())) else if (decide (0 ≤ x5)) = true then (x0[x5.toNat]?).bind fun y3 => if (decide (0 ≤ x5)) = true then (x1[x5.toNat]?).bind fun y4 => if (decide (y3 > y4)) = true then some (((1 : Int), ()), ((), (), ())) else F118c6 k x0 x1 (IntKind.i64.wrap (x5 - (1 : Int))) else none else none else none else none else some (((0 : Int), ()), ((), (), ())) := by kernel_rfl
theorem F120_eq (k : Nat) (a0 : List Int) (a1 : List Int) : F120 (k + 2) a0 a1 =
    F120c4 k a0 a1 ([] : List Int) (0 : Int) (0 : Int) := by kernel_rfl
theorem F120c4_eq (k : Nat) (x0 : List Int) (x1 : List Int) (x5 : List Int) (x6 : Int) (x7 : Int) : F120c4 (k + 1) x0 x1 x5 x6 x7 =
    if (decide (x7 < (x0.length : Int))) = true then if (decide (0 ≤ x7)) = true then (x0[x7.toNat]?).bind fun y1 => (F126 k x1 x7).bind fun r2 => if (decide ((IntKind.i64.wrap ((IntKind.i64.wrap (y1 - r2.1.1)) - x6)) < (0 : Int))) = true then F120c11 k x0 x1 x5 (1 : Int) x7 (IntKind.i64.wrap ((IntKind.i64.wrap ((IntKind.i64.wrap (y1 - r2.1.1)) - x6)) + (10000 : Int))) else F120c11 k x0 x1 x5 (0 : Int) x7 (IntKind.i64.wrap ((IntKind.i64.wrap (y1 - r2.1.1)) - x6)) else none else (F90 k x5).bind fun r3 => some ((r3.1.1, ()), ((), (), ())) := by kernel_rfl
theorem F120c11_eq (k : Nat) (x0 : List Int) (x1 : List Int) (x5 : List Int) (x6 : Int) (x7 : Int) (x8 : Int) : F120c11 (k + 1) x0 x1 x5 x6 x7 x8 =
    if (decide (x5.length + [x8].length ≤ 17592186044416)) = true then F120c4 k x0 x1 (x5 ++ [x8]) x6 (IntKind.i64.wrap (x7 + (1 : Int))) else none := by kernel_rfl
theorem F122_eq (k : Nat) (a0 : List Int) : F122 (k + 2) a0 =
    bothK (emptyL a0) (some ((([] : List Int), ()), ((), ()))) (if (decide (([] : List Int).length + a0.length ≤ 17592186044416)) = true then some (((([] : List Int) ++ a0), ()), ((), ())) else none) := by kernel_rfl
theorem F123_eq (k : Nat) (a0 : List Int) : F123 (k + 2) a0 =
    if ((a0.length : Int) == (a0.length : Int) && (a0.length : Int) == (a0.length : Int)) = true then some ((a0, ()), ((), ())) else none := by kernel_rfl
theorem F124_eq (k : Nat) (a0 : List Int) : F124 (k + 2) a0 =
    bothK (emptyL a0) (some ((([] : List Int), ()), ((), ()))) (if (decide (([] : List Int).length + a0.length ≤ 17592186044416)) = true then some (((([] : List Int) ++ a0), ()), ((), ())) else none) := by kernel_rfl
theorem F125_eq (k : Nat) (a0 : List Int) (a1 : List Int) : F125 (k + 2) a0 a1 =
    F125c4 k a0 a1 ([] : List Int) (0 : Int) (0 : Int) := by kernel_rfl
theorem F125c4_eq (k : Nat) (x0 : List Int) (x1 : List Int) (x5 : List Int) (x6 : Int) (x7 : Int) : F125c4 (k + 1) x0 x1 x5 x6 x7 =
    if (decide (x7 < (x0.length : Int))) = true then (F126 k x0 x7).bind fun r1 => (F126 k x1 x7).bind fun r2 => if (decide (x5.length + [((IntKind.i64.wrap ((IntKind.i64.wrap (r1.1.1 + r2.1.1)) + x6)).tmod (10000 : Int))].length ≤ 17592186044416)) = true then F125c4 k x0 x1 (x5 ++ [((IntKind.i64.wrap ((IntKind.i64.wrap (r1.1.1 + r2.1.1)) + x6)).tmod (10000 : Int))]) (IntKind.i64.wrap ((IntKind.i64.wrap ((IntKind.i64.wrap (r1.1.1 + r2.1.1)) + x6)).tdiv (10000 : Int))) (IntKind.i64.wrap (x7 + (1 : Int))) else none else if (decide (x7 < (x1.length : Int))) = true then (F126 k x0 x7).bind fun r3 => (F126 k x1 x7).bind fun r4 => if (decide (x5.length + [((IntKind.i64.wrap ((IntKind.i64.wrap (r3.1.1 + r4.1.1)) + x6)).tmod (10000 : Int))].length ≤ 17592186044416)) = true then F125c4 k x0 x1 (x5 ++ [((IntKind.i64.wrap ((IntKind.i64.wrap (r3.1.1 + r4.1.1)) + x6)).tmod (10000 : Int))]) (IntKind.i64.wrap ((IntKind.i64.wrap ((IntKind.i64.wrap (r3.1.1 + r4.1.1)) + x6)).tdiv (10000 : Int))) (IntKind.i64.wrap (x7 + (1 : Int))) else none else if (decide (x6 > (0 : Int))) = true then (F126 k x0 x7).bind fun r5 => (F126 k x1 x7).bind fun r6 => if (decide (x5.length + [((IntKind.i64.wrap ((IntKind.i64.wrap (r5.1.1 + r6.1.1)) + x6)).tmod (10000 : Int))].length ≤ 17592186044416)) = true then F125c4 k x0 x1 (x5 ++ [((IntKind.i64.wrap ((IntKind.i64.wrap (r5.1.1 + r6.1.1)) + x6)).tmod (10000 : Int))]) (IntKind.i64.wrap ((IntKind.i64.wrap ((IntKind.i64.wrap (r5.1.1 + r6.1.1)) + x6)).tdiv (10000 : Int))) (IntKind.i64.wrap (x7 + (1 : Int))) else none else (F90 k x5).bind fun r7 => some ((r7.1.1, ()), ((), (), ())) := by kernel_rfl
theorem F126_eq (k : Nat) (a0 : List Int) (a1 : Int) : F126 (k + 2) a0 a1 =
    if (decide (a1 < (a0.length : Int))) = true then if (decide (0 ≤ a1)) = true then (a0[a1.toNat]?).bind fun y1 => some ((y1, ()), ((), (), ())) else none else some (((0 : Int), ()), ((), (), ())) := by kernel_rfl
theorem F138_eq (k : Nat) (a0 : Int) : F138 (k + 2) a0 =
    if (decide (a0 < (-9223372036854775807 : Int))) = true then some (((⟨#[45, 57, 50, 50, 51, 51, 55, 50, 48, 51, 54, 56, 53, 52, 55, 55, 53, 56, 48, 56]⟩ : ByteArray), ()), ((), ())) else if (decide (a0 < (0 : Int))) = true then (F138 k (IntKind.i64.wrap (0 - a0))).bind fun r1 => if (Nat.ble ((⟨#[45]⟩ : ByteArray).size + r1.1.1.size) 9223372036854775807) = true then some ((((⟨#[45]⟩ : ByteArray) ++ r1.1.1), ()), ((), ())) else none else if (decide (a0 < (10 : Int))) = true then some (((bytesOf [(IntKind.u8.wrap (IntKind.i64.wrap ((48 : Int) + a0)))]), ()), ((), ())) else (F138 k (IntKind.i64.wrap (a0.tdiv (10 : Int)))).bind fun r2 => if (Nat.ble (r2.1.1.size + (bytesOf [(IntKind.u8.wrap (IntKind.i64.wrap ((48 : Int) + (a0.tmod (10 : Int)))))]).size) 9223372036854775807) = true then some (((r2.1.1 ++ (bytesOf [(IntKind.u8.wrap (IntKind.i64.wrap ((48 : Int) + (a0.tmod (10 : Int)))))])), ()), ((), ())) else none := by kernel_rfl
theorem F139_eq (k : Nat) (a0 : Int) (a1 : Int) : F139 (k + 2) a0 a1 =
    (F138 k a0).bind fun r1 => F139c2 k a1 r1.1.1 := by kernel_rfl
theorem F139c2_eq (k : Nat) (x1 : Int) (x5 : ByteArray) : F139c2 (k + 1) x1 x5 =
    if (decide ((x5.size : Int) < x1)) = true then if (Nat.ble ((⟨#[48]⟩ : ByteArray).size + x5.size) 9223372036854775807) = true then F139c2 k x1 ((⟨#[48]⟩ : ByteArray) ++ x5) else none else some ((x5, ()), ((), (), ())) := by kernel_rfl
theorem F75073_eq (k : Nat) (a0 : List Int) : F75073 (k + 2) a0 =
    (F75115 k a0).bind fun r1 => some ((decide (r1.1.1 ≥ (0 : Int)), ()), ((), (), ())) := by kernel_rfl
theorem F75115_eq (k : Nat) (a0 : List Int) : F75115 (k + 2) a0 =
    F75115c2 k a0 (a0.length : Int) (0 : Int) := by kernel_rfl
theorem F75115c2_eq (k : Nat) (x0 : List Int) (x7 : Int) (x8 : Int) : F75115c2 (k + 1) x0 x7 x8 =
    if (decide (x8 < x7)) = true then if (decide (0 ≤ x8)) = true then (x0[x8.toNat]?).bind fun y1 => (F74 k y1).bind fun r2 => if r2.1.1 = true then some ((x8, ()), ((), (), ())) else F75115c2 k x0 x7 (IntKind.i64.wrap (x8 + (1 : Int))) else none else some (((-1 : Int), ()), ((), (), ())) := by kernel_rfl
end Go.Proofs.YtdmcibaoebmieaaDoor.R
/-! Rf: limbs.text keeps its contract. -/
namespace Go.Proofs.YtdmcibaoebmieaaDoor.R
open Go.Rf
section
open Go.Proofs.YtdmcibaoebmieaaDoor.Q Go.Proofs.YtdmcibaoebmieaaDoorW.PrintWords
theorem text_parts (zs : List Int) : ∀ m, m ≤ zs.length → ((Q.upto (Q.bwI zs) m).flatMap (Q.piece (zs.length : Int))) = figs (zs.drop (zs.length - m)) := by
  intro m
  induction m with
  | zero =>
    intro _
    rw [Nat.sub_zero, List.drop_length]
    rfl
  | succ m ih =>
    intro hm
    obtain ⟨j, hj⟩ : ∃ j, j = zs.length - (m + 1) := ⟨_, rfl⟩
    have hj1 : zs.length - m = j + 1 := by omega
    have hjl : j < zs.length := by omega
    have e1 : Q.upto (Q.bwI zs) (m + 1) = Q.upto (Q.bwI zs) m ++ [Q.bwI zs m] := by
      unfold Q.upto
      rw [List.range_succ, List.map_append]
      rfl
    have e2 : Q.bwI zs m = ((j : Int), zs.getD j 0) := by
      unfold Q.bwI
      have : (zs.length : Int) - 1 - (m : Int) = (j : Int) := by omega
      rw [this]
      rfl
    rw [e1, List.flatMap_append, ih (by omega), List.flatMap_singleton, e2, hj1, ← hj]
    unfold Q.piece
    by_cases h : j + 1 < zs.length
    · rw [if_pos (show ((j : Int), zs.getD j 0).1 < (zs.length : Int) - 1 by show (j : Int) < _; omega), figs_drop h]
      rfl
    · have hl : zs.length = j + 1 := by omega
      rw [if_neg (show ¬ ((j : Int), zs.getD j 0).1 < (zs.length : Int) - 1 by show ¬ (j : Int) < _; omega), figs_last hl, List.drop_eq_nil_of_le (by omega)]
      rfl
theorem textF_eq (l : List Int) : (⟨(Q.textF l).toArray⟩ : ByteArray) = textL l := by
  unfold Q.textF
  cases l with
  | nil => rfl
  | cons d l =>
    rw [if_neg (by simp)]
    have := text_parts (d :: l) (d :: l).length (Nat.le_refl _)
    rw [Nat.sub_self, List.drop_zero] at this
    exact congrArg (fun x : List UInt8 => (⟨x.toArray⟩ : ByteArray)) this
theorem reps_ints {w : World} {Z : Nat → Prop} : ∀ {l : List Int} {vs : List Value}, reps (rep w Z (.int .i64)) l vs → vs = l.map (Value.int .i64)
  | [], vs, h => h
  | x :: l, vs, h => by
    obtain ⟨c, d, rfl, h1, h2⟩ := h
    rw [reps_ints h2, show c = [.int .i64 x] from h1]
    rfl
theorem reads_of {w : World} {Z : Nat → Prop} {l : List Int} {v : Value} (h : rep w Z (.sl (.int .i64)) l [v]) (hl : l.length ≤ 1000000) : ∃ A c, v = .slice A l.length c ∧ l.length ≤ c ∧ Kd.C (Kd.int .i64) w A l.length l := by
  obtain ⟨A, c, vs, h1, h2, h3, h4⟩ := h
  obtain rfl := reps_ints h3
  refine ⟨A, c, (List.cons.inj h1).1, h2, rfl, by omega, fun h0 => ?_⟩
  have at' : ∀ j p, l[j]? = some p → ∃ a : Addr, A = some a ∧ w.cell? (a.add j) = some (.int .i64 p) := fun j p hp => by
    obtain ⟨a, ha, _, _, hc⟩ := h4 j (.int .i64 p) (by rw [List.getElem?_map, hp]; rfl)
    exact ⟨a, ha, hc⟩
  obtain ⟨a, ha, _⟩ := at' 0 l[0] (List.getElem?_eq_getElem h0)
  refine ⟨a, ha, fun j p hp => ⟨[.int .i64 p], rfl, rfl, fun i u hu => ?_⟩⟩
  obtain ⟨a', ha', hc⟩ := at' j p hp
  obtain rfl := Option.some.inj (ha.symm.trans ha')
  cases i with
  | zero =>
    obtain rfl := Option.some.inj hu
    have : j * 1 + 0 = j := by omega
    show w.cell? (a.add (j * 1 + 0)) = _
    rw [this]
    exact hc
  | succ i => simp at hu
end
theorem gPow : Tryd.prog.globalNamed "internal/strconv.uint64pow10" = some powG := by kernel_rfl
theorem laid_of {w : World} {Z : Nat → Prop} (h : GL cx w Z) : Q.Laid w := by
  obtain ⟨_, t, fz, hh⟩ := h.2 powG powCells (by show objsR powG = _; unfold objsR; simp)
  unfold Q.Laid Lib.TabIs World.var?
  rw [gPow, Option.bind_some, hh]
  rfl
theorem text_contract (inp : (cx.spec 70).In) (out : (cx.spec 70).Out) (h : textR inp = some out) : Contract cx 70 inp out := by
  obtain ⟨l, _⟩ := inp
  unfold textR at h
  split at h
  · rename_i hok
    obtain rfl := Option.some.inj h
    unfold limbsOk at hok
    simp only [Bool.and_eq_true, List.all_eq_true, decide_eq_true_eq] at hok
    intro w Z args fp hrep _ _ hZ hGL
    match args, hrep with
    | [v], ⟨f, g, hfp, ⟨hv, hf⟩, hg⟩ =>
      obtain rfl : f = [] := hf
      obtain rfl : g = [] := hg
      obtain rfl : fp = [] := hfp
      obtain ⟨A, c, rfl, hc, hK⟩ := reads_of hv hok.2
      refine (Q.impl_text.calls A c l w (laid_of hGL) hK hc hok.1 hok.2).mono ?_
      rintro e w' ⟨rfl, hb⟩
      rw [textF_eq]
      refine ⟨[.string (textL l)], Z, [], [], rfl, ⟨[], [], rfl, ⟨rfl, rfl⟩, rfl⟩, ⟨[], [], rfl, rfl, rfl⟩, by simp, (fun b hb => by cases hb), (fun b hb => hb), fun b hz => ⟨Nat.lt_of_lt_of_le (hZ b hz) hb.size, .inl hz⟩, ⟨hb.os, hb.tape, hb.output, hb.size, fun b hlt _ => hb.block b hlt⟩⟩
  · cases h
theorem told (k f : Nat) (inp : (cx.spec f).In) (out : (cx.spec f).Out) (h : callF cx k f inp = some out) : Go.Rf.Contract cx f inp out := (Go.Rf.run_ok good (fun f g inp out h h2 => by
  have h : extR f = some g := h
  by_cases e : f = 70
  · subst e
    obtain rfl := Option.some.inj h
    exact text_contract inp out h2
  · exfalso
    unfold extR at h
    split at h
    · exact e rfl
    · cases h) k).1 f inp out h
end Go.Proofs.YtdmcibaoebmieaaDoor.R
/-! Rf, limbs: noughts at the end; which is greater. -/
namespace Go.Proofs.YtdmcibaoebmieaaDoor.R
open Go.Rf

theorem trimL : ∀ (n : Nat) (l : List Int), l.length = n → n ≤ 1000000 → InR l → Ev (fun k => F93c1 k l) ((digs (VI l).toNat, ()), ((), ())) := by
  intro n
  induction n with
  | zero =>
    intro l hl _ _
    obtain rfl := List.eq_nil_of_length_eq_zero hl
    refine Ev.step 1 (fun k => F93c1_eq k _) ?_
    simp only [List.length_nil, Int.ofNat_zero, gt_iff_lt, Int.lt_irrefl, decide_false, Bool.false_eq_true, if_false, VI, Int.toNat_zero, digs_zero]
    exact Ev.now _
  | succ n ih =>
    intro l hl hn hr
    have hlt : n < l.length := by omega
    refine Ev.step 1 (fun k => F93c1_eq k _) ?_
    simp only [gt_true (show 0 < l.length by omega), pred_len hl (by omega), ge0, if_true, Int.toNat_natCast, getI_of hlt, Option.bind_some, le_true (show n ≤ l.length by omega), Bool.and_self, slices0]
    cases h0 : (l.getD n 0 == 0) with
    | true =>
      have h0 : l.getD n 0 = 0 := by simpa using h0
      have hv : VI (l.take n) = VI l := VI_take_zero (fun i h1 h2 => by
        have : i = n := by omega
        rw [this, h0])
      have := ih (l.take n) (by rw [List.length_take]; omega) (by omega) (hr.take n)
      rw [hv] at this
      simpa only [if_true] using this
    | false =>
      have h0 : l.getD n 0 ≠ 0 := by simpa using h0
      rw [digs_VI hr (.inr (by rw [hl]; exact h0))]
      simp only [Bool.false_eq_true, if_false]
      exact Ev.now _
theorem trim_ev {l : List Int} (hr : InR l) (hl : l.length ≤ 1000000) : Ev (fun k => F93 k l) ((digs (VI l).toNat, ()), ((), ())) := Ev.step 2 (fun k => F93_eq k l) (trimL l.length l rfl hl hr)
theorem l1Trim_ev {l : List Int} (hr : InR l) (hl : l.length ≤ 1000000) : Ev (fun k => F90 k l) ((digs (VI l).toNat, ()), ((), ())) := by
  have key : ∀ n, n ≤ l.length → (∀ i, n ≤ i → i < l.length → l.getD i 0 = 0) → Ev (fun k => F90c2 k l (n : Int)) ((digs (VI l).toNat, ()), ((), ())) := by
    intro n
    induction n with
    | zero =>
      intro _ h0
      have hs := trim_upto (Nat.zero_le _) h0 (.inl rfl) hr
      refine Ev.step 1 (fun k => F90c2_eq k _ _) ?_
      have hc : decide (([] : List Int).length + (digs (VI l).toNat).length ≤ 17592186044416) = true := by rw [← hs]; simp
      have h1 : decide (((0 : Nat) : Int) > 0) = false := by decide
      simp only [h1, ge0, le_true (Nat.zero_le l.length), Bool.and_self, Bool.false_eq_true, if_false, if_true, Int.toNat_natCast, slices0, hc, List.nil_append, hs]
      exact Ev.now _
    | succ n ih =>
      intro hn h0
      have hlt : n < l.length := by omega
      have h1 : decide (((n + 1 : Nat) : Int) > 0) = true := decide_eq_true (by omega)
      have h2 : IntKind.i64.wrap (((n + 1 : Nat) : Int) - 1) = (n : Int) := by rw [wrap64 (by omega) (by omega)]; omega
      refine Ev.step 1 (fun k => F90c2_eq k _ _) ?_
      simp only [h1, h2, ge0, if_true, Int.toNat_natCast, getI_of hlt, Option.bind_some]
      cases hz : (l.getD n 0 == 0) with
      | true =>
        simp only [if_true]
        refine ih (by omega) fun i h3 h4 => ?_
        rcases Nat.eq_or_lt_of_le h3 with rfl | h5
        · simpa using hz
        · exact h0 i h5 h4
      | false =>
        have hz : l.getD n 0 ≠ 0 := by simpa using hz
        have hs := trim_upto hn h0 (.inr (by simpa using hz)) hr
        have hc : decide (([] : List Int).length + (digs (VI l).toNat).length ≤ 17592186044416) = true := by rw [← hs]; simp; omega
        simp only [Bool.false_eq_true, if_false, le_true hn, Bool.and_self, if_true, slices0, hc, List.nil_append, hs]
        exact Ev.now _
  exact Ev.step 2 (fun k => F90_eq k l) (key l.length (Nat.le_refl _) (fun i h1 h2 => by omega))
theorem digs_len_le {n : Nat} {m : Nat} (h : n < 10000 ^ m) : (digs n).length ≤ m := by
  induction m generalizing n with
  | zero =>
    have : n = 0 := by simp at h; omega
    rw [this, digs_zero]
    simp
  | succ m ih =>
    by_cases h0 : n = 0
    · rw [h0, digs_zero]
      simp
    · rw [digs_pos h0, List.length_cons]
      have := ih (n := n / 10000) (by rw [Nat.pow_succ] at h; omega)
      omega
section
variable {a b : List Int} {A B : Nat}
theorem l1CmpAbs_ev (ha : InR a) (hb : InR b) (ta : Trim a) (tb : Trim b) (hA : VI a = (A : Int)) (hB : VI b = (B : Int)) (la : a.length ≤ 1000000) : Ev (fun k => F118 k a b) ((cmpI A B, ()), ((), (), ())) := by
  refine Ev.step 2 (fun k => F118_eq k a b) ?_
  by_cases hl : a.length = b.length
  · have h0 : ((a.length : Int) != (b.length : Int)) = false := by simp [hl]
    simp only [h0, Bool.false_eq_true, if_false]
    have key : ∀ m, m ≤ a.length → (∀ j, m ≤ j → j < a.length → a.getD j 0 = b.getD j 0) → Ev (fun k => F118c6 k a b ((m : Int) - 1)) ((cmpI A B, ()), ((), (), ())) := by
      intro m
      induction m with
      | zero =>
        intro _ h
        have := ext_getD hl (fun j hj => h j (by omega) hj)
        have hAB : A = B := by rw [this, hB] at hA; omega
        rw [hAB, cmpI_eq]
        exact Ev.step 1 (fun k => F118c6_eq k _ _ _) (Ev.now _)
      | succ m ih =>
        intro hm h
        have e : ((m + 1 : Nat) : Int) - 1 = (m : Int) := by omega
        have hma : m < a.length := by omega
        have hmb : m < b.length := by omega
        have hge : decide ((m : Int) ≥ 0) = true := by simp
        have r1 := ha.at hma
        have r2 := hb.at hmb
        rw [e]
        refine Ev.step 1 (fun k => F118c6_eq k _ _ _) ?_
        simp only [hge, if_true, Int.toNat_natCast, getI_of hma, getI_of hmb, Option.bind_some]
        rcases Int.lt_trichotomy (a.getD m 0) (b.getD m 0) with hlt | heq | hgt
        · have := VI_first_lt hl hma (fun j h1 h2 => h j h1 h2) hlt ha hb
          rw [cmpI_lt (by omega)]
          simp only [hlt, decide_true, if_true]
          exact Ev.now _
        · have n1 : ¬ a.getD m 0 < b.getD m 0 := by omega
          have n2 : ¬ a.getD m 0 > b.getD m 0 := by omega
          simp only [n1, n2, decide_false, Bool.false_eq_true, if_false]
          rw [wrap64 (by omega) (by omega)]
          refine ih (by omega) fun j h1 h2 => ?_
          rcases Nat.eq_or_lt_of_le h1 with rfl | h3
          · exact heq
          · exact h j h3 h2
        · have := VI_first_lt hl.symm hmb (fun j h1 h2 => (h j h1 (by omega)).symm) hgt hb ha
          rw [cmpI_gt (by omega)]
          have n1 : ¬ a.getD m 0 < b.getD m 0 := by omega
          have n2 : a.getD m 0 > b.getD m 0 := by omega
          simp only [n1, n2, decide_false, decide_true, Bool.false_eq_true, if_false, if_true]
          exact Ev.now _
    rw [wrap64 (by omega) (by omega)]
    exact key a.length (Nat.le_refl _) (fun j h1 h2 => by omega)
  · have h0 : ((a.length : Int) != (b.length : Int)) = true := by simp; omega
    simp only [h0, if_true]
    rcases Nat.lt_or_ge a.length b.length with h1 | h1
    · have := VI_len_lt ha hb tb h1
      rw [cmpI_lt (by omega)]
      simp only [lt_true h1, if_true]
      exact Ev.now _
    · have := VI_len_lt hb ha ta (by omega)
      rw [cmpI_gt (by omega)]
      simp only [lt_false h1, Bool.false_eq_true, if_false]
      exact Ev.now _
theorem clamp_neg {D : Int} (h : D < 0) : (if (if D < 1 then D else 1) > -1 then (if D < 1 then D else 1) else -1) = -1 := by
  rw [if_pos (show D < 1 by omega), if_neg (by omega)]
theorem clamp_pos {D : Int} (h : 0 < D) : (if (if D < 1 then D else 1) > -1 then (if D < 1 then D else 1) else -1) = 1 := by
  rw [if_neg (show ¬ D < 1 by omega), if_pos (by omega)]
theorem cmp_ev (ha : InR a) (hb : InR b) (ta : Trim a) (tb : Trim b) (hA : VI a = (A : Int)) (hB : VI b = (B : Int)) (la : a.length ≤ 1000000) (lb : b.length ≤ 1000000) : Ev (fun k => F95 k a b) ((cmpI A B, ()), ((), (), ())) := by
  refine Ev.step 2 (fun k => F95_eq k a b) ?_
  by_cases hl : a.length = b.length
  · have h0 : ((a.length : Int) != (b.length : Int)) = false := by simp [hl]
    simp only [h0, Bool.false_eq_true, if_false]
    have key : ∀ m, m ≤ a.length → (∀ j, m ≤ j → j < a.length → a.getD j 0 = b.getD j 0) → Ev (fun k => F95c4 k a b ((m : Int) - 1)) ((cmpI A B, ()), ((), (), ())) := by
      intro m
      induction m with
      | zero =>
        intro _ h
        have := ext_getD hl (fun j hj => h j (by omega) hj)
        have hAB : A = B := by rw [this, hB] at hA; omega
        rw [hAB, cmpI_eq]
        exact Ev.step 1 (fun k => F95c4_eq k _ _ _) (Ev.now _)
      | succ m ih =>
        intro hm h
        have e : ((m + 1 : Nat) : Int) - 1 = (m : Int) := by omega
        have hma : m < a.length := by omega
        have hmb : m < b.length := by omega
        have hge : decide ((m : Int) ≥ 0) = true := by simp
        have r1 := ha.at hma
        have r2 := hb.at hmb
        rw [e]
        refine Ev.step 1 (fun k => F95c4_eq k _ _ _) ?_
        simp only [hge, if_true, Int.toNat_natCast, getI_of hma, getI_of hmb, Option.bind_some]
        rcases Int.lt_trichotomy (a.getD m 0) (b.getD m 0) with hlt | heq | hgt
        · have := VI_first_lt hl hma (fun j h1 h2 => h j h1 h2) hlt ha hb
          have hne : (a.getD m 0 != b.getD m 0) = true := bne_iff_ne.2 (by omega)
          rw [cmpI_lt (by omega), wrap64 (n := a.getD m 0 - b.getD m 0) (by omega) (by omega)]
          simp only [hne, if_true, clamp_neg (show a.getD m 0 - b.getD m 0 < 0 by omega)]
          exact Ev.now _
        · have hne : (a.getD m 0 != b.getD m 0) = false := by rw [heq, bne_self_eq_false]
          simp only [hne, Bool.false_eq_true, if_false]
          rw [wrap64 (by omega) (by omega)]
          refine ih (by omega) fun j h1 h2 => ?_
          rcases Nat.eq_or_lt_of_le h1 with rfl | h3
          · exact heq
          · exact h j h3 h2
        · have := VI_first_lt hl.symm hmb (fun j h1 h2 => (h j h1 (by omega)).symm) hgt hb ha
          have hne : (a.getD m 0 != b.getD m 0) = true := bne_iff_ne.2 (by omega)
          rw [cmpI_gt (by omega), wrap64 (n := a.getD m 0 - b.getD m 0) (by omega) (by omega)]
          simp only [hne, if_true, clamp_pos (show 0 < a.getD m 0 - b.getD m 0 by omega)]
          exact Ev.now _
    rw [wrap64 (by omega) (by omega)]
    exact key a.length (Nat.le_refl _) (fun j h1 h2 => by omega)
  · have h0 : ((a.length : Int) != (b.length : Int)) = true := by simp; omega
    simp only [h0, if_true]
    rw [wrap64 (n := (a.length : Int) - b.length) (by omega) (by omega)]
    rcases Nat.lt_or_ge a.length b.length with h1 | h1
    · have := VI_len_lt ha hb tb h1
      rw [cmpI_lt (by omega), clamp_neg (by omega)]
      exact Ev.now _
    · have := VI_len_lt hb ha ta (by omega)
      rw [cmpI_gt (by omega), clamp_pos (by omega)]
      exact Ev.now _
end
end Go.Proofs.YtdmcibaoebmieaaDoor.R
/-! Rf, limbs: sums and differences. -/
namespace Go.Proofs.YtdmcibaoebmieaaDoor.R
open Go.Rf
section
variable {a b : List Int} {A B : Nat}
/-- the carry runs up -/
theorem addC {M : Nat} (hM : M ≤ 200001) {S : Int} : ∀ (m i : Nat) (x : List Int), i + m = M → x.length = M + 1 → VI x = S → (∀ j, j < i → 0 ≤ x.getD j 0 ∧ x.getD j 0 ≤ 9999) → (∀ j, i < j → j < M → 0 ≤ x.getD j 0 ∧ x.getD j 0 ≤ 19998) →
    (0 ≤ x.getD i 0 ∧ x.getD i 0 ≤ 19999) → (i < M → x.getD M 0 = 0) → (i = M → x.getD M 0 ≤ 1) → Ev (fun k => F102c9 k x (M : Int) (i : Int)) ((digs S.toNat, ()), ((), (), ())) := by
  intro m
  induction m with
  | zero =>
    intro i x hi hx hS h1 h2 h3 h4 h5
    have hiM : i = M := by omega
    subst hiM
    refine Ev.step 1 (fun k => F102c9_eq k _ _ _) ?_
    simp only [lt_false (Nat.le_refl i), Bool.false_eq_true, if_false]
    have hr : InR x := InR.of fun j hj => by
      rcases Nat.eq_or_lt_of_le (show j ≤ i by omega) with rfl | h6
      · have := h5 rfl
        omega
      · exact h1 j h6
    have := trim_ev hr (by omega)
    rw [hS] at this
    exact Ev.bind this (Ev.now _)
  | succ m ih =>
    intro i x hi hx hS h1 h2 h3 h4 _
    have hiM : i < M := by omega
    have l0 : i < x.length := by omega
    have l1 : i + 1 < x.length := by omega
    have r1 : 0 ≤ x.getD (i + 1) 0 ∧ x.getD (i + 1) 0 ≤ 19998 := by
      rcases Nat.eq_or_lt_of_le (show i + 1 ≤ M by omega) with h6 | h6
      · rw [h6, h4 hiM]
        omega
      · exact h2 (i + 1) (by omega) h6
    have hq : 0 ≤ x.getD i 0 / 10000 ∧ x.getD i 0 / 10000 ≤ 1 := by omega
    have hset : i < (x.set (i + 1) (x.getD (i + 1) 0 + x.getD i 0 / 10000)).length := by rw [List.length_set]; omega
    have hget : (x.set (i + 1) (x.getD (i + 1) 0 + x.getD i 0 / 10000)).getD i 0 = x.getD i 0 := by rw [getI_set l1, if_neg (by omega)]
    have hS' : VI ((x.set (i + 1) (x.getD (i + 1) 0 + x.getD i 0 / 10000)).set i (x.getD i 0 % 10000)) = S := by
      rw [VI_carry l1 rfl (by omega), hS]
    have hgets : ∀ j, ((x.set (i + 1) (x.getD (i + 1) 0 + x.getD i 0 / 10000)).set i (x.getD i 0 % 10000)).getD j 0 = if j = i then x.getD i 0 % 10000 else if j = i + 1 then x.getD (i + 1) 0 + x.getD i 0 / 10000 else x.getD j 0 := fun j => getI_set2 l1
    refine Ev.step 1 (fun k => F102c9_eq k _ _ _) ?_
    have w1 : IntKind.i64.wrap (x.getD i 0 / 10000) = x.getD i 0 / 10000 := wrap64 (by omega) (by omega)
    have w2 : IntKind.i64.wrap (x.getD (i + 1) 0 + x.getD i 0 / 10000) = x.getD (i + 1) 0 + x.getD i 0 / 10000 := wrap64 (by omega) (by omega)
    simp only [lt_true hiM, wrap_succ (show i < 9223372036854775807 by omega), ge0, lt_true l1, lt_true l0, Bool.and_self, if_true, Int.toNat_natCast, getI_of l1, getI_of l0, Option.bind_some, tdiv_pos h3.1, w1, w2, lt_true hset, getI_of hset, hget, tmod_pos h3.1]
    refine ih (i + 1) _ (by omega) (by simpa using hx) hS' (fun j hj => ?_) (fun j hj hj2 => ?_) ?_ (fun hj => ?_) (fun hj => ?_)
    · rw [hgets]
      split
      · omega
      · rw [if_neg (by omega)]
        exact h1 j (by omega)
    · rw [hgets, if_neg (by omega), if_neg (by omega)]
      exact h2 j (by omega) hj2
    · rw [hgets, if_neg (by omega), if_pos rfl]
      omega
    · rw [hgets, if_neg (by omega), if_neg (by omega)]
      exact h4 hiM
    · rw [hgets, if_neg (by omega), if_pos hj.symm]
      have : x.getD (i + 1) 0 = 0 := by rw [hj]; exact h4 hiM
      omega
theorem add_ev (ha : InR a) (hb : InR b) (la : a.length ≤ 100000) (lb : b.length ≤ 100000) : Ev (fun k => F102 k a b) ((digs (VI a + VI b).toNat, ()), ((), (), ())) := by
  obtain ⟨M, hM⟩ : ∃ M, M = max a.length b.length := ⟨_, rfl⟩
  have h1 : (if (b.length : Int) > (a.length : Int) then (b.length : Int) else (a.length : Int)) = (M : Int) := by
    split <;> omega
  have h2 : IntKind.i64.wrap ((M : Int) + 1) = ((M + 1 : Nat) : Int) := wrap_succ (by omega)
  have hc : decide (((M + 1 : Nat) : Int) ≤ (17592186044416 : Int)) = true := decide_eq_true (by omega)
  have hinit : a.take (List.replicate (M + 1) (0 : Int)).length ++ (List.replicate (M + 1) (0 : Int)).drop a.length = a ++ List.replicate (M + 1 - a.length) 0 := by
    rw [List.length_replicate, List.take_of_length_le (by omega), List.drop_replicate]
  refine Ev.step 2 (fun k => F102_eq k a b) ?_
  simp only [h1, h2, ge0, le_true (Nat.le_refl (M + 1)), hc, Bool.and_self, if_true, Int.toNat_natCast, hinit]
  have key : ∀ (m i : Nat) (x : List Int), i + m = b.length → x.length = M + 1 → VI x = VI a + VI (b.take i) → (∀ j, j < i → 0 ≤ x.getD j 0 ∧ x.getD j 0 ≤ 19998) → (∀ j, i ≤ j → j < M → 0 ≤ x.getD j 0 ∧ x.getD j 0 ≤ 9999) → x.getD M 0 = 0 →
      Ev (fun k => F102c4 k x b (b.length : Int) (i : Int)) ((digs (VI a + VI b).toNat, ()), ((), (), ())) := by
    intro m
    induction m with
    | zero =>
      intro i x hi hx hV g1 g2 g3
      have hib : i = b.length := by omega
      subst hib
      refine Ev.step 1 (fun k => F102c4_eq k _ _ _ _) ?_
      have hl : IntKind.i64.wrap ((x.length : Int) - 1) = (M : Int) := pred_len hx (by omega)
      simp only [lt_false (Nat.le_refl b.length), Bool.false_eq_true, if_false, hl]
      rw [VI_take_all] at hV
      have hall : ∀ j, j < M → 0 ≤ x.getD j 0 ∧ x.getD j 0 ≤ 19998 := fun j hj => by
        rcases Nat.lt_or_ge j b.length with h | h
        · exact g1 j h
        · have := g2 j h hj
          omega
      refine addC (by omega) M 0 x (by omega) hx hV (fun j hj => by omega) (fun j _ hj => hall j hj) ?_ (fun _ => g3) (fun _ => by omega)
      rcases Nat.eq_zero_or_pos M with h | h
      · rw [h] at g3
        omega
      · have := hall 0 h
        omega
    | succ m ih =>
      intro i x hi hx hV g1 g2 g3
      have hib : i < b.length := by omega
      have l0 : i < x.length := by omega
      have rb := hb.at hib
      have rx := g2 i (Nat.le_refl _) (by omega)
      have w1 : IntKind.i64.wrap (x.getD i 0 + b.getD i 0) = x.getD i 0 + b.getD i 0 := wrap64 (by omega) (by omega)
      refine Ev.step 1 (fun k => F102c4_eq k _ _ _ _) ?_
      simp only [lt_true hib, lt_true l0, ge0, Bool.and_self, if_true, Int.toNat_natCast, getI_of hib, getI_of l0, Option.bind_some, w1, wrap_succ (show i < 9223372036854775807 by omega)]
      refine ih (i + 1) _ (by omega) (by simpa using hx) ?_ (fun j hj => ?_) (fun j hj hj2 => ?_) ?_
      · rw [VI_set l0, VI_take_succ hib, hV]
        grind
      · rw [getI_set l0]
        split
        · omega
        · exact g1 j (by omega)
      · rw [getI_set l0, if_neg (by omega)]
        exact g2 j (by omega) hj2
      · rw [getI_set l0, if_neg (by omega)]
        exact g3
  have hpad : ∀ j, (a ++ List.replicate (M + 1 - a.length) (0 : Int)).getD j 0 = a.getD j 0 := fun j => by
    rw [List.getD_eq_getElem?_getD, List.getD_eq_getElem?_getD]
    rcases Nat.lt_or_ge j a.length with h | h
    · rw [List.getElem?_append_left h]
    · rw [List.getElem?_append_right h, List.getElem?_eq_none h, List.getElem?_replicate]
      split <;> rfl
  have := key b.length 0 (a ++ List.replicate (M + 1 - a.length) 0) (by omega) (by simp; omega) (by rw [VI_pad]; simp [VI]) (fun j hj => by omega) (fun j _ hj => by
    rw [hpad]
    rcases Nat.lt_or_ge j a.length with h | h
    · exact ha.at h
    · rw [List.getD_eq_getElem?_getD, List.getElem?_eq_none h]
      exact ⟨Int.le_refl _, by decide⟩) (by rw [hpad, List.getD_eq_getElem?_getD, List.getElem?_eq_none (by omega)]; rfl)
  exact this
theorem clone_ev (l : List Int) (h : l.length ≤ 1000000) : Ev (fun k => F122 k l) ((l, ()), ((), ())) := by
  refine Ev.step 2 (fun k => F122_eq k l) ?_
  have hc : decide (([] : List Int).length + l.length ≤ 17592186044416) = true := decide_eq_true (by simp; omega)
  simp only [hc, if_true, List.nil_append]
  cases l with
  | nil =>
    rw [bothK_same]
    exact Ev.now _
  | cons x l =>
    have : emptyL (x :: l) = false := rfl
    rw [this, bothK_false]
    exact Ev.now _
theorem VI_last {l : List Int} {n : Nat} (h : l.length = n + 1) : VI l = VI (l.take n) + l.getD n 0 * 10000 ^ n := by
  rw [← VI_take_succ (by omega), ← h, List.take_length]
/-- the borrow runs up -/
theorem subC {M : Nat} (hM : M ≤ 200001) {S : Int} (hS0 : 0 ≤ S) : ∀ (m i : Nat) (x : List Int), i + m = M → x.length = M → VI x = S → (∀ j, j < i → 0 ≤ x.getD j 0 ∧ x.getD j 0 ≤ 9999) → (∀ j, i < j → j < M → -9999 ≤ x.getD j 0 ∧ x.getD j 0 ≤ 9999) →
    (i < M → -10000 ≤ x.getD i 0 ∧ x.getD i 0 ≤ 9999) → Ev (fun k => F96c8 k x (M : Int) (i : Int)) ((digs S.toNat, ()), ((), (), ())) := by
  intro m
  induction m with
  | zero =>
    intro i x hi hx hS h1 _ _
    have hiM : i = M := by omega
    subst hiM
    refine Ev.step 1 (fun k => F96c8_eq k _ _ _) ?_
    simp only [lt_false (Nat.le_refl i), Bool.false_eq_true, if_false]
    have hr : InR x := InR.of fun j hj => h1 j (by omega)
    have := trim_ev hr (by omega)
    rw [hS] at this
    exact Ev.bind this (Ev.now _)
  | succ m ih =>
    intro i x hi hx hS h1 h2 h3
    have hiM : i < M := by omega
    have l0 : i < x.length := by omega
    have r0 := h3 hiM
    refine Ev.step 1 (fun k => F96c8_eq k _ _ _) ?_
    simp only [lt_true hiM, lt_true l0, ge0, Bool.and_self, if_true, Int.toNat_natCast, getI_of l0, Option.bind_some]
    by_cases hneg : x.getD i 0 < 0
    · have l1 : i + 1 < x.length := by
        rcases Nat.lt_or_ge (i + 1) x.length with h | h
        · exact h
        · exfalso
          have hx1 : x.length = i + 1 := by omega
          have hr : InR (x.take i) := InR.of fun j hj => by
            have hj' : j < i := by rw [List.length_take] at hj; omega
            have := h1 j hj'
            rw [List.getD_eq_getElem?_getD, List.getElem?_take_of_lt hj', ← List.getD_eq_getElem?_getD]
            exact this
          have h4 := VI_lt hr
          rw [List.length_take, Nat.min_eq_left (by omega)] at h4
          have h5 := VI_last hx1
          rw [hS] at h5
          have h6 : x.getD i 0 * 10000 ^ i ≤ -1 * 10000 ^ i := Int.mul_le_mul_of_nonneg_right (by omega) (Int.le_of_lt (pow_pos i))
          omega
      have hset : i + 1 < (x.set i (x.getD i 0 + 10000)).length := by rw [List.length_set]; exact l1
      have w1 : IntKind.i64.wrap (x.getD i 0 + 10000) = x.getD i 0 + 10000 := wrap64 (by omega) (by omega)
      have r1 := h2 (i + 1) (by omega) (by omega)
      have hget : (x.set i (x.getD i 0 + 10000)).getD (i + 1) 0 = x.getD (i + 1) 0 := by rw [getI_set l0, if_neg (by omega)]
      have w2 : IntKind.i64.wrap (x.getD (i + 1) 0 - 1) = x.getD (i + 1) 0 - 1 := wrap64 (by omega) (by omega)
      simp only [hneg, decide_true, if_true, wrap_succ (show i < 9223372036854775807 by omega), ge0, w1, lt_true hset, Bool.and_self, Int.toNat_natCast, getI_of hset, Option.bind_some, hget, w2]
      refine Ev.step 1 (fun k => F96c13_eq k _ _ _) ?_
      rw [wrap_succ (by omega)]
      have hgets : ∀ j, ((x.set i (x.getD i 0 + 10000)).set (i + 1) (x.getD (i + 1) 0 - 1)).getD j 0 = if j = i + 1 then x.getD (i + 1) 0 - 1 else if j = i then x.getD i 0 + 10000 else x.getD j 0 := fun j => by
        rw [getI_set hset, getI_set l0]
      refine ih (i + 1) _ (by omega) (by simpa using hx) ?_ (fun j hj => ?_) (fun j hj hj2 => ?_) (fun hj => ?_)
      · rw [VI_set hset, VI_set l0, hget, hS, Int.pow_succ]
        grind
      · rw [hgets, if_neg (by omega)]
        split
        · omega
        · exact h1 j (by omega)
      · rw [hgets, if_neg (by omega), if_neg (by omega)]
        exact h2 j (by omega) hj2
      · rw [hgets, if_pos rfl]
        omega
    · simp only [hneg, decide_false, Bool.false_eq_true, if_false]
      refine Ev.step 1 (fun k => F96c13_eq k _ _ _) ?_
      rw [wrap_succ (by omega)]
      refine ih (i + 1) _ (by omega) hx hS (fun j hj => ?_) (fun j hj hj2 => h2 j (by omega) hj2) (fun hj => ?_)
      · rcases Nat.eq_or_lt_of_le (Nat.le_of_lt_succ hj) with rfl | h
        · omega
        · exact h1 j h
      · have := h2 (i + 1) (by omega) hj
        omega
theorem sub_ev (ha : InR a) (hb : InR b) (tb : Trim b) (la : a.length ≤ 100000) (hle : VI b ≤ VI a) : Ev (fun k => F96 k a b) ((digs (VI a - VI b).toNat, ()), ((), (), ())) := by
  have hlen : b.length ≤ a.length := by
    rcases Nat.lt_or_ge a.length b.length with h | h
    · have := VI_len_lt ha hb tb h
      omega
    · exact h
  refine Ev.step 2 (fun k => F96_eq k a b) (Ev.bind (clone_ev a (by omega)) ?_)
  have key : ∀ (m i : Nat) (x : List Int), i + m = b.length → x.length = a.length → VI x = VI a - VI (b.take i) → (∀ j, j < i → -9999 ≤ x.getD j 0 ∧ x.getD j 0 ≤ 9999) → (∀ j, i ≤ j → j < a.length → 0 ≤ x.getD j 0 ∧ x.getD j 0 ≤ 9999) →
      Ev (fun k => F96c3 k x b (b.length : Int) (i : Int)) ((digs (VI a - VI b).toNat, ()), ((), (), ())) := by
    intro m
    induction m with
    | zero =>
      intro i x hi hx hV g1 g2
      have hib : i = b.length := by omega
      subst hib
      refine Ev.step 1 (fun k => F96c3_eq k _ _ _ _) ?_
      simp only [lt_false (Nat.le_refl b.length), Bool.false_eq_true, if_false]
      rw [VI_take_all] at hV
      have hall : ∀ j, j < x.length → -9999 ≤ x.getD j 0 ∧ x.getD j 0 ≤ 9999 := fun j hj => by
        rcases Nat.lt_or_ge j b.length with h | h
        · exact g1 j h
        · have := g2 j h (by omega)
          omega
      exact subC (by omega) (by omega) x.length 0 x (by omega) rfl hV (fun j hj => by omega) (fun j _ hj => hall j hj) (fun hj => by have := hall 0 hj; omega)
    | succ m ih =>
      intro i x hi hx hV g1 g2
      have hib : i < b.length := by omega
      have l0 : i < x.length := by omega
      have rb := hb.at hib
      have rx := g2 i (Nat.le_refl _) (by omega)
      have w1 : IntKind.i64.wrap (x.getD i 0 - b.getD i 0) = x.getD i 0 - b.getD i 0 := wrap64 (by omega) (by omega)
      refine Ev.step 1 (fun k => F96c3_eq k _ _ _ _) ?_
      simp only [lt_true hib, lt_true l0, ge0, Bool.and_self, if_true, Int.toNat_natCast, getI_of hib, getI_of l0, Option.bind_some, w1, wrap_succ (show i < 9223372036854775807 by omega)]
      refine ih (i + 1) _ (by omega) (by simpa using hx) ?_ (fun j hj => ?_) (fun j hj hj2 => ?_)
      · rw [VI_set l0, VI_take_succ hib, hV]
        grind
      · rw [getI_set l0]
        split
        · omega
        · exact g1 j (by omega)
      · rw [getI_set l0, if_neg (by omega)]
        exact g2 j (by omega) hj2
  exact key b.length 0 a (by omega) rfl (by simp [VI]) (fun j hj => by omega) (fun j _ hj => ha.at hj)
end
end Go.Proofs.YtdmcibaoebmieaaDoor.R
/-! Rf, limbs: products, powers of ten. -/
namespace Go.Proofs.YtdmcibaoebmieaaDoor.R
open Go.Rf
theorem mul_small {x y : Int} (hx : 0 ≤ x ∧ x ≤ 9999) (hy : 0 ≤ y ∧ y ≤ 9999) : 0 ≤ x * y ∧ x * y ≤ 99980001 := by
  refine ⟨Int.mul_nonneg hx.1 hy.1, ?_⟩
  have := Int.mul_le_mul hx.2 hy.2 hy.1 (show (0 : Int) ≤ 9999 by omega)
  omega
theorem addN {i k : Nat} (h : i + k < 4611686018427387904) : IntKind.i64.wrap ((i : Int) + (k : Int)) = ((i + k : Nat) : Int) := by
  rw [wrap64 (by omega) (by omega)]
  omega
/-- one limb more of a product's row -/
theorem VI_row {x : List Int} {i k : Nat} {V0 ai c s n : Int} {b : List Int} (hk : k < b.length) (hx : i + k < x.length) (hV : VI x + c * 10000 ^ (i + k) = V0 + ai * VI (b.take k) * 10000 ^ i) (hn : n = x.getD (i + k) 0 + ai * b.getD k 0 + c) (hs : s = n % 10000) :
    VI (x.set (i + k) s) + n / 10000 * 10000 ^ (i + (k + 1)) = V0 + ai * VI (b.take (k + 1)) * 10000 ^ i := by
  have e1 : n = 10000 * (n / 10000) + s := by omega
  have e2 : (10000 : Int) ^ (i + (k + 1)) = 10000 ^ (i + k) * 10000 := by rw [← Nat.add_assoc, Int.pow_succ]
  have e3 : (10000 : Int) ^ (i + k) = 10000 ^ i * 10000 ^ k := Int.pow_add 10000 i k
  rw [VI_set hx, VI_take_succ hk, e2]
  rw [e3] at hV ⊢
  grind
section
variable {a b : List Int}
theorem mulI (ha : InR a) (hb : InR b) (la : a.length ≤ 100000) (lb : b.length ≤ 100000) {i : Nat} (hi : i < a.length) {V0 : Int} {R : (List Int × Unit) × (Unit × Unit × Unit)}
    (hR : ∀ x : List Int, x.length = a.length + b.length + 1 → VI x = V0 + a.getD i 0 * VI b * 10000 ^ i → InR x → (∀ j, i + 1 + b.length ≤ j → x.getD j 0 = 0) → Ev (fun k => F66c3 k b x a (a.length : Int) ((i + 1 : Nat) : Int)) R) :
    ∀ (m n : Nat) (x : List Int) (c : Int), n + m = b.length → x.length = a.length + b.length + 1 → VI x + c * 10000 ^ (i + n) = V0 + a.getD i 0 * VI (b.take n) * 10000 ^ i → InR x → (0 ≤ c ∧ c ≤ 9999) → (∀ j, i + b.length ≤ j → x.getD j 0 = 0) →
    Ev (fun k => F66c7 k b x (i : Int) (a.getD i 0) c a (a.length : Int) (i : Int) b (b.length : Int) (n : Int)) R := by
  intro m
  induction m with
  | zero =>
    intro n x c hn hx hV hr hc h0
    have hnb : n = b.length := by omega
    subst hnb
    have l0 : i + b.length < x.length := by omega
    have hz := h0 (i + b.length) (Nat.le_refl _)
    have w1 : IntKind.i64.wrap (0 + c) = c := by rw [wrap64 (by omega) (by omega)]; omega
    refine Ev.step 1 (fun k => F66c7_eq k _ _ _ _ _ _ _ _ _ _ _) ?_
    simp only [lt_false (Nat.le_refl b.length), Bool.false_eq_true, if_false, addN (show i + b.length < 4611686018427387904 by omega), ge0, lt_true l0, Bool.and_self, if_true, Int.toNat_natCast, getI_of l0, Option.bind_some, hz, w1, wrap_succ (show i < 9223372036854775807 by omega)]
    rw [VI_take_all] at hV
    refine hR _ (by simpa using hx) ?_ (InR.of fun j hj => ?_) (fun j hj => ?_)
    · rw [VI_set l0, hz, ← hV, Int.sub_zero]
    · rw [getI_set l0]
      split
      · omega
      · exact hr.at (by simpa using hj)
    · rw [getI_set l0, if_neg (by omega)]
      exact h0 j (by omega)
  | succ m ih =>
    intro n x c hn hx hV hr hc h0
    have hnb : n < b.length := by omega
    have l0 : i + n < x.length := by omega
    have ra := ha.at hi
    have rb := hb.at hnb
    have rx := hr.at l0
    have rm := mul_small ra rb
    obtain ⟨v, hv⟩ : ∃ v, v = x.getD (i + n) 0 + a.getD i 0 * b.getD n 0 + c := ⟨_, rfl⟩
    have w1 : IntKind.i64.wrap (a.getD i 0 * b.getD n 0) = a.getD i 0 * b.getD n 0 := wrap64 (by omega) (by omega)
    have w2 : IntKind.i64.wrap (x.getD (i + n) 0 + a.getD i 0 * b.getD n 0) = x.getD (i + n) 0 + a.getD i 0 * b.getD n 0 := wrap64 (by omega) (by omega)
    have w3 : IntKind.i64.wrap v = v := wrap64 (by omega) (by omega)
    have hv0 : 0 ≤ v := by omega
    refine Ev.step 1 (fun k => F66c7_eq k _ _ _ _ _ _ _ _ _ _ _) ?_
    simp only [lt_true hnb, addN (show i + n < 4611686018427387904 by omega), ge0, lt_true l0, Bool.and_self, if_true, Int.toNat_natCast, getI_of hnb, getI_of l0, Option.bind_some, w1, w2, ← hv, w3, tdiv_pos hv0, tmod_pos hv0, wrap_succ (show n < 9223372036854775807 by omega)]
    rw [wrap64 (n := v / 10000) (by omega) (by omega)]
    refine ih (n + 1) _ _ (by omega) (by simpa using hx) (VI_row hnb l0 hV hv rfl) (InR.of fun j hj => ?_) (by omega) (fun j hj => ?_)
    · rw [getI_set l0]
      split
      · omega
      · exact hr.at (by simpa using hj)
    · rw [getI_set l0, if_neg (by omega)]
      exact h0 j hj
theorem mul_ev (ha : InR a) (hb : InR b) (la : a.length ≤ 100000) (lb : b.length ≤ 100000) : Ev (fun k => F66 k a b) ((digs (VI a * VI b).toNat, ()), ((), (), ())) := by
  have e1 : IntKind.i64.wrap (((a.length + b.length : Nat) : Int) + 1) = ((a.length + b.length + 1 : Nat) : Int) := wrap_succ (by omega)
  have hc : decide (((a.length + b.length + 1 : Nat) : Int) ≤ (17592186044416 : Int)) = true := decide_eq_true (by omega)
  refine Ev.step 2 (fun k => F66_eq k a b) ?_
  simp only [addN (show a.length + b.length < 4611686018427387904 by omega), e1, ge0, le_true (Nat.le_refl (a.length + b.length + 1)), hc, Bool.and_self, if_true, Int.toNat_natCast]
  have key : ∀ (m i : Nat) (x : List Int), i + m = a.length → x.length = a.length + b.length + 1 → VI x = VI (a.take i) * VI b → InR x → (∀ j, i + b.length ≤ j → x.getD j 0 = 0) → Ev (fun k => F66c3 k b x a (a.length : Int) (i : Int)) ((digs (VI a * VI b).toNat, ()), ((), (), ())) := by
    intro m
    induction m with
    | zero =>
      intro i x hi hx hV hr _
      have hia : i = a.length := by omega
      subst hia
      refine Ev.step 1 (fun k => F66c3_eq k _ _ _ _ _) ?_
      simp only [lt_false (Nat.le_refl a.length), Bool.false_eq_true, if_false]
      have := trim_ev hr (by omega)
      rw [hV, VI_take_all] at this
      exact Ev.bind this (Ev.now _)
    | succ m ih =>
      intro i x hi hx hV hr h0
      have hia : i < a.length := by omega
      refine Ev.step 1 (fun k => F66c3_eq k _ _ _ _ _) ?_
      simp only [lt_true hia, ge0, if_true, Int.toNat_natCast, getI_of hia, Option.bind_some]
      refine mulI ha hb la lb hia (V0 := VI (a.take i) * VI b) (fun y h1 h2 h3 h4 => ih (i + 1) y (by omega) h1 ?_ h3 h4) b.length 0 x 0 (by omega) hx ?_ hr (by omega) h0
      · rw [h2, VI_take_succ hia]
        grind
      · rw [hV]
        simp [VI]
  have hz : ∀ j, (List.replicate (a.length + b.length + 1) (0 : Int)).getD j 0 = 0 := fun j => by
    rw [List.getD_eq_getElem?_getD, List.getElem?_replicate]
    split <;> rfl
  exact key a.length 0 _ (by omega) (by simp) (by rw [VI_zeros]; simp [VI]) (fun d hd => by rw [(List.mem_replicate.1 hd).2]; omega) (fun j _ => hz j)
theorem limb_ev {i : Nat} : Ev (fun k => F126 k b (i : Int)) ((b.getD i 0, ()), ((), (), ())) := by
  refine Ev.step 2 (fun k => F126_eq k b i) ?_
  rcases Nat.lt_or_ge i b.length with h | h
  · simp only [lt_true h, ge0, if_true, Int.toNat_natCast, getI_of h, Option.bind_some]
    exact Ev.now _
  · simp only [lt_false h, Bool.false_eq_true, if_false]
    rw [List.getD_eq_getElem?_getD, List.getElem?_eq_none h]
    exact Ev.now _
theorem l1MulI (ha : InR a) (hb : InR b) (la : a.length ≤ 100000) (lb : b.length ≤ 100000) {i : Nat} (hi : i < a.length) {V0 : Int} {R : (List Int × Unit) × (Unit × Unit × Unit)}
    (hR : ∀ x : List Int, x.length = a.length + b.length → VI x = V0 + a.getD i 0 * VI b * 10000 ^ i → InR x → (∀ j, i + 1 + b.length ≤ j → x.getD j 0 = 0) → Ev (fun k => F103c3 k a b x ((i + 1 : Nat) : Int)) R) :
    ∀ (m n : Nat) (x : List Int) (c : Int), n + m = b.length → x.length = a.length + b.length → VI x + c * 10000 ^ (i + n) = V0 + a.getD i 0 * VI (b.take n) * 10000 ^ i → InR x → (0 ≤ c ∧ c ≤ 9999) → (∀ j, i + b.length ≤ j → x.getD j 0 = 0) →
    Ev (fun k => F103c7 k a b x (i : Int) c (n : Int)) R := by
  intro m
  have ra := ha.at hi
  induction m with
  | zero =>
    intro n x c hn hx hV hr hc h0
    have hnb : n = b.length := by omega
    subst hnb
    have l0 : i + b.length < x.length := by omega
    have hz := h0 (i + b.length) (Nat.le_refl _)
    rw [VI_take_all] at hV
    refine Ev.step 1 (fun k => F103c7_eq k _ _ _ _ _ _) ?_
    simp only [lt_false (Nat.le_refl b.length), Bool.false_eq_true, if_false]
    by_cases hpos : c > 0
    · have hlimb : b.getD b.length 0 = 0 := by rw [List.getD_eq_getElem?_getD, List.getElem?_eq_none (Nat.le_refl _)]; rfl
      simp only [hpos, decide_true, if_true, addN (show i + b.length < 4611686018427387904 by omega), ge0, lt_true l0, Bool.and_self, Int.toNat_natCast, getI_of l0, getI_of hi, Option.bind_some]
      refine Ev.bind limb_ev ?_
      have e0 : IntKind.i64.wrap (a.getD i 0 * 0) = 0 := by rw [Int.mul_zero]; decide
      have e1 : IntKind.i64.wrap ((0 : Int) + 0) = 0 := by decide
      have e2 : IntKind.i64.wrap (0 + c) = c := by rw [wrap64 (by omega) (by omega)]; omega
      have e3 : c / 10000 = 0 := by omega
      have e4 : c % 10000 = c := by omega
      have e5 : IntKind.i64.wrap (0 : Int) = 0 := by decide
      simp only [hlimb, hz, e0, e1, e2, tdiv_pos hc.1, tmod_pos hc.1, e3, e4, e5, wrap_succ (show b.length < 9223372036854775807 by omega)]
      have hgt : decide (((b.length + 1 : Nat) : Int) < (b.length : Int)) = false := lt_false (by omega)
      have h00 : decide ((0 : Int) > 0) = false := by decide
      refine Ev.step 1 (fun k => F103c7_eq k _ _ _ _ _ _) ?_
      simp only [hgt, h00, Bool.false_eq_true, if_false, wrap_succ (show i < 9223372036854775807 by omega)]
      refine hR _ (by simpa using hx) ?_ (InR.of fun j hj => ?_) (fun j hj => ?_)
      · rw [VI_set l0, hz, ← hV, Int.sub_zero]
      · rw [getI_set l0]
        split
        · omega
        · exact hr.at (by simpa using hj)
      · rw [getI_set l0, if_neg (by omega)]
        exact h0 j (by omega)
    · have hc0 : c = 0 := by omega
      subst hc0
      simp only [hpos, decide_false, Bool.false_eq_true, if_false, wrap_succ (show i < 9223372036854775807 by omega)]
      refine hR x hx (by rw [← hV]; omega) hr (fun j hj => h0 j (by omega))
  | succ m ih =>
    intro n x c hn hx hV hr hc h0
    have hnb : n < b.length := by omega
    have l0 : i + n < x.length := by omega
    have rb := hb.at hnb
    have rx := hr.at l0
    have rm := mul_small ra rb
    obtain ⟨v, hv⟩ : ∃ v, v = x.getD (i + n) 0 + a.getD i 0 * b.getD n 0 + c := ⟨_, rfl⟩
    have w1 : IntKind.i64.wrap (a.getD i 0 * b.getD n 0) = a.getD i 0 * b.getD n 0 := wrap64 (by omega) (by omega)
    have w2 : IntKind.i64.wrap (x.getD (i + n) 0 + a.getD i 0 * b.getD n 0) = x.getD (i + n) 0 + a.getD i 0 * b.getD n 0 := wrap64 (by omega) (by omega)
    have w3 : IntKind.i64.wrap v = v := wrap64 (by omega) (by omega)
    have hv0 : 0 ≤ v := by omega
    refine Ev.step 1 (fun k => F103c7_eq k _ _ _ _ _ _) ?_
    simp only [lt_true hnb, addN (show i + n < 4611686018427387904 by omega), ge0, lt_true l0, Bool.and_self, if_true, Int.toNat_natCast, getI_of hi, getI_of l0, Option.bind_some]
    refine Ev.bind limb_ev ?_
    simp only [w1, w2, ← hv, w3, tdiv_pos hv0, tmod_pos hv0, wrap_succ (show n < 9223372036854775807 by omega)]
    rw [wrap64 (n := v / 10000) (by omega) (by omega)]
    refine ih (n + 1) _ _ (by omega) (by simpa using hx) (VI_row hnb l0 hV hv rfl) (InR.of fun j hj => ?_) (by omega) (fun j hj => ?_)
    · rw [getI_set l0]
      split
      · omega
      · exact hr.at (by simpa using hj)
    · rw [getI_set l0, if_neg (by omega)]
      exact h0 j hj
theorem l1MulAbs_ev (ha : InR a) (hb : InR b) (la : a.length ≤ 100000) (lb : b.length ≤ 100000) : Ev (fun k => F103 k a b) ((digs (VI a * VI b).toNat, ()), ((), (), ())) := by
  have hc : decide (((a.length + b.length : Nat) : Int) ≤ (17592186044416 : Int)) = true := decide_eq_true (by omega)
  refine Ev.step 2 (fun k => F103_eq k a b) ?_
  simp only [addN (show a.length + b.length < 4611686018427387904 by omega), ge0, le_true (Nat.le_refl (a.length + b.length)), hc, Bool.and_self, if_true, Int.toNat_natCast]
  have key : ∀ (m i : Nat) (x : List Int), i + m = a.length → x.length = a.length + b.length → VI x = VI (a.take i) * VI b → InR x → (∀ j, i + b.length ≤ j → x.getD j 0 = 0) → Ev (fun k => F103c3 k a b x (i : Int)) ((digs (VI a * VI b).toNat, ()), ((), (), ())) := by
    intro m
    induction m with
    | zero =>
      intro i x hi hx hV hr _
      have hia : i = a.length := by omega
      subst hia
      refine Ev.step 1 (fun k => F103c3_eq k _ _ _ _) ?_
      simp only [lt_false (Nat.le_refl a.length), Bool.false_eq_true, if_false]
      have := l1Trim_ev hr (by omega)
      rw [hV, VI_take_all] at this
      exact Ev.bind this (Ev.now _)
    | succ m ih =>
      intro i x hi hx hV hr h0
      have hia : i < a.length := by omega
      refine Ev.step 1 (fun k => F103c3_eq k _ _ _ _) ?_
      simp only [lt_true hia, if_true]
      refine l1MulI ha hb la lb hia (V0 := VI (a.take i) * VI b) (fun y h1 h2 h3 h4 => ih (i + 1) y (by omega) h1 ?_ h3 h4) b.length 0 x 0 (by omega) hx ?_ hr (by omega) h0
      · rw [h2, VI_take_succ hia]
        grind
      · rw [hV]
        simp [VI]
  have hz : ∀ j, (List.replicate (a.length + b.length) (0 : Int)).getD j 0 = 0 := fun j => by
    rw [List.getD_eq_getElem?_getD, List.getElem?_replicate]
    split <;> rfl
  exact key a.length 0 _ (by omega) (by simp) (by rw [VI_zeros]; simp [VI]) (fun d hd => by rw [(List.mem_replicate.1 hd).2]; omega) (fun j _ => hz j)
end
theorem digs_small {n : Nat} (h : 0 < n) (h2 : n < 10000) : digs n = [(n : Int)] := by
  rw [digs_pos (by omega), Nat.div_eq_of_lt h2, Nat.mod_eq_of_lt h2, digs_zero]
theorem VI_digs (n : Nat) : VI (digs n) = (n : Int) := (digs_spec n).2.2
theorem ten_len (i : Nat) : (digs (10 ^ i)).length ≤ i + 1 := digs_len_le (by
  have h1 : 10 ^ i ≤ 10000 ^ i := Nat.pow_le_pow_left (by omega) i
  have h2 : 0 < 10000 ^ i := Nat.pow_pos (by omega)
  rw [Nat.pow_succ]
  omega)
theorem ten_ev (n : Nat) (hn : n ≤ 1000) : Ev (fun k => F61 k (n : Int)) ((digs (10 ^ n), ()), ((), ())) := by
  have h1 : [(1 : Int)] = digs (10 ^ 0) := by rw [Nat.pow_zero, digs_small (by omega) (by omega)]; rfl
  refine Ev.step 2 (fun k => F61_eq k n) ?_
  have key : ∀ m i, i + m = n → Ev (fun k => F61c3 k (digs (10 ^ i)) (n : Int) (i : Int)) ((digs (10 ^ n), ()), ((), ())) := by
    intro m
    induction m with
    | zero =>
      intro i hi
      have : i = n := by omega
      subst this
      refine Ev.step 1 (fun k => F61c3_eq k _ _ _) ?_
      simp only [lt_false (Nat.le_refl i), Bool.false_eq_true, if_false]
      exact Ev.now _
    | succ m ih =>
      intro i hi
      have hin : i < n := by omega
      have hm := mul_ev (a := digs (10 ^ i)) (b := [10]) (digs_spec _).1 (InR.mk (by omega) InR.nil) (by have := ten_len i; omega) (by simp)
      have e : (VI (digs (10 ^ i)) * VI [10]).toNat = 10 ^ (i + 1) := by
        have : VI [10] = 10 := by decide
        rw [VI_digs, this, Nat.pow_succ]
        omega
      rw [e] at hm
      refine Ev.step 1 (fun k => F61c3_eq k _ _ _) ?_
      simp only [lt_true hin, if_true, wrap_succ (show i < 9223372036854775807 by omega)]
      exact Ev.bind hm (ih (i + 1) (by omega))
  rw [h1]
  exact key n 0 (by omega)
theorem tens_digs (q : Nat) {t : Nat} (h0 : 0 < t) (h1 : t < 10000) : List.replicate q (0 : Int) ++ [(t : Int)] = digs (t * 10000 ^ q) := by
  refine digs_of (fun d hd => ?_) (.inr ?_) ?_
  · rcases List.mem_append.1 hd with hd | hd
    · rw [(List.mem_replicate.1 hd).2]
      omega
    · rw [List.mem_singleton.1 hd]
      omega
  · rw [List.length_append, List.length_replicate, List.getD_eq_getElem?_getD, List.getElem?_append_right (by simp)]
    simp
    omega
  · rw [VI_append, VI_zeros, List.length_replicate]
    show (0 : Int) + 10000 ^ q * ((t : Int) + 10000 * 0) = ((t * 10000 ^ q : Nat) : Int)
    rw [Int.natCast_mul, Int.natCast_pow]
    grind
theorem l1TenAbs_ev (n : Nat) (hn : n ≤ 1000) : Ev (fun k => F105 k (n : Int)) ((digs (10 ^ n), ()), ((), ())) := by
  have top : ∀ (m : Nat) (x : List Int) (t : Nat), x.length ≤ 1000 → t * 10 ^ m ≤ 1000000 → 0 < t → Ev (fun k => F105c6 k (m : Int) x (t : Int)) ((x ++ [((t * 10 ^ m : Nat) : Int)], ()), ((), ())) := by
    intro m
    induction m with
    | zero =>
      intro x t hx _ _
      have hc : decide (x.length + [(t : Int)].length ≤ 17592186044416) = true := decide_eq_true (by simp; omega)
      have h0 : decide (((0 : Nat) : Int) > 0) = false := by decide
      refine Ev.step 1 (fun k => F105c6_eq k _ _ _) ?_
      simp only [h0, Bool.false_eq_true, if_false, hc, if_true]
      rw [Nat.pow_zero, Nat.mul_one]
      exact Ev.now _
    | succ m ih =>
      intro x t hx ht h0
      have hp : 0 < 10 ^ m := Nat.pow_pos (by omega)
      have e : t * 10 ^ (m + 1) = t * 10 * 10 ^ m := by rw [Nat.pow_succ]; grind
      have ht10 : t * 10 ≤ t * 10 * 10 ^ m := Nat.le_mul_of_pos_right _ hp
      have hm : m ≤ 1000000 := by
        have h1 : m < 10 ^ m := Nat.lt_pow_self (by omega)
        have h2 : 10 ^ m ≤ t * 10 * 10 ^ m := Nat.le_mul_of_pos_left _ (by omega)
        omega
      have w1 : IntKind.i64.wrap (((m + 1 : Nat) : Int) - 1) = (m : Int) := by rw [wrap64 (by omega) (by omega)]; omega
      have w2 : IntKind.i64.wrap ((t : Int) * 10) = ((t * 10 : Nat) : Int) := by rw [wrap64 (by omega) (by omega)]; omega
      have hg : decide (((m + 1 : Nat) : Int) > 0) = true := decide_eq_true (by omega)
      refine Ev.step 1 (fun k => F105c6_eq k _ _ _) ?_
      simp only [hg, if_true, w1, w2]
      rw [e]
      exact ih x (t * 10) hx (by omega) (by omega)
  have key : ∀ (n q : Nat), n ≤ 1000 → q ≤ 500 - n / 4 → Ev (fun k => F105c2 k (n : Int) (List.replicate q 0)) ((digs (10 ^ n * 10000 ^ q), ()), ((), ())) := by
    intro n
    induction n using Nat.strongRecOn with
    | _ n ih =>
      intro q hn hq
      refine Ev.step 1 (fun k => F105c2_eq k _ _) ?_
      by_cases h4 : 4 ≤ n
      · have hg : decide ((n : Int) ≥ 4) = true := decide_eq_true (by omega)
        have hc : decide ((List.replicate q (0 : Int)).length + [(0 : Int)].length ≤ 17592186044416) = true := decide_eq_true (by simp; omega)
        have w1 : IntKind.i64.wrap ((n : Int) - 4) = ((n - 4 : Nat) : Int) := by rw [wrap64 (by omega) (by omega)]; omega
        have er : List.replicate q (0 : Int) ++ [0] = List.replicate (q + 1) 0 := List.replicate_succ'.symm
        have e : 10 ^ n * 10000 ^ q = 10 ^ (n - 4) * 10000 ^ (q + 1) := by
          have h1 : 10 ^ n = 10 ^ (n - 4) * 10000 := by
            have : n = (n - 4) + 4 := by omega
            rw [this, Nat.pow_add]
            simp
          rw [h1, Nat.pow_succ]
          grind
        simp only [hg, if_true, hc, w1, er]
        rw [e]
        exact ih (n - 4) (by omega) (q + 1) (by omega) (by omega)
      · have hg : decide ((n : Int) ≥ 4) = false := decide_eq_false (by omega)
        have hp : 10 ^ n ≤ 1000 := by
          have : n = 0 ∨ n = 1 ∨ n = 2 ∨ n = 3 := by omega
          rcases this with h | h | h | h <;> subst h <;> decide
        have hp0 : 0 < 10 ^ n := Nat.pow_pos (by omega)
        simp only [hg, Bool.false_eq_true, if_false]
        have := top n (List.replicate q 0) 1 (by simp; omega) (by omega) (by omega)
        rw [Nat.one_mul, tens_digs q hp0 (by omega)] at this
        exact this
  have := key n 0 hn (by omega)
  rw [Nat.pow_zero, Nat.mul_one] at this
  exact Ev.step 2 (fun k => F105_eq k n) this
end Go.Proofs.YtdmcibaoebmieaaDoor.R
/-! Rf, decimals: figures; what is in order. -/
set_option linter.unusedSimpArgs false
namespace Go.Proofs.YtdmcibaoebmieaaDoor.R
open Go.Rf
theorem toIntS_ev (l : List Int) (h : l.length ≤ 1048576) : Ev (fun k => F87 k l) ((l, ()), ((), ())) := by
  refine Ev.step 2 (fun k => F87_eq k l) ?_
  have c : (decide (0 ≤ (l.length : Int)) && decide ((l.length : Int) ≤ (l.length : Int)) && decide ((l.length : Int) ≤ (17592186044416 : Int))) = true := by simp; omega
  simp only [c, if_true]
  have := copy_loop (L := fun k x3 i => F87c3 k l x3 i) (x0 := l) (g := fun _ y => some y) (f := id) (fin := fun x => ((x, ()), ((), ()))) (h := id) (by omega) (fun k x3 i => F87c3_eq k l x3 i) (fun y _ => Ev.now y)
    (List.replicate (l.length : Int).toNat (0 : Int)) (by simp)
  simpa using this
theorem eqIntS_ev (l : List Int) (h : l.length ≤ 1048576) : Ev (fun k => F88 k l l) ((true, ()), ((), (), ())) := by
  refine Ev.step 2 (fun k => F88_eq k l l) ?_
  simp only [bne_self_eq_false, Bool.false_eq_true, if_false]
  exact same_loop (L := fun k i => F88c4 k l l i) (x0 := l) (g := fun _ y1 y2 => some (y1 == y2)) (p := id) (no := ((false, ()), ((), (), ()))) (h := fun _ => true) (by omega) (fun k i => F88c4_eq k l l i) (fun y _ => by
    simp only [beq_self_eq_true]
    exact ⟨Ev.now _, rfl⟩)
theorem szIntS_ev (l : List Int) (hlen : l.length ≤ 9223372036854775807) (b : Int) (h0 : 0 ≤ b) (hb : b ≤ 1048576) : ∃ r, Ev (fun k => F82 k l b) r ∧ (r.1.1 < 0 ∨ (0 ≤ r.1.1 ∧ r.1.1 ≤ b ∧ l.length ≤ 1048576)) := by
  have st : ∀ {r}, Ev (fun _ => if decide (IntKind.i64.wrap (b - (l.length : Int)) < (0 : Int)) = true then some (((-1 : Int), ()), ((), (), ())) else some (((IntKind.i64.wrap (b - (l.length : Int))), ()), ((), (), ()))) r → Ev (fun k => F82 k l b) r := fun h => Ev.step 2 (fun k => F82_eq k l b) h
  rw [wrap64 (by omega) (by omega)] at st
  by_cases hn : b - (l.length : Int) < 0
  · refine ⟨(((-1 : Int), ()), ((), (), ())), st ?_, .inl (by decide : (-1 : Int) < 0)⟩
    simp only [hn, decide_true, if_true]
    exact Ev.now _
  · refine ⟨(((b - (l.length : Int)), ()), ((), (), ())), st ?_, .inr ?_⟩
    · have : decide (b - (l.length : Int) < 0) = false := by simp; omega
      simp only [this, Bool.false_eq_true, if_false]
      exact Ev.now _
    · exact ⟨by show 0 ≤ b - (l.length : Int); omega, by show b - (l.length : Int) ≤ b; omega, by omega⟩
theorem l1In_ev (n lo hi : Int) : Ev (fun k => F62 k n lo hi) ((within n lo hi, ()), ((), (), (), ())) := by
  refine Ev.step 2 (fun k => F62_eq k n lo hi) ?_
  unfold within
  cases decide (n ≥ lo) with
  | true => exact Ev.now _
  | false => exact Ev.now _
theorem in_ev (n lo hi : Int) : Ev (fun k => F75 k n lo hi) ((within n lo hi, ()), ((), (), (), ())) := by
  refine Ev.step 2 (fun k => F75_eq k n lo hi) ?_
  unfold within
  cases decide (n ≥ lo) with
  | true => exact Ev.now _
  | false => exact Ev.now _
/-! ### figures -/
theorem l1Dec_ev : ∀ n : Nat, n ≤ 1000000000000000000 → Ev (fun k => F138 k (n : Int)) ((⟨(Lib.decDigits n).toArray⟩, ()), ((), ())) := by
  intro n
  induction n using Nat.strongRecOn with
  | _ n ih =>
    intro hn
    have c1 : decide ((n : Int) < (-9223372036854775807 : Int)) = false := decide_eq_false (by omega)
    have c2 : decide ((n : Int) < 0) = false := decide_eq_false (by omega)
    refine Ev.step 2 (fun k => F138_eq k n) ?_
    simp only [c1, c2, Bool.false_eq_true, if_false]
    by_cases h : n < 10
    · have c3 : decide ((n : Int) < 10) = true := decide_eq_true (by omega)
      rw [Lib.decDigits, dif_pos h]
      simp only [c3, if_true, bytesOf_digit h]
      exact Ev.now _
    · have c3 : decide ((n : Int) < 10) = false := decide_eq_false (by omega)
      have e1 : IntKind.i64.wrap ((n : Int).tdiv 10) = ((n / 10 : Nat) : Int) := by
        rw [Int.tdiv_eq_ediv_of_nonneg (by omega), wrap64 (by omega) (by omega)]
        omega
      have e2 : (n : Int).tmod 10 = ((n % 10 : Nat) : Int) := by
        rw [Int.tmod_eq_emod_of_nonneg (by omega)]
        omega
      have hl := decDigits_len 18 (n / 10) (by omega)
      rw [Lib.decDigits, dif_neg h]
      simp only [c3, Bool.false_eq_true, if_false, e1, e2, bytesOf_digit (show n % 10 < 10 by omega)]
      refine Ev.bind (ih (n / 10) (by omega) (by omega)) ?_
      have hb : Nat.ble ((Lib.decDigits (n / 10)).length + [UInt8.ofNat (48 + n % 10)].length) 9223372036854775807 = true := Nat.ble_eq_true_of_le (by simp; omega)
      simp only [bytes_size, hb, if_true, bytes_append]
      exact Ev.now _
theorem l1Wide_ev {d : Int} (h : 0 ≤ d ∧ d ≤ 9999) : Ev (fun k => F139 k d 4) ((⟨(fig4 d).toArray⟩, ()), ((), (), ())) := by
  obtain ⟨n, rfl⟩ : ∃ n : Nat, d = (n : Int) := ⟨d.toNat, by omega⟩
  have hl := itoa_len4 h
  refine Ev.step 2 (fun k => F139_eq k _ _) (Ev.bind (l1Dec_ev n (by omega)) ?_)
  have key : ∀ (m : Nat) (x : List UInt8), x.length + m = 4 ∨ (m = 0 ∧ 4 ≤ x.length) → Ev (fun k => F139c2 k 4 ⟨x.toArray⟩) ((⟨(Lib.repeatL [48] m ++ x).toArray⟩, ()), ((), (), ())) := by
    intro m
    induction m with
    | zero =>
      intro x hx
      have c : decide ((x.length : Int) < 4) = false := decide_eq_false (by omega)
      refine Ev.step 1 (fun k => F139c2_eq k _ _) ?_
      simp only [bytes_size, c, Bool.false_eq_true, if_false]
      exact Ev.now _
    | succ m ih =>
      intro x hx
      have c : decide ((x.length : Int) < 4) = true := decide_eq_true (by omega)
      have hb : Nat.ble ([(48 : UInt8)].length + x.length) 9223372036854775807 = true := Nat.ble_eq_true_of_le (by simp; omega)
      refine Ev.step 1 (fun k => F139c2_eq k _ _) ?_
      have e : (⟨#[48]⟩ : ByteArray) = ⟨[(48 : UInt8)].toArray⟩ := rfl
      simp only [e, bytes_size, c, if_true, hb, bytes_append]
      have := ih ([48] ++ x) (by simp; omega)
      have e2 : Lib.repeatL [48] m ++ ([48] ++ x) = Lib.repeatL [48] (m + 1) ++ x := by
        rw [Lib.repeatL_add, Lib.repeatL_one, List.append_assoc]
      rw [e2] at this
      exact this
  have := key (4 - (Lib.itoa (n : Int)).length) (Lib.decDigits n) (by rw [itoa_nat] at hl ⊢; omega)
  unfold fig4
  rw [itoa_nat] at this ⊢
  exact this
theorem l1Figures_ev {l : List Int} (hr : InR l) (hl : l.length ≤ 1000000) : Ev (fun k => F114 k l) ((textL l, ()), ((), ())) := by
  refine Ev.step 2 (fun k => F114_eq k l) ?_
  rcases Nat.eq_zero_or_pos l.length with h0 | h0
  · obtain rfl := List.eq_nil_of_length_eq_zero h0
    exact Ev.now _
  · obtain ⟨n, hn⟩ : ∃ n, l.length = n + 1 := ⟨l.length - 1, by omega⟩
    have c : ((l.length : Int) == 0) = false := len0_false h0
    have hlt : n < l.length := by omega
    have rn := hr.at hlt
    obtain ⟨d, hd⟩ : ∃ d : Nat, l.getD n 0 = (d : Int) := ⟨(l.getD n 0).toNat, by omega⟩
    simp only [c, Bool.false_eq_true, if_false, pred_len hn (by omega), ge0, if_true, Int.toNat_natCast, getI_of hlt, Option.bind_some, hd]
    refine Ev.bind (l1Dec_ev d (by omega)) ?_
    have w : IntKind.i64.wrap ((l.length : Int) - 2) = (n : Int) - 1 := by rw [wrap64 (by omega) (by omega)]; omega
    rw [w, textL_pos (by intro e; subst e; simp at h0)]
    have key : ∀ m, m ≤ n → Ev (fun k => F114c5 k l ⟨(figs (l.drop m)).toArray⟩ ((m : Int) - 1)) ((⟨(figs l).toArray⟩, ()), ((), ())) := by
      intro m
      induction m with
      | zero =>
        intro _
        exact Ev.step 1 (fun k => F114c5_eq k _ _ _) (Ev.now _)
      | succ m ih =>
        intro hm
        have e : ((m + 1 : Nat) : Int) - 1 = (m : Int) := by omega
        have hge : decide ((m : Int) ≥ 0) = true := by simp
        have hml : m < l.length := by omega
        have h1 := figs_len (l := l.drop (m + 1)) (fun d hd => hr d (List.mem_of_mem_drop hd))
        have h2 := fig4_len (hr.at hml)
        have hb : Nat.ble ((figs (l.drop (m + 1))).length + (fig4 (l.getD m 0)).length) 9223372036854775807 = true := Nat.ble_eq_true_of_le (by rw [List.length_drop] at h1; omega)
        rw [e]
        refine Ev.step 1 (fun k => F114c5_eq k _ _ _) ?_
        simp only [hge, if_true, ge0, Int.toNat_natCast, getI_of hml, Option.bind_some]
        refine Ev.bind (l1Wide_ev (hr.at hml)) ?_
        simp only [bytes_size, hb, if_true, bytes_append, ← figs_drop (show m + 1 < l.length by omega)]
        rw [wrap64 (by omega) (by omega)]
        exact ih (by omega)
    have := key n (Nat.le_refl _)
    rw [figs_last hn, hd, itoa_nat] at this
    exact this
theorem l1Long_ev {l : List Int} (hr : InR l) (hl : l.length ≤ 1000000) : Ev (fun k => F83 k l) ((long l, ()), ((), ())) := by
  refine Ev.step 2 (fun k => F83_eq k l) ?_
  unfold long
  by_cases h : l.length = 0
  · have c : ((l.length : Int) == 0) = true := by simp [h]
    simp only [c, if_true, h]
    exact Ev.now _
  · have c : ((l.length : Int) == 0) = false := len0_false (Nat.pos_of_ne_zero h)
    simp only [c, h, Bool.false_eq_true, if_false]
    exact Ev.bind (l1Figures_ev hr hl) (Ev.now _)
theorem text_ev {l : List Int} (hr : InR l) (hl : l.length ≤ 1000000) : Ev (fun k => F70 k l) ((textL l, ()), ((), ())) := by
  refine Ev.step 1 (fun k => F70_eq k l) ?_
  have : textR (l, ()) = some ((textL l, ()), ((), ())) := if_pos (limbsOk_of hr hl)
  rw [this]
  exact Ev.now _
theorem digits_ev {l : List Int} (hr : InR l) (hl : l.length ≤ 1000000) : Ev (fun k => F91 k l) ((long l, ()), ((), ())) := by
  refine Ev.step 2 (fun k => F91_eq k l) ?_
  unfold long
  by_cases h : l.length = 0
  · have c : ((l.length : Int) == 0) = true := by simp [h]
    simp only [c, if_true, h]
    exact Ev.now _
  · have c : ((l.length : Int) == 0) = false := len0_false (Nat.pos_of_ne_zero h)
    simp only [c, h, Bool.false_eq_true, if_false]
    exact Ev.bind (text_ev hr hl) (Ev.now _)
/-! ### in order -/
theorem idx_ev (l : List Int) (h : l.length ≤ 1048576) : ∃ r, Ev (fun k => F75115 k l) r ∧ decide (r.1.1 ≥ (0 : Int)) = !rangeOk l := by
  obtain ⟨r, h1, h2⟩ := find_loop (L := fun k i => F75115c2 k l (l.length : Int) i) (n := l.length) (no := fun i => (((i : Int), ()), ((), (), ()))) (yes := (((-1 : Int), ()), ((), (), ()))) (c := fun i => within (l.getD i 0) 0 9999) (fun i hi hc => by
      refine Ev.step 1 (fun k => F75115c2_eq k l _ i) ?_
      simp only [lt_true hi, ge0, if_true, Int.toNat_natCast, getI_of hi, Option.bind_some]
      refine Ev.bind (Ev.step 2 (fun k => F74_eq k _) (Ev.bind (in_ev _ _ _) (Ev.now _))) ?_
      simp only [hc, Bool.not_false, if_true]
      exact Ev.now _) (fun i hi hc r hr => by
      refine Ev.step 1 (fun k => F75115c2_eq k l _ i) ?_
      simp only [lt_true hi, ge0, if_true, Int.toNat_natCast, getI_of hi, Option.bind_some]
      refine Ev.bind (Ev.step 2 (fun k => F74_eq k _) (Ev.bind (in_ev _ _ _) (Ev.now _))) ?_
      simp only [hc, Bool.not_true, Bool.false_eq_true, if_false]
      rw [wrap_succ (by omega)]
      exact hr) (by
      refine Ev.step 1 (fun k => F75115c2_eq k l _ l.length) ?_
      simp only [lt_false (Nat.le_refl l.length), Bool.false_eq_true, if_false]
      exact Ev.now _)
  refine ⟨r, Ev.step 2 (fun k => F75115_eq k l) h1, ?_⟩
  unfold rangeOk
  rcases h2 with ⟨h2, rfl⟩ | ⟨h2, i, _, rfl⟩
  · rw [h2]; rfl
  · rw [h2]; simp
theorem has_ev (l : List Int) (h : l.length ≤ 1048576) : Ev (fun k => F75073 k l) ((!rangeOk l, ()), ((), (), ())) := by
  obtain ⟨r, h1, h2⟩ := idx_ev l h
  refine Ev.step 2 (fun k => F75073_eq k l) (Ev.bind h1 ?_)
  simp only [h2]
  exact Ev.now _
theorem BigOk_ev (neg : Bool) (l : List Int) (h : l.length ≤ 1048576) : Ev (fun k => F33 k neg l) ((bOk neg l, ()), (((), (), ()), ())) := by
  refine Ev.step 2 (fun k => F33_eq k neg l) ?_
  unfold bOk lastOk
  by_cases h16 : l.length ≤ 16
  · have c16 : decide ((l.length : Int) ≤ 16) = true := decide_eq_true (by omega)
    rcases Nat.eq_zero_or_pos l.length with h0 | h0
    · have c0 : ((l.length : Int) == 0) = true := by simp [h0]
      have cg : decide ((l.length : Int) > 0) = false := by simp [h0]
      simp only [c16, h16, c0, cg, h0, decide_true, if_true, Bool.true_and]
      cases neg with
      | true =>
        simp only [Bool.not_true, Bool.false_eq_true, if_false, Bool.and_false]
        exact Ev.now _
      | false =>
        simp only [Bool.not_false, if_true, Bool.and_true]
        refine Ev.bind (has_ev l h) ?_
        simp only [Bool.not_not]
        exact Ev.now _
    · obtain ⟨n, hn⟩ : ∃ n, l.length = n + 1 := ⟨l.length - 1, by omega⟩
      have c0 : ((l.length : Int) == 0) = false := len0_false h0
      have hne : ¬ l.length = 0 := by omega
      have hlt : n < l.length := by omega
      have e : l.length - 1 = n := by omega
      simp only [c16, h16, c0, hne, e, gt_true h0, pred_len hn (by omega), ge0, decide_true, if_true, Bool.true_and, Bool.false_eq_true, if_false, Int.toNat_natCast, getI_of hlt, Option.bind_some]
      cases hz : (l.getD n 0 != 0) with
      | true =>
        simp only [if_true, Bool.and_true]
        refine Ev.bind (has_ev l h) ?_
        simp only [Bool.not_not]
        exact Ev.now _
      | false =>
        simp only [Bool.false_eq_true, if_false, Bool.and_false]
        exact Ev.now _
  · have c16 : decide ((l.length : Int) ≤ 16) = false := decide_eq_false (by omega)
    simp only [c16, h16, decide_false, Bool.false_and, Bool.false_eq_true, if_false]
    exact Ev.now _
theorem l1Ok_ev (neg : Bool) (l : List Int) (h : l.length ≤ 1048576) : Ev (fun k => F71 k neg l) ((bOk neg l, ()), (((), (), ()), ())) := by
  refine Ev.step 2 (fun k => F71_eq k neg l) ?_
  by_cases h16 : l.length ≤ 16
  · have c16 : decide ((l.length : Int) > 16) = false := decide_eq_false (by omega)
    have loop : ∀ {q : Bool}, (l.length = 0 → q = true) → (∀ n, l.length = n + 1 → q = (l.getD n 0 != 0)) → Ev (fun k => F71c4 k neg l 0) ((rangeOk l && q, ()), (((), (), ()), ())) := by
      intro q q0 q1
      have := all_loop' (L := fun k i => F71c4 k neg l i) (n := l.length) (c := fun i => within (l.getD i 0) 0 9999) (no := ((false, ()), (((), (), ()), ()))) (yes := ((q, ()), (((), (), ()), ()))) (fun i hi hc => by
        refine Ev.step 1 (fun k => F71c4_eq k _ _ _) ?_
        simp only [lt_true hi, ge0, if_true, Int.toNat_natCast, getI_of hi, Option.bind_some]
        refine Ev.bind (l1In_ev _ _ _) ?_
        simp only [hc, Bool.not_false, if_true]
        exact Ev.now _) (fun i hi hc r hr => by
        refine Ev.step 1 (fun k => F71c4_eq k _ _ _) ?_
        simp only [lt_true hi, ge0, if_true, Int.toNat_natCast, getI_of hi, Option.bind_some]
        refine Ev.bind (l1In_ev _ _ _) ?_
        simp only [hc, Bool.not_true, Bool.false_eq_true, if_false]
        rw [wrap_succ (by omega)]
        exact hr) (fun _ => by
        refine Ev.step 1 (fun k => F71c4_eq k _ _ _) ?_
        simp only [lt_false (Nat.le_refl l.length), Bool.false_eq_true, if_false]
        rcases Nat.eq_zero_or_pos l.length with h0 | h0
        · have c0 : ((l.length : Int) == 0) = true := by simp [h0]
          simp only [c0, if_true, q0 h0]
          exact Ev.now _
        · obtain ⟨n, hn⟩ : ∃ n, l.length = n + 1 := ⟨l.length - 1, by omega⟩
          have c0 : ((l.length : Int) == 0) = false := len0_false h0
          have hlt : n < l.length := by omega
          simp only [c0, Bool.false_eq_true, if_false, pred_len hn (by omega), ge0, if_true, Int.toNat_natCast, getI_of hlt, Option.bind_some, q1 n hn]
          exact Ev.now _)
      unfold rangeOk
      cases hall : (List.range l.length).all (fun i => within (l.getD i 0) 0 9999) with
      | true =>
        rw [hall] at this
        simpa using this
      | false =>
        rw [hall] at this
        simpa using this
    unfold bOk lastOk
    simp only [c16, h16, decide_true, Bool.true_and, Bool.false_eq_true, if_false]
    by_cases h0 : l.length = 0
    · have c0 : ((l.length : Int) == 0) = true := by simp [h0]
      cases neg with
      | true =>
        simp only [c0, h0, if_true, Bool.not_true, Bool.and_false]
        exact Ev.now _
      | false =>
        have := loop (q := true) (fun _ => rfl) (fun n hn => by omega)
        simpa only [h0, if_true, Bool.not_false, Bool.false_eq_true, if_false] using this
    · have c0 : ((l.length : Int) == 0) = false := len0_false (Nat.pos_of_ne_zero h0)
      have := loop (q := (l.getD (l.length - 1) 0 != 0)) (fun e => absurd e h0) (fun n hn => by rw [hn]; rfl)
      cases neg with
      | true => simpa only [c0, h0, if_true, Bool.false_eq_true, if_false] using this
      | false => simpa only [h0, Bool.false_eq_true, if_false] using this
  · have c16 : decide ((l.length : Int) > 16) = true := decide_eq_true (by omega)
    unfold bOk
    simp only [c16, h16, decide_false, Bool.false_and, if_true]
    exact Ev.now _
end Go.Proofs.YtdmcibaoebmieaaDoor.R
/-! Rf, decimals: compared; the law's helpers. -/
namespace Go.Proofs.YtdmcibaoebmieaaDoor.R
open Go.Rf
theorem DecOk_ev (neg : Bool) (l : List Int) (s : Int) (h : l.length ≤ 1048576) : Ev (fun k => F46 k neg l s) ((decOk neg l s, ()), (((), (), (), ()), ())) := by
  refine Ev.step 2 (fun k => F46_eq k neg l s) (Ev.bind (BigOk_ev neg l h) ?_)
  unfold decOk
  cases hb : bOk neg l with
  | false => exact Ev.now _
  | true =>
    obtain ⟨h16, hr, _, _⟩ := bOk_of hb
    simp only [if_true, Bool.true_and]
    refine Ev.bind (digits_ev hr (by omega)) ?_
    cases decide (long l ≤ 30) with
    | false => exact Ev.now _
    | true =>
      simp only [if_true, Bool.true_and]
      exact Ev.bind (in_ev _ _ _) (Ev.now _)
theorem l2Ok_ev (neg : Bool) (l : List Int) (s : Int) (h : l.length ≤ 1048576) : Ev (fun k => F39 k neg l s) ((decOk neg l s, ()), (((), (), (), ()), ())) := by
  refine Ev.step 2 (fun k => F39_eq k neg l s) (Ev.bind (l1Ok_ev neg l h) ?_)
  unfold decOk
  cases hb : bOk neg l with
  | false => exact Ev.now _
  | true =>
    obtain ⟨h16, hr, _, _⟩ := bOk_of hb
    simp only [if_true, Bool.true_and]
    refine Ev.bind (l1Long_ev hr (by omega)) ?_
    cases decide (long l ≤ 30) with
    | false => exact Ev.now _
    | true =>
      simp only [if_true, Bool.true_and]
      exact Ev.bind (l1In_ev _ _ _) (Ev.now _)
theorem decs_ev (n1 : Bool) (l1 : List Int) (s1 : Int) (n2 : Bool) (l2 : List Int) (s2 : Int) (h1 : l1.length ≤ 1048576) (h2 : l2.length ≤ 1048576) : Ev (fun k => F42 k n1 l1 s1 n2 l2 s2) ((decOk n1 l1 s1 && decOk n2 l2 s2, ()), (((), (), (), ()), ((), (), (), ()), ())) := by
  refine Ev.step 2 (fun k => F42_eq k _ _ _ _ _ _) (Ev.bind (DecOk_ev n1 l1 s1 h1) ?_)
  cases decOk n1 l1 s1 with
  | false => exact Ev.now _
  | true => exact Ev.bind (DecOk_ev n2 l2 s2 h2) (Ev.now _)
/-- a decimal in order: its number -/
def num (l : List Int) : Nat := (VI l).toNat
theorem num_spec {l : List Int} (h : InR l) : VI l = (num l : Int) := by
  have := VI_nonneg h
  unfold num
  omega
theorem digs_num {l : List Int} (h : InR l) (t : Trim l) : digs (num l) = l := digs_VI h t
theorem num_pos {neg : Bool} {l : List Int} (h : bOk neg l = true) (hn : neg = true) : 0 < num l := by
  obtain ⟨_, hr, ht, h0⟩ := bOk_of h
  have := VI_pos hr ht (fun e => by have := h0 e; rw [hn] at this; cases this)
  have := num_spec hr
  omega
theorem num_lt {l : List Int} (h : InR l) (hl : l.length ≤ 16) : num l < 10000 ^ 16 := by
  have h1 : VI l < ((10000 ^ l.length : Nat) : Int) := by
    rw [Int.natCast_pow]
    exact VI_lt h
  have h2 := num_spec h
  have h3 : (10000 : Nat) ^ l.length ≤ 10000 ^ 16 := Nat.pow_le_pow_right (by omega) hl
  exact Nat.lt_of_lt_of_le (by omega) h3
theorem at_len {V m : Nat} (hV : V < 10000 ^ 16) (hm : m ≤ 24) : (digs (V * 10 ^ m)).length ≤ 40 := by
  refine digs_len_le ?_
  have h1 : 10 ^ m ≤ 10 ^ 24 := Nat.pow_le_pow_right (by omega) hm
  have h2 : V * 10 ^ m ≤ V * 10 ^ 24 := Nat.mul_le_mul_left V h1
  have h3 : V * 10 ^ 24 < 10000 ^ 16 * 10 ^ 24 := Nat.mul_lt_mul_of_pos_right hV (Nat.pow_pos (by omega))
  have h4 : 10000 ^ 16 * 10 ^ 24 ≤ 10000 ^ 40 := by decide
  omega
theorem at_ev {neg : Bool} {l : List Int} {s m : Nat} (hr : InR l) (hl : l.length ≤ 16) (hm : m ≤ 24) : Ev (fun k => F53 k neg l (s : Int) ((s + m : Nat) : Int)) (((neg, digs (num l * 10 ^ m), ()), ()), (((), (), (), ()), (), ())) := by
  have w : IntKind.i64.wrap (((s + m : Nat) : Int) - (s : Int)) = (m : Int) := by rw [wrap64 (by omega) (by omega)]; omega
  have hmul := mul_ev (a := l) (b := digs (10 ^ m)) hr (digs_spec _).1 (by omega) (by have := ten_len m; omega)
  have e : (VI l * VI (digs (10 ^ m))).toNat = num l * 10 ^ m := by
    rw [VI_digs, num_spec hr]
    rfl
  rw [e] at hmul
  refine Ev.step 2 (fun k => F53_eq k _ _ _ _) (Ev.bind (Ev.step 2 (fun k => F58_eq k _ _) (Ev.now _)) ?_)
  simp only [w]
  exact Ev.bind (ten_ev m (by omega)) (Ev.bind hmul (Ev.now _))
theorem l2At_ev {neg : Bool} {l : List Int} {s m : Nat} (hr : InR l) (hl : l.length ≤ 16) (hm : m ≤ 24) : Ev (fun k => F85 k neg l (s : Int) ((s + m : Nat) : Int)) ((digs (num l * 10 ^ m), ()), (((), (), (), ()), (), ())) := by
  have w : IntKind.i64.wrap (((s + m : Nat) : Int) - (s : Int)) = (m : Int) := by rw [wrap64 (by omega) (by omega)]; omega
  have hmul := l1MulAbs_ev (a := l) (b := digs (10 ^ m)) hr (digs_spec _).1 (by omega) (by have := ten_len m; omega)
  have e : (VI l * VI (digs (10 ^ m))).toNat = num l * 10 ^ m := by
    rw [VI_digs, num_spec hr]
    rfl
  rw [e] at hmul
  refine Ev.step 2 (fun k => F85_eq k _ _ _ _) ?_
  simp only [w]
  exact Ev.bind (l1TenAbs_ev m (by omega)) (Ev.bind hmul (Ev.now _))
/-- a sum with signs -/
def sSum (na : Bool) (A : Nat) (nb : Bool) (B : Nat) : Bool × Nat := if na = nb then (na, A + B) else if B ≤ A then (na, A - B) else (nb, B - A)
theorem cmpI_ge {A B : Nat} : decide (cmpI A B ≥ 0) = decide (B ≤ A) := by
  unfold cmpI
  split
  · rw [decide_eq_false (by omega), decide_eq_false (by omega)]
  · split
    · rw [decide_eq_true (by omega), decide_eq_true (by omega)]
    · rw [decide_eq_true (by omega), decide_eq_true (by omega)]
theorem sAdd_ev {na nb : Bool} {A B : Nat} (la : (digs A).length ≤ 100000) (lb : (digs B).length ≤ 100000) : Ev (fun k => F54 k na (digs A) nb (digs B)) ((((sSum na A nb B).1, digs (sSum na A nb B).2, ()), ()), (((), (), ()), ((), (), ()), ())) := by
  obtain ⟨ra, ta, va⟩ := digs_spec A
  obtain ⟨rb, tb, vb⟩ := digs_spec B
  refine Ev.step 2 (fun k => F54_eq k _ _ _ _) ?_
  unfold sSum
  by_cases hn : na = nb
  · subst hn
    have hadd := add_ev ra rb la lb
    have e : (VI (digs A) + VI (digs B)).toNat = A + B := by rw [va, vb]; omega
    rw [e] at hadd
    simp only [beq_self_eq_true, if_true]
    exact Ev.bind hadd (Ev.now _)
  · have c : (na == nb) = false := by simp [hn]
    simp only [c, hn, Bool.false_eq_true, if_false]
    refine Ev.bind (cmp_ev ra rb ta tb va vb (by omega) (by omega)) ?_
    simp only [cmpI_ge]
    by_cases hle : B ≤ A
    · have hsub := sub_ev ra rb tb la (by rw [va, vb]; omega)
      have e : (VI (digs A) - VI (digs B)).toNat = A - B := by rw [va, vb]; omega
      rw [e] at hsub
      simp only [hle, decide_true, if_true]
      exact Ev.bind hsub (Ev.now _)
    · have hsub := sub_ev rb ra ta lb (by rw [va, vb]; omega)
      have e : (VI (digs B) - VI (digs A)).toNat = B - A := by rw [va, vb]; omega
      rw [e] at hsub
      simp only [hle, decide_false, Bool.false_eq_true, if_false]
      exact Ev.bind hsub (Ev.now _)
theorem sign_ev {neg : Bool} {A : Nat} : Ev (fun k => F80 k neg (digs A)) ((if A = 0 then 0 else if neg = true then -1 else 1, ()), (((), (), ()), ())) := by
  by_cases h : A = 0
  · subst h
    rw [digs_zero, if_pos rfl]
    exact Ev.step 2 (fun k => F80_eq k _ _) (Ev.now _)
  · refine Ev.step 2 (fun k => F80_eq k _ _) ?_
    have c : (((digs A).length : Int) == 0) = false := len0_false (Nat.pos_of_ne_zero (fun e => h (digs_nil.1 (List.eq_nil_of_length_eq_zero e))))
    simp only [c, h, Bool.false_eq_true, if_false]
    cases neg with
    | true => exact Ev.now _
    | false => exact Ev.now _
/-- numbers with signs compared -/
def sCmp (na : Bool) (A : Nat) (nb : Bool) (B : Nat) : Int := if na = nb then if na = true then cmpI B A else cmpI A B else if na = true then -1 else 1
theorem l1Cmp_ev {na nb : Bool} {A B : Nat} (la : (digs A).length ≤ 100000) (lb : (digs B).length ≤ 100000) : Ev (fun k => F86 k na (digs A) nb (digs B)) ((sCmp na A nb B, ()), (((), (), ()), ((), (), ()), ())) := by
  obtain ⟨ra, ta, va⟩ := digs_spec A
  obtain ⟨rb, tb, vb⟩ := digs_spec B
  refine Ev.step 2 (fun k => F86_eq k _ _ _ _) ?_
  unfold sCmp
  cases na with
  | true =>
    cases nb with
    | true => exact Ev.bind (l1CmpAbs_ev rb ra tb ta vb va (by omega)) (Ev.now _)
    | false => exact Ev.now _
  | false =>
    cases nb with
    | true => exact Ev.now _
    | false => exact Ev.bind (l1CmpAbs_ev ra rb ta tb va vb (by omega)) (Ev.now _)
theorem sSum_sCmp {na nb : Bool} {A B : Nat} (ha : na = true → 0 < A) (hb : nb = true → 0 < B) : (if (sSum na A (!nb) B).2 = 0 then 0 else if (sSum na A (!nb) B).1 = true then -1 else 1 : Int) = sCmp na A nb B := by
  unfold sSum sCmp
  cases na with
  | true =>
    have h1 := ha rfl
    cases nb with
    | true =>
      simp only [Bool.not_true, Bool.true_eq_false, if_false, if_true]
      rcases Nat.lt_trichotomy A B with h | h | h
      · rw [if_neg (show ¬ B ≤ A by omega), cmpI_gt h]
        simp only [Bool.false_eq_true, if_false]
        rw [if_neg (by omega)]
      · subst h
        simp [cmpI_eq]
      · rw [if_pos (show B ≤ A by omega), cmpI_lt h]
        simp only [if_true]
        rw [if_neg (by omega)]
    | false =>
      simp only [Bool.not_false, if_true, Bool.true_eq_false, if_false]
      rw [if_neg (by omega)]
  | false =>
    cases nb with
    | true =>
      have h2 := hb rfl
      simp only [Bool.not_true, if_true, Bool.false_eq_true, if_false]
      rw [if_neg (by omega)]
    | false =>
      simp only [Bool.not_false, Bool.false_eq_true, if_false, if_true]
      rcases Nat.lt_trichotomy A B with h | h | h
      · rw [if_neg (show ¬ B ≤ A by omega), cmpI_lt h]
        simp only [if_true]
        rw [if_neg (by omega)]
      · subst h
        simp [cmpI_eq]
      · rw [if_pos (show B ≤ A by omega), cmpI_gt h]
        simp only [Bool.false_eq_true, if_false]
        rw [if_neg (by omega)]
/-- how decimals in order compare -/
def dCmp (n1 : Bool) (l1 : List Int) (s1 : Nat) (n2 : Bool) (l2 : List Int) (s2 : Nat) : Int := sCmp n1 (num l1 * 10 ^ (max s1 s2 - s1)) n2 (num l2 * 10 ^ (max s1 s2 - s2))
section
variable {n1 n2 : Bool} {l1 l2 : List Int} {s1 s2 : Nat}
theorem cmpD_ev (h1 : bOk n1 l1 = true) (h2 : bOk n2 l2 = true) (hs1 : s1 ≤ 12) (hs2 : s2 ≤ 12) : Ev (fun k => F43 k n1 l1 (s1 : Int) n2 l2 (s2 : Int)) ((dCmp n1 l1 s1 n2 l2 s2, ()), (((), (), (), ()), ((), (), (), ()), ())) := by
  obtain ⟨a16, ra, ta, _⟩ := bOk_of h1
  obtain ⟨b16, rb, tb, _⟩ := bOk_of h2
  have em : (if (s2 : Int) > (s1 : Int) then (s2 : Int) else (s1 : Int)) = ((max s1 s2 : Nat) : Int) := by split <;> omega
  have e1 : max s1 s2 = s1 + (max s1 s2 - s1) := by omega
  have e2 : max s1 s2 = s2 + (max s1 s2 - s2) := by omega
  have k1 := at_len (num_lt ra a16) (show max s1 s2 - s1 ≤ 24 by omega)
  have k2 := at_len (num_lt rb b16) (show max s1 s2 - s2 ≤ 24 by omega)
  have a1 := at_ev (neg := n1) (s := s1) (m := max s1 s2 - s1) ra a16 (by omega)
  have a2 := at_ev (neg := n2) (s := s2) (m := max s1 s2 - s2) rb b16 (by omega)
  rw [← e1] at a1
  rw [← e2] at a2
  refine Ev.step 2 (fun k => F43_eq k _ _ _ _ _ _) ?_
  simp only [em]
  refine Ev.bind a1 (Ev.bind a2 (Ev.bind (Ev.step 2 (fun k => F56_eq k _ _) (Ev.now _)) (Ev.bind (sAdd_ev (by omega) (by omega)) (Ev.bind sign_ev ?_))))
  unfold dCmp
  have hp : ∀ m : Nat, 0 < 10 ^ m := fun m => Nat.pow_pos (by omega)
  rw [← sSum_sCmp (fun e => Nat.mul_pos (num_pos h1 e) (hp _)) (fun e => Nat.mul_pos (num_pos h2 e) (hp _))]
  exact Ev.now _
theorem l2Cmp_ev (h1 : bOk n1 l1 = true) (h2 : bOk n2 l2 = true) (hs1 : s1 ≤ 12) (hs2 : s2 ≤ 12) : Ev (fun k => F40 k n1 l1 (s1 : Int) n2 l2 (s2 : Int)) ((dCmp n1 l1 s1 n2 l2 s2, ()), (((), (), (), ()), ((), (), (), ()), ())) := by
  obtain ⟨a16, ra, ta, _⟩ := bOk_of h1
  obtain ⟨b16, rb, tb, _⟩ := bOk_of h2
  have hg : Ev (fun k => F84 k (s1 : Int) (s2 : Int)) ((((max s1 s2 : Nat) : Int), ()), ((), (), ())) := by
    refine Ev.step 2 (fun k => F84_eq k _ _) ?_
    by_cases h : s1 > s2
    · have c : decide ((s1 : Int) > (s2 : Int)) = true := decide_eq_true (by omega)
      have e : max s1 s2 = s1 := by omega
      simp only [c, if_true, e]
      exact Ev.now _
    · have c : decide ((s1 : Int) > (s2 : Int)) = false := decide_eq_false (by omega)
      have e : max s1 s2 = s2 := by omega
      simp only [c, Bool.false_eq_true, if_false, e]
      exact Ev.now _
  have e1 : max s1 s2 = s1 + (max s1 s2 - s1) := by omega
  have e2 : max s1 s2 = s2 + (max s1 s2 - s2) := by omega
  have k1 := at_len (num_lt ra a16) (show max s1 s2 - s1 ≤ 24 by omega)
  have k2 := at_len (num_lt rb b16) (show max s1 s2 - s2 ≤ 24 by omega)
  have a1 := l2At_ev (neg := n1) (s := s1) (m := max s1 s2 - s1) ra a16 (by omega)
  have a2 := l2At_ev (neg := n2) (s := s2) (m := max s1 s2 - s2) rb b16 (by omega)
  rw [← e1] at a1
  rw [← e2] at a2
  exact Ev.step 2 (fun k => F40_eq k _ _ _ _ _ _) (Ev.bind hg (Ev.bind a1 (Ev.bind a2 (Ev.bind (l1Cmp_ev (by omega) (by omega)) (Ev.now _)))))
end
/-! ### the law's helpers -/
theorem toDec_ev (n : Bool) (l : List Int) (s : Int) (h : l.length ≤ 1048576) : Ev (fun k => F13 k n l s) (((n, l, s, ()), ()), (((), (), (), ()), ())) :=
  Ev.step 2 (fun k => F13_eq k n l s) (Ev.bind (Ev.step 2 (fun k => F41_eq k n l) (Ev.bind (toIntS_ev l h) (Ev.now _))) (Ev.now _))
theorem eqDec_ev (n : Bool) (l : List Int) (s : Int) (h : l.length ≤ 1048576) : Ev (fun k => F15 k n l s n l s) ((true, ()), (((), (), (), ()), ((), (), (), ()), ())) := by
  have hb : Ev (fun k => F44 k n l n l) ((true, ()), (((), (), ()), ((), (), ()), ())) := by
    refine Ev.step 2 (fun k => F44_eq k n l n l) ?_
    simp only [beq_self_eq_true, Bool.not_true, Bool.false_eq_true, if_false]
    exact Ev.bind (eqIntS_ev l h) (Ev.now _)
  refine Ev.step 2 (fun k => F15_eq k n l s n l s) (Ev.bind hb ?_)
  simp only [Bool.not_true, Bool.false_eq_true, if_false, bne_self_eq_false]
  exact Ev.now _
theorem szDec_ev (n : Bool) (l : List Int) (s : Int) (hlen : l.length ≤ 9223372036854775807) (b : Int) (h0 : 0 ≤ b) (hb : b ≤ 1048576) : ∃ r, Ev (fun k => F11 k n l s b) r ∧ (r.1.1 < 0 ∨ (0 ≤ r.1.1 ∧ r.1.1 ≤ b ∧ l.length ≤ 1048576)) := by
  obtain ⟨r, h1, h2⟩ := szIntS_ev l hlen b h0 hb
  rcases h2 with h2 | ⟨h2, h3, h4⟩
  · refine ⟨(((-1 : Int), ()), (((), (), (), ()), (), ())), Ev.step 2 (fun k => F11_eq k n l s b) (Ev.bind (Ev.step 2 (fun k => F38_eq k n l b) (Ev.bind h1 (r := (((-1 : Int), ()), (((), (), ()), (), ()))) ?_)) (by
      have c : decide ((-1 : Int) < 0) = true := by decide
      simp only [c, if_true]
      exact Ev.now _)), .inl (by decide : (-1 : Int) < 0)⟩
    simp only [h2, decide_true, if_true]
    exact Ev.now _
  · have hneg : decide (r.1.1 < 0) = false := decide_eq_false (by omega)
    refine ⟨((r.1.1, ()), (((), (), (), ()), (), ())), Ev.step 2 (fun k => F11_eq k n l s b) (Ev.bind (Ev.step 2 (fun k => F38_eq k n l b) (Ev.bind h1 (r := ((r.1.1, ()), (((), (), ()), (), ()))) ?_)) ?_), .inr ⟨h2, h3, h4⟩⟩
    · simp only [hneg, Bool.false_eq_true, if_false]
      exact Ev.now _
    · simp only [hneg, Bool.false_eq_true, if_false]
      exact Ev.now _
theorem DecCmp_both (n1 : Bool) (l1 : List Int) (s1 : Int) (n2 : Bool) (l2 : List Int) (s2 : Int) (h1 : l1.length ≤ 1048576) (h2 : l2.length ≤ 1048576) : ∃ c : Int, Ev (fun k => F14 k n1 l1 s1 n2 l2 s2) ((c, ()), (((), (), (), ()), ((), (), (), ()), ())) ∧ Ev (fun k => F12 k n1 l1 s1 n2 l2 s2) ((c, ()), (((), (), (), ()), ((), (), (), ()), ())) := by
  have st1 : ∀ {q}, Ev (fun k => if (!(decOk n1 l1 s1 && decOk n2 l2 s2)) = true then some (((2 : Int), ()), (((), (), (), ()), ((), (), (), ()), ())) else (F43 k n1 l1 s1 n2 l2 s2).bind fun r2 => some ((r2.1.1, ()), (((), (), (), ()), ((), (), (), ()), ()))) q → Ev (fun k => F14 k n1 l1 s1 n2 l2 s2) q :=
    fun hq => Ev.step 2 (fun k => F14_eq k _ _ _ _ _ _) (Ev.bind (decs_ev n1 l1 s1 n2 l2 s2 h1 h2) hq)
  have st2 : ∀ {q}, Ev (fun k => if (!decOk n1 l1 s1) = true then some (((2 : Int), ()), (((), (), (), ()), ((), (), (), ()), ())) else (F39 k n2 l2 s2).bind fun r2 => if (!r2.1.1) = true then some (((2 : Int), ()), (((), (), (), ()), ((), (), (), ()), ())) else (F40 k n1 l1 s1 n2 l2 s2).bind fun r3 => some ((r3.1.1, ()), (((), (), (), ()), ((), (), (), ()), ()))) q → Ev (fun k => F12 k n1 l1 s1 n2 l2 s2) q :=
    fun hq => Ev.step 2 (fun k => F12_eq k _ _ _ _ _ _) (Ev.bind (l2Ok_ev n1 l1 s1 h1) hq)
  cases c1 : decOk n1 l1 s1 with
  | false =>
    rw [c1] at st1 st2
    exact ⟨2, st1 (Ev.now _), st2 (Ev.now _)⟩
  | true =>
    rw [c1] at st1 st2
    simp only [Bool.not_true, Bool.false_eq_true, if_false, Bool.true_and] at st1 st2
    cases c2 : decOk n2 l2 s2 with
    | false =>
      rw [c2] at st1
      refine ⟨2, st1 (Ev.now _), st2 (Ev.bind (l2Ok_ev n2 l2 s2 h2) ?_)⟩
      rw [c2]
      exact Ev.now _
    | true =>
      rw [c2] at st1
      simp only [Bool.not_true, Bool.false_eq_true, if_false] at st1
      obtain ⟨b1, _, t1, rfl, ht1⟩ := decOk_of c1
      obtain ⟨b2, _, t2, rfl, ht2⟩ := decOk_of c2
      refine ⟨dCmp n1 l1 t1 n2 l2 t2, st1 (Ev.bind (cmpD_ev b1 b2 ht1 ht2) (Ev.now _)), st2 (Ev.bind (l2Ok_ev n2 l2 _ h2) ?_)⟩
      simp only [c2, Bool.not_true, Bool.false_eq_true, if_false]
      exact Ev.bind (l2Cmp_ev b1 b2 ht1 ht2) (Ev.now _)
end Go.Proofs.YtdmcibaoebmieaaDoor.R
/-! Rf, decimals: added; fresh memory. -/
set_option linter.unusedSimpArgs false
namespace Go.Proofs.YtdmcibaoebmieaaDoor.R
open Go.Rf
theorem VI_take_succ' {l : List Int} {i : Nat} : VI (l.take (i + 1)) = VI (l.take i) + l.getD i 0 * 10000 ^ i := by
  rcases Nat.lt_or_ge i l.length with h | h
  · exact VI_take_succ h
  · rw [List.take_of_length_le h, List.take_of_length_le (by omega), List.getD_eq_getElem?_getD, List.getElem?_eq_none h]
    simp
theorem getD0 {l : List Int} (h : InR l) (i : Nat) : 0 ≤ l.getD i 0 ∧ l.getD i 0 ≤ 9999 := by
  rcases Nat.lt_or_ge i l.length with h1 | h1
  · exact h.at h1
  · rw [List.getD_eq_getElem?_getD, List.getElem?_eq_none h1]
    exact ⟨Int.le_refl _, by decide⟩
theorem inrSnoc {l : List Int} {d : Int} (h : InR l) (hd : 0 ≤ d ∧ d ≤ 9999) : InR (l ++ [d]) := fun x hx => by
  rcases List.mem_append.1 hx with hx | hx
  · exact h x hx
  · rw [List.mem_singleton.1 hx]
    exact hd
theorem VI_snoc (l : List Int) (d : Int) : VI (l ++ [d]) = VI l + d * 10000 ^ l.length := by
  rw [VI_append]
  show VI l + 10000 ^ l.length * (d + 10000 * 0) = _
  grind
section
variable {a b : List Int}
theorem l1AddAbs_ev (ha : InR a) (hb : InR b) (la : a.length ≤ 100000) (lb : b.length ≤ 100000) : Ev (fun k => F125 k a b) ((digs (VI a + VI b).toNat, ()), ((), (), ())) := by
  obtain ⟨M, hM⟩ : ∃ M, M = max a.length b.length := ⟨_, rfl⟩
  have key : ∀ (m i : Nat) (x : List Int) (c : Int), i + m = M + 1 → x.length = i → VI x + c * 10000 ^ i = VI (a.take i) + VI (b.take i) → InR x → (0 ≤ c ∧ c ≤ 1) → (i = M + 1 → c = 0) → Ev (fun k => F125c4 k a b x c (i : Int)) ((digs (VI a + VI b).toNat, ()), ((), (), ())) := by
    intro m
    induction m with
    | zero =>
      intro i x c hi hx hV hr hc hz
      have hc0 := hz (by omega)
      subst hc0
      have h0 : decide ((0 : Int) > 0) = false := by decide
      refine Ev.step 1 (fun k => F125c4_eq k _ _ _ _ _) ?_
      simp only [lt_false (show a.length ≤ i by omega), lt_false (show b.length ≤ i by omega), h0, Bool.false_eq_true, if_false]
      have := l1Trim_ev hr (by omega)
      rw [List.take_of_length_le (by omega), List.take_of_length_le (by omega)] at hV
      have e : VI x = VI a + VI b := by omega
      rw [e] at this
      exact Ev.bind this (Ev.now _)
    | succ m ih =>
      intro i x c hi hx hV hr hc _
      have ra := getD0 ha i
      have rb := getD0 hb i
      obtain ⟨v, hv⟩ : ∃ v, v = a.getD i 0 + b.getD i 0 + c := ⟨_, rfl⟩
      have w1 : IntKind.i64.wrap (a.getD i 0 + b.getD i 0) = a.getD i 0 + b.getD i 0 := wrap64 (by omega) (by omega)
      have w2 : IntKind.i64.wrap (a.getD i 0 + b.getD i 0 + c) = v := by rw [← hv]; exact wrap64 (by omega) (by omega)
      have w3 : IntKind.i64.wrap (v / 10000) = v / 10000 := wrap64 (by omega) (by omega)
      have hcap : decide (x.length + [v % 10000].length ≤ 17592186044416) = true := decide_eq_true (by simp; omega)
      have step : ∀ {q}, (i < a.length ∨ i < b.length ∨ c > 0) → Ev (fun k => F125c4 k a b (x ++ [v % 10000]) (v / 10000) ((i + 1 : Nat) : Int)) q → Ev (fun k => F125c4 k a b x c (i : Int)) q := by
        intro q hor hq
        refine Ev.step 1 (fun k => F125c4_eq k _ _ _ _ _) ?_
        by_cases h1 : i < a.length
        · simp only [lt_true h1, if_true]
          refine Ev.bind limb_ev (Ev.bind limb_ev ?_)
          simp only [w1, w2, w3, tdiv_pos (show 0 ≤ v by omega), tmod_pos (show 0 ≤ v by omega), hcap, if_true, wrap_succ (show i < 9223372036854775807 by omega)]
          exact hq
        · by_cases h2 : i < b.length
          · simp only [lt_false (Nat.le_of_not_lt h1), lt_true h2, Bool.false_eq_true, if_false, if_true]
            refine Ev.bind limb_ev (Ev.bind limb_ev ?_)
            simp only [w1, w2, w3, tdiv_pos (show 0 ≤ v by omega), tmod_pos (show 0 ≤ v by omega), hcap, if_true, wrap_succ (show i < 9223372036854775807 by omega)]
            exact hq
          · have h3 : decide (c > 0) = true := decide_eq_true (by omega)
            simp only [lt_false (Nat.le_of_not_lt h1), lt_false (Nat.le_of_not_lt h2), h3, Bool.false_eq_true, if_false, if_true]
            refine Ev.bind limb_ev (Ev.bind limb_ev ?_)
            simp only [w1, w2, w3, tdiv_pos (show 0 ≤ v by omega), tmod_pos (show 0 ≤ v by omega), hcap, if_true, wrap_succ (show i < 9223372036854775807 by omega)]
            exact hq
      by_cases hor : i < a.length ∨ i < b.length ∨ c > 0
      · refine step hor (ih (i + 1) _ _ (by omega) (by simp; omega) ?_ (inrSnoc hr (by omega)) (by omega) (fun h => ?_))
        · rw [VI_snoc, hx, VI_take_succ', VI_take_succ', Int.pow_succ]
          have e : v = 10000 * (v / 10000) + v % 10000 := by omega
          grind
        · have h1 : a.getD i 0 = 0 := by rw [List.getD_eq_getElem?_getD, List.getElem?_eq_none (by omega)]; rfl
          have h2 : b.getD i 0 = 0 := by rw [List.getD_eq_getElem?_getD, List.getElem?_eq_none (by omega)]; rfl
          omega
      · have hc0 : c = 0 := by omega
        subst hc0
        have h0 : decide ((0 : Int) > 0) = false := by decide
        refine Ev.step 1 (fun k => F125c4_eq k _ _ _ _ _) ?_
        simp only [lt_false (show a.length ≤ i by omega), lt_false (show b.length ≤ i by omega), h0, Bool.false_eq_true, if_false]
        have := l1Trim_ev hr (by omega)
        rw [List.take_of_length_le (by omega), List.take_of_length_le (by omega)] at hV
        have e : VI x = VI a + VI b := by omega
        rw [e] at this
        exact Ev.bind this (Ev.now _)
  exact Ev.step 2 (fun k => F125_eq k a b) (key (M + 1) 0 [] 0 (by omega) rfl (by simp [VI]) InR.nil (by omega) (fun h => by omega))
theorem l1SubAbs_ev (ha : InR a) (hb : InR b) (tb : Trim b) (la : a.length ≤ 100000) (hle : VI b ≤ VI a) : Ev (fun k => F120 k a b) ((digs (VI a - VI b).toNat, ()), ((), (), ())) := by
  have hlen : b.length ≤ a.length := by
    rcases Nat.lt_or_ge a.length b.length with h | h
    · have := VI_len_lt ha hb tb h
      omega
    · exact h
  have key : ∀ (m i : Nat) (x : List Int) (c : Int), i + m = a.length → x.length = i → VI x - c * 10000 ^ i = VI (a.take i) - VI (b.take i) → InR x → (0 ≤ c ∧ c ≤ 1) → Ev (fun k => F120c4 k a b x c (i : Int)) ((digs (VI a - VI b).toNat, ()), ((), (), ())) := by
    intro m
    induction m with
    | zero =>
      intro i x c hi hx hV hr hc
      have hia : i = a.length := by omega
      subst hia
      rw [List.take_of_length_le (Nat.le_refl _), List.take_of_length_le hlen] at hV
      have hlt := VI_lt hr
      rw [hx] at hlt
      have hc0 : c = 0 := by
        rcases Int.lt_or_le 0 c with h | h
        · exfalso
          have : c = 1 := by omega
          subst this
          omega
        · omega
      subst hc0
      refine Ev.step 1 (fun k => F120c4_eq k _ _ _ _ _) ?_
      simp only [lt_false (Nat.le_refl a.length), Bool.false_eq_true, if_false]
      have := l1Trim_ev hr (by omega)
      have e : VI x = VI a - VI b := by omega
      rw [e] at this
      exact Ev.bind this (Ev.now _)
    | succ m ih =>
      intro i x c hi hx hV hr hc
      have hia : i < a.length := by omega
      have ra := ha.at hia
      have rb := getD0 hb i
      have w1 : IntKind.i64.wrap (a.getD i 0 - b.getD i 0) = a.getD i 0 - b.getD i 0 := wrap64 (by omega) (by omega)
      have w2 : IntKind.i64.wrap (a.getD i 0 - b.getD i 0 - c) = a.getD i 0 - b.getD i 0 - c := wrap64 (by omega) (by omega)
      have w3 : IntKind.i64.wrap (a.getD i 0 - b.getD i 0 - c + 10000) = a.getD i 0 - b.getD i 0 - c + 10000 := wrap64 (by omega) (by omega)
      refine Ev.step 1 (fun k => F120c4_eq k _ _ _ _ _) ?_
      simp only [lt_true hia, ge0, if_true, Int.toNat_natCast, getI_of hia, Option.bind_some]
      refine Ev.bind limb_ev ?_
      simp only [w1, w2, w3]
      by_cases hneg : a.getD i 0 - b.getD i 0 - c < 0
      · simp only [hneg, decide_true, if_true]
        refine Ev.step 1 (fun k => F120c11_eq k _ _ _ _ _ _) ?_
        have hcap : decide (x.length + [a.getD i 0 - b.getD i 0 - c + 10000].length ≤ 17592186044416) = true := decide_eq_true (by simp; omega)
        simp only [hcap, if_true, wrap_succ (show i < 9223372036854775807 by omega)]
        refine ih (i + 1) _ _ (by omega) (by simp; omega) ?_ (inrSnoc hr (by omega)) (by omega)
        rw [VI_snoc, hx, VI_take_succ', VI_take_succ', Int.pow_succ]
        grind
      · simp only [hneg, decide_false, Bool.false_eq_true, if_false]
        refine Ev.step 1 (fun k => F120c11_eq k _ _ _ _ _ _) ?_
        have hcap : decide (x.length + [a.getD i 0 - b.getD i 0 - c].length ≤ 17592186044416) = true := decide_eq_true (by simp; omega)
        simp only [hcap, if_true, wrap_succ (show i < 9223372036854775807 by omega)]
        refine ih (i + 1) _ _ (by omega) (by simp; omega) ?_ (inrSnoc hr (by omega)) (by omega)
        rw [VI_snoc, hx, VI_take_succ', VI_take_succ']
        grind
  exact Ev.step 2 (fun k => F120_eq k a b) (key a.length 0 [] 0 (by omega) rfl (by simp [VI]) InR.nil (by omega))
end
theorem l1Add_ev {na nb : Bool} {A B : Nat} (la : (digs A).length ≤ 100000) (lb : (digs B).length ≤ 100000) : Ev (fun k => F100 k na (digs A) nb (digs B)) (((sSum na A nb B).1, digs (sSum na A nb B).2, ()), ((), (), (), (), ())) := by
  obtain ⟨ra, ta, va⟩ := digs_spec A
  obtain ⟨rb, tb, vb⟩ := digs_spec B
  refine Ev.step 2 (fun k => F100_eq k _ _ _ _) ?_
  unfold sSum
  by_cases hn : na = nb
  · subst hn
    have hadd := l1AddAbs_ev ra rb la lb
    have e : (VI (digs A) + VI (digs B)).toNat = A + B := by rw [va, vb]; omega
    rw [e] at hadd
    simp only [beq_self_eq_true, if_true]
    exact Ev.bind hadd (Ev.now _)
  · have c : (na == nb) = false := by simp [hn]
    simp only [c, hn, Bool.false_eq_true, if_false]
    refine Ev.bind (l1CmpAbs_ev ra rb ta tb va vb (by omega)) ?_
    simp only [cmpI_ge]
    by_cases hle : B ≤ A
    · have hsub := l1SubAbs_ev ra rb tb la (by rw [va, vb]; omega)
      have e : (VI (digs A) - VI (digs B)).toNat = A - B := by rw [va, vb]; omega
      rw [e] at hsub
      simp only [hle, decide_true, if_true]
      exact Ev.bind hsub (Ev.now _)
    · have hsub := l1SubAbs_ev rb ra ta lb (by rw [va, vb]; omega)
      have e : (VI (digs B) - VI (digs A)).toNat = B - A := by rw [va, vb]; omega
      rw [e] at hsub
      simp only [hle, decide_false, Bool.false_eq_true, if_false]
      exact Ev.bind hsub (Ev.now _)
/-! ### a decimal is made -/
def made (neg : Bool) (n : Nat) (s : Int) : (Bool × List Int × Int × Unit) × Int × Unit := if long (digs n) > 30 then ((false, [], 0, ()), 3, ()) else ((neg && decide (((digs n).length : Int) > 0), digs n, s, ()), 0, ())
theorem l2Make_ev {neg : Bool} {n : Nat} {s : Int} (hl : (digs n).length ≤ 100000) : Ev (fun k => F101 k neg (digs n) s) (made neg n s, ((), (), (), ())) := by
  refine Ev.step 2 (fun k => F101_eq k _ _ _) (Ev.bind (l1Long_ev (digs_spec n).1 (by omega)) ?_)
  unfold made
  by_cases h : long (digs n) > 30
  · simp only [h, decide_true, if_true]
    exact Ev.now _
  · simp only [h, decide_false, Bool.false_eq_true, if_false]
    cases neg with
    | true => exact Ev.now _
    | false => exact Ev.now _
theorem clone_int_ev (l : List Int) (h : l.length ≤ 1000000) : Ev (fun k => F97 k l) ((l, ()), ((), ())) := by
  have h1 : Ev (fun k => F124 k l) ((l, ()), ((), ())) := by
    refine Ev.step 2 (fun k => F124_eq k l) ?_
    have hc : decide (([] : List Int).length + l.length ≤ 17592186044416) = true := decide_eq_true (by simp; omega)
    simp only [hc, if_true, List.nil_append]
    cases l with
    | nil =>
      rw [bothK_same]
      exact Ev.now _
    | cons x l =>
      have : emptyL (x :: l) = false := rfl
      rw [this, bothK_false]
      exact Ev.now _
  have h2 : Ev (fun k => F123 k l) ((l, ()), ((), ())) := by
    refine Ev.step 2 (fun k => F123_eq k l) ?_
    simp only [beq_self_eq_true, Bool.and_self, if_true]
    exact Ev.now _
  exact Ev.step 2 (fun k => F97_eq k l) (Ev.bind h1 (Ev.bind h2 (Ev.now _)))
theorem figs_ge : ∀ {l : List Int}, InR l → l ≠ [] → 4 * l.length ≤ (figs l).length + 4
  | [], _, h => absurd rfl h
  | [d], _, _ => by simp
  | d :: e :: l, h, _ => by
    have h1 := figs_ge h.cons.2 (by simp)
    have h2 := fig4_len h.cons.1
    rw [figs, List.length_append, h2, List.length_cons]
    omega
theorem long_small {l : List Int} (h : InR l) (hl : ¬ long l > 30) : l.length ≤ 16 := by
  unfold long at hl
  by_cases h0 : l.length = 0
  · omega
  · rw [if_neg h0, textL_pos (fun e => h0 (by rw [e]; rfl)), bytes_size] at hl
    have := figs_ge h (fun e => h0 (by rw [e]; rfl))
    omega
theorem dec_ev {neg : Bool} {n : Nat} {s : Int} (hl : (digs n).length ≤ 100000) : Ev (fun k => F52 k neg (digs n) s) (made neg n s, (((), (), ()), (), ())) := by
  obtain ⟨hr, ht, hv⟩ := digs_spec n
  have htr := trim_ev hr (show (digs n).length ≤ 1000000 by omega)
  have e : digs (VI (digs n)).toNat = digs n := by rw [hv]; rfl
  rw [e] at htr
  refine Ev.step 2 (fun k => F52_eq k _ _ _) (Ev.bind htr (Ev.bind (digits_ev hr (show (digs n).length ≤ 1000000 by omega)) ?_))
  unfold made
  by_cases h : long (digs n) > 30
  · simp only [h, decide_true, if_true]
    exact Ev.now _
  · have h16 := long_small hr h
    have c16 : decide (((digs n).length : Int) > 16) = false := decide_eq_false (by omega)
    have hbig : Ev (fun k => F48 k neg (digs n)) (((neg && decide (((digs n).length : Int) > 0), digs n, ()), true, ()), ((), (), ())) := by
      refine Ev.step 2 (fun k => F48_eq k _ _) (Ev.bind htr ?_)
      simp only [c16, Bool.false_eq_true, if_false]
      cases neg with
      | true =>
        simp only [if_true, Bool.true_and]
        exact Ev.bind (clone_int_ev _ (by omega)) (Ev.now _)
      | false =>
        simp only [Bool.false_eq_true, if_false, Bool.false_and]
        exact Ev.bind (clone_int_ev _ (by omega)) (Ev.now _)
    simp only [h, decide_false, Bool.false_eq_true, if_false]
    exact Ev.bind hbig (Ev.now _)
theorem sSum_lt {na nb : Bool} {A B C : Nat} (ha : A < C) (hb : B < C) : (sSum na A nb B).2 < 2 * C := by
  unfold sSum
  split
  · show A + B < _
    omega
  · split
    · show A - B < _
      omega
    · show B - A < _
      omega
theorem at_lt {V m : Nat} (hV : V < 10000 ^ 16) (hm : m ≤ 24) : V * 10 ^ m < 10000 ^ 40 := by
  have h1 : 10 ^ m ≤ 10 ^ 24 := Nat.pow_le_pow_right (by omega) hm
  have h2 : V * 10 ^ m ≤ V * 10 ^ 24 := Nat.mul_le_mul_left V h1
  have h3 : V * 10 ^ 24 < 10000 ^ 16 * 10 ^ 24 := Nat.mul_lt_mul_of_pos_right hV (Nat.pow_pos (by omega))
  have h4 : 10000 ^ 16 * 10 ^ 24 ≤ 10000 ^ 40 := by decide
  omega
theorem sum_len {na nb : Bool} {A B : Nat} (ha : A < 10000 ^ 40) (hb : B < 10000 ^ 40) : (digs (sSum na A nb B).2).length ≤ 41 := by
  refine digs_len_le ?_
  have h1 := sSum_lt (na := na) (nb := nb) ha hb
  have h2 : 2 * 10000 ^ 40 ≤ 10000 ^ 41 := by
    rw [Nat.pow_succ]
    have : 0 < 10000 ^ 40 := Nat.pow_pos (by omega)
    omega
  omega
section
variable {n1 n2 : Bool} {l1 l2 : List Int} {s1 s2 : Nat}
theorem l2Add_ev (h1 : bOk n1 l1 = true) (r2 : InR l2) (b16 : l2.length ≤ 16) (hs1 : s1 ≤ 12) (hs2 : s2 ≤ 12) : Ev (fun k => F51 k n1 l1 (s1 : Int) n2 l2 (s2 : Int)) (made (sSum n1 (num l1 * 10 ^ (max s1 s2 - s1)) n2 (num l2 * 10 ^ (max s1 s2 - s2))).1 (sSum n1 (num l1 * 10 ^ (max s1 s2 - s1)) n2 (num l2 * 10 ^ (max s1 s2 - s2))).2 ((max s1 s2 : Nat) : Int), (((), (), (), ()), ((), (), (), ()), ())) := by
  obtain ⟨a16, ra, ta, _⟩ := bOk_of h1
  have hg : Ev (fun k => F84 k (s1 : Int) (s2 : Int)) ((((max s1 s2 : Nat) : Int), ()), ((), (), ())) := by
    refine Ev.step 2 (fun k => F84_eq k _ _) ?_
    by_cases h : s1 > s2
    · have c : decide ((s1 : Int) > (s2 : Int)) = true := decide_eq_true (by omega)
      have e : max s1 s2 = s1 := by omega
      simp only [c, if_true, e]
      exact Ev.now _
    · have c : decide ((s1 : Int) > (s2 : Int)) = false := decide_eq_false (by omega)
      have e : max s1 s2 = s2 := by omega
      simp only [c, Bool.false_eq_true, if_false, e]
      exact Ev.now _
  have e1 : max s1 s2 = s1 + (max s1 s2 - s1) := by omega
  have e2 : max s1 s2 = s2 + (max s1 s2 - s2) := by omega
  have k1 := at_len (num_lt ra a16) (show max s1 s2 - s1 ≤ 24 by omega)
  have k2 := at_len (num_lt r2 b16) (show max s1 s2 - s2 ≤ 24 by omega)
  have k3 := sum_len (na := n1) (nb := n2) (at_lt (num_lt ra a16) (show max s1 s2 - s1 ≤ 24 by omega)) (at_lt (num_lt r2 b16) (show max s1 s2 - s2 ≤ 24 by omega))
  have a1 := l2At_ev (neg := n1) (s := s1) (m := max s1 s2 - s1) ra a16 (by omega)
  have a2 := l2At_ev (neg := n2) (s := s2) (m := max s1 s2 - s2) r2 b16 (by omega)
  rw [← e1] at a1
  rw [← e2] at a2
  exact Ev.step 2 (fun k => F51_eq k _ _ _ _ _ _) (Ev.bind hg (Ev.bind a1 (Ev.bind a2 (Ev.bind (l1Add_ev (by omega) (by omega)) (Ev.bind (l2Make_ev (by omega)) (Ev.now _))))))
end
/-! ### marks -/
def marks (b : Int) (l : List Int) : List Int := (List.range l.length).map fun (i : Nat) => b + (i : Int)
theorem marks_len (b : Int) (l : List Int) : (marks b l).length = l.length := by simp [marks]
theorem marks_at {b : Int} {l : List Int} {i : Nat} (h : i < l.length) : (marks b l).getD i 0 = b + i := by
  rw [List.getD_eq_getElem?_getD]
  unfold marks
  rw [List.getElem?_map, List.getElem?_range h]
  rfl
theorem markDec_ev (n : Bool) (l : List Int) (s b : Int) (h : l.length ≤ 1048576) (h0 : 0 ≤ b) (hb : b ≤ 1000000000) : Ev (fun k => F18 k n l s b) ((b + l.length, ()), (((), marks b l, (), ()), (), ())) := by
  have key : ∀ (m i : Nat) (x : List Int), i + m = l.length → x.length = l.length → (∀ j, j < i → x.getD j 0 = b + j) → Ev (fun k => F98c2 k x (b + i) (i : Int)) ((b + l.length, ()), (marks b l, (), ())) := by
    intro m
    induction m with
    | zero =>
      intro i x hi hx hj
      have hil : i = l.length := by omega
      subst hil
      have e : x = marks b l := ext_getD (by rw [marks_len]; exact hx) (fun j hj' => by rw [hj j (by omega), marks_at (by omega)])
      refine Ev.step 1 (fun k => F98c2_eq k _ _ _) ?_
      simp only [lt_false (Nat.le_of_eq hx), Bool.false_eq_true, if_false]
      rw [e]
      exact Ev.now _
    | succ m ih =>
      intro i x hi hx hj
      have hil : i < x.length := by omega
      have w : IntKind.i64.wrap (b + (i : Int) + 1) = b + ((i + 1 : Nat) : Int) := by rw [wrap64 (by omega) (by omega)]; omega
      refine Ev.step 1 (fun k => F98c2_eq k _ _ _) ?_
      simp only [lt_true hil, ge0, Bool.and_self, if_true, Int.toNat_natCast, getI_of hil, Option.bind_some, w, wrap_succ (show i < 9223372036854775807 by omega)]
      refine ih (i + 1) _ (by omega) (by simpa using hx) (fun j hj' => ?_)
      rw [getI_set hil]
      split
      · rename_i e; rw [e]
      · exact hj j (by omega)
  have h1 := key l.length 0 l (by omega) rfl (fun j hj => by omega)
  have e : b + ((0 : Nat) : Int) = b := by omega
  rw [e] at h1
  exact Ev.step 2 (fun k => F18_eq k _ _ _ _) (Ev.bind (Ev.step 2 (fun k => F49_eq k _ _ _) (Ev.bind (Ev.step 2 (fun k => F98_eq k _ _) h1) (Ev.now _))) (Ev.now _))
theorem heldDec_ev (n : Bool) (l : List Int) (s b : Int) (h : l.length ≤ 1048576) (h0 : 0 ≤ b) (hb : b ≤ 1000000000) : Ev (fun k => F19 k n (marks b l) s b) ((b + l.length, ()), (((), (), (), ()), (), ())) := by
  have key : ∀ (m i : Nat), i + m = l.length → Ev (fun k => F99c2 k (marks b l) (b + i) (i : Int)) ((b + l.length, ()), ((), (), ())) := by
    intro m
    induction m with
    | zero =>
      intro i hi
      have hil : i = l.length := by omega
      subst hil
      refine Ev.step 1 (fun k => F99c2_eq k _ _ _) ?_
      simp only [lt_false (Nat.le_of_eq (marks_len b l)), Bool.false_eq_true, if_false]
      exact Ev.now _
    | succ m ih =>
      intro i hi
      have hil : i < (marks b l).length := by rw [marks_len]; omega
      have w : IntKind.i64.wrap (b + (i : Int) + 1) = b + ((i + 1 : Nat) : Int) := by rw [wrap64 (by omega) (by omega)]; omega
      refine Ev.step 1 (fun k => F99c2_eq k _ _ _) ?_
      simp only [lt_true hil, ge0, if_true, Int.toNat_natCast, getI_of hil, Option.bind_some, marks_at (show i < l.length by omega), bne_self_eq_false, Bool.false_eq_true, if_false, w, wrap_succ (show i < 9223372036854775807 by omega)]
      exact ih (i + 1) (by omega)
  have h1 := key l.length 0 (by omega)
  have e : b + ((0 : Nat) : Int) = b := by omega
  rw [e] at h1
  have hneg : decide (b + (l.length : Int) < 0) = false := decide_eq_false (by omega)
  refine Ev.step 2 (fun k => F19_eq k _ _ _ _) (Ev.bind (Ev.step 2 (fun k => F50_eq k _ _ _) (Ev.bind (Ev.step 2 (fun k => F99_eq k _ _) h1) (r := ((b + l.length, ()), (((), (), ()), (), ()))) ?_)) ?_)
  · simp only [hneg, Bool.false_eq_true, if_false]
    exact Ev.now _
  · simp only [hneg, Bool.false_eq_true, if_false]
    exact Ev.now _
end Go.Proofs.YtdmcibaoebmieaaDoor.R
/-! Rf, decimals: sums and differences, on both sides. -/
set_option linter.unusedSimpArgs false
namespace Go.Proofs.YtdmcibaoebmieaaDoor.R
open Go.Rf
theorem made_len {neg : Bool} {n : Nat} {s : Int} (h : (digs n).length ≤ 100) : (made neg n s).1.2.1.length ≤ 1000 := by
  unfold made
  split
  · show ([] : List Int).length ≤ 1000
    simp
  · show (digs n).length ≤ 1000
    omega
theorem sSum_zero {na nb : Bool} {A : Nat} : sSum na A nb 0 = (na, A) := by
  unfold sSum
  split
  · rfl
  · rw [if_pos (Nat.zero_le _)]
    rfl
section
variable (n1 : Bool) (l1 : List Int) (s1 : Int) (n2 : Bool) (l2 : List Int) (s2 : Int)
theorem DecAdd_both (h1 : l1.length ≤ 1048576) (h2 : l2.length ≤ 1048576) : ∃ m : (Bool × List Int × Int × Unit) × Int × Unit, m.1.2.1.length ≤ 1000 ∧ Ev (fun k => F21 k n1 l1 s1 n2 l2 s2) (m, (((), (), (), ()), ((), (), (), ()), ())) ∧ Ev (fun k => F20 k n1 l1 s1 n2 l2 s2) (m, (((), (), (), ()), ((), (), (), ()), ())) := by
  cases c1 : decOk n1 l1 s1 with
  | false =>
    refine ⟨((false, [], 0, ()), 1, ()), by simp, Ev.step 2 (fun k => F21_eq k _ _ _ _ _ _) (Ev.bind (decs_ev n1 l1 s1 n2 l2 s2 h1 h2) ?_), Ev.step 2 (fun k => F20_eq k _ _ _ _ _ _) (Ev.bind (l2Ok_ev n1 l1 s1 h1) ?_)⟩
    · simp only [c1, Bool.false_and, Bool.not_false, if_true]
      exact Ev.now _
    · simp only [c1, Bool.not_false, if_true]
      exact Ev.now _
  | true =>
    cases c2 : decOk n2 l2 s2 with
    | false =>
      refine ⟨((false, [], 0, ()), 1, ()), by simp, Ev.step 2 (fun k => F21_eq k _ _ _ _ _ _) (Ev.bind (decs_ev n1 l1 s1 n2 l2 s2 h1 h2) ?_), Ev.step 2 (fun k => F20_eq k _ _ _ _ _ _) (Ev.bind (l2Ok_ev n1 l1 s1 h1) ?_)⟩
      · simp only [c1, c2, Bool.and_false, Bool.not_false, if_true]
        exact Ev.now _
      · simp only [c1, Bool.not_true, Bool.false_eq_true, if_false]
        refine Ev.bind (l2Ok_ev n2 l2 s2 h2) ?_
        simp only [c2, Bool.not_false, if_true]
        exact Ev.now _
    | true =>
      obtain ⟨b1, _, t1, rfl, ht1⟩ := decOk_of c1
      obtain ⟨b2, _, t2, rfl, ht2⟩ := decOk_of c2
      obtain ⟨a16, ra, ta, _⟩ := bOk_of b1
      obtain ⟨b16, rb, tb, _⟩ := bOk_of b2
      have em : (if (t2 : Int) > (t1 : Int) then (t2 : Int) else (t1 : Int)) = ((max t1 t2 : Nat) : Int) := by split <;> omega
      have e1 : max t1 t2 = t1 + (max t1 t2 - t1) := by omega
      have e2 : max t1 t2 = t2 + (max t1 t2 - t2) := by omega
      have k1 := at_len (num_lt ra a16) (show max t1 t2 - t1 ≤ 24 by omega)
      have k2 := at_len (num_lt rb b16) (show max t1 t2 - t2 ≤ 24 by omega)
      have k3 := sum_len (na := n1) (nb := n2) (at_lt (num_lt ra a16) (show max t1 t2 - t1 ≤ 24 by omega)) (at_lt (num_lt rb b16) (show max t1 t2 - t2 ≤ 24 by omega))
      have a1 := at_ev (neg := n1) (s := t1) (m := max t1 t2 - t1) ra a16 (by omega)
      have a2 := at_ev (neg := n2) (s := t2) (m := max t1 t2 - t2) rb b16 (by omega)
      rw [← e1] at a1
      rw [← e2] at a2
      refine ⟨made (sSum n1 (num l1 * 10 ^ (max t1 t2 - t1)) n2 (num l2 * 10 ^ (max t1 t2 - t2))).1 (sSum n1 (num l1 * 10 ^ (max t1 t2 - t1)) n2 (num l2 * 10 ^ (max t1 t2 - t2))).2 ((max t1 t2 : Nat) : Int), made_len (Nat.le_trans k3 (by omega)), Ev.step 2 (fun k => F21_eq k _ _ _ _ _ _) (Ev.bind (decs_ev n1 l1 _ n2 l2 _ h1 h2) ?_), Ev.step 2 (fun k => F20_eq k _ _ _ _ _ _) (Ev.bind (l2Ok_ev n1 l1 _ h1) ?_)⟩
      · simp only [c1, c2, Bool.and_self, Bool.not_true, Bool.false_eq_true, if_false, em]
        exact Ev.bind a1 (Ev.bind a2 (Ev.bind (sAdd_ev (by omega) (by omega)) (Ev.bind (dec_ev (Nat.le_trans k3 (by omega))) (Ev.now _))))
      · simp only [c1, Bool.not_true, Bool.false_eq_true, if_false]
        refine Ev.bind (l2Ok_ev n2 l2 _ h2) ?_
        simp only [c2, Bool.not_true, Bool.false_eq_true, if_false]
        exact Ev.bind (l2Add_ev b1 rb b16 ht1 ht2) (Ev.now _)
theorem DecSub_both (h1 : l1.length ≤ 1048576) (h2 : l2.length ≤ 1048576) : ∃ m : (Bool × List Int × Int × Unit) × Int × Unit, m.1.2.1.length ≤ 1000 ∧ Ev (fun k => F23 k n1 l1 s1 n2 l2 s2) (m, (((), (), (), ()), ((), (), (), ()), ())) ∧ Ev (fun k => F22 k n1 l1 s1 n2 l2 s2) (m, (((), (), (), ()), ((), (), (), ()), ())) := by
  cases c1 : decOk n1 l1 s1 with
  | false =>
    refine ⟨((false, [], 0, ()), 1, ()), by simp, Ev.step 2 (fun k => F23_eq k _ _ _ _ _ _) (Ev.bind (decs_ev n1 l1 s1 n2 l2 s2 h1 h2) ?_), Ev.step 2 (fun k => F22_eq k _ _ _ _ _ _) (Ev.bind (l2Ok_ev n1 l1 s1 h1) ?_)⟩
    · simp only [c1, Bool.false_and, Bool.not_false, if_true]
      exact Ev.now _
    · simp only [c1, Bool.not_false, if_true]
      exact Ev.now _
  | true =>
    cases c2 : decOk n2 l2 s2 with
    | false =>
      refine ⟨((false, [], 0, ()), 1, ()), by simp, Ev.step 2 (fun k => F23_eq k _ _ _ _ _ _) (Ev.bind (decs_ev n1 l1 s1 n2 l2 s2 h1 h2) ?_), Ev.step 2 (fun k => F22_eq k _ _ _ _ _ _) (Ev.bind (l2Ok_ev n1 l1 s1 h1) ?_)⟩
      · simp only [c1, c2, Bool.and_false, Bool.not_false, if_true]
        exact Ev.now _
      · simp only [c1, Bool.not_true, Bool.false_eq_true, if_false]
        refine Ev.bind (l2Ok_ev n2 l2 s2 h2) ?_
        simp only [c2, Bool.not_false, if_true]
        exact Ev.now _
    | true =>
      obtain ⟨b1, _, t1, rfl, ht1⟩ := decOk_of c1
      obtain ⟨b2, _, t2, rfl, ht2⟩ := decOk_of c2
      obtain ⟨a16, ra, ta, _⟩ := bOk_of b1
      obtain ⟨b16, rb, tb, hb0⟩ := bOk_of b2
      have em : (if (t2 : Int) > (t1 : Int) then (t2 : Int) else (t1 : Int)) = ((max t1 t2 : Nat) : Int) := by split <;> omega
      have e1 : max t1 t2 = t1 + (max t1 t2 - t1) := by omega
      have e2 : max t1 t2 = t2 + (max t1 t2 - t2) := by omega
      have k1 := at_len (num_lt ra a16) (show max t1 t2 - t1 ≤ 24 by omega)
      have k2 := at_len (num_lt rb b16) (show max t1 t2 - t2 ≤ 24 by omega)
      have k3 := sum_len (na := n1) (nb := !n2) (at_lt (num_lt ra a16) (show max t1 t2 - t1 ≤ 24 by omega)) (at_lt (num_lt rb b16) (show max t1 t2 - t2 ≤ 24 by omega))
      have a1 := at_ev (neg := n1) (s := t1) (m := max t1 t2 - t1) ra a16 (by omega)
      have a2 := at_ev (neg := n2) (s := t2) (m := max t1 t2 - t2) rb b16 (by omega)
      rw [← e1] at a1
      rw [← e2] at a2
      obtain ⟨nn, hnn⟩ : ∃ nn, nn = (!n2 && decide ((l2.length : Int) > 0)) := ⟨_, rfl⟩
      have hnot : Ev (fun k => F55 k n2 l2 (t2 : Int)) (((nn, l2, (t2 : Int), ()), ()), (((), (), (), ()), ())) := by
        refine Ev.step 2 (fun k => F55_eq k _ _ _) ?_
        rw [hnn]
        cases n2 with
        | true => exact Ev.now _
        | false => exact Ev.now _
      have hsum : sSum n1 (num l1 * 10 ^ (max t1 t2 - t1)) nn (num l2 * 10 ^ (max t1 t2 - t2)) = sSum n1 (num l1 * 10 ^ (max t1 t2 - t1)) (!n2) (num l2 * 10 ^ (max t1 t2 - t2)) := by
        by_cases h0 : l2 = []
        · have : num l2 = 0 := by rw [h0]; rfl
          rw [this, Nat.zero_mul, sSum_zero, sSum_zero]
        · have hp : decide ((l2.length : Int) > 0) = true := gt_true (List.length_pos_iff.2 h0)
          rw [hnn, hp, Bool.and_true]
      have hadd := l2Add_ev (n2 := nn) (l2 := l2) b1 rb b16 ht1 ht2
      rw [hsum] at hadd
      refine ⟨made (sSum n1 (num l1 * 10 ^ (max t1 t2 - t1)) (!n2) (num l2 * 10 ^ (max t1 t2 - t2))).1 (sSum n1 (num l1 * 10 ^ (max t1 t2 - t1)) (!n2) (num l2 * 10 ^ (max t1 t2 - t2))).2 ((max t1 t2 : Nat) : Int), made_len (Nat.le_trans k3 (by omega)), Ev.step 2 (fun k => F23_eq k _ _ _ _ _ _) (Ev.bind (decs_ev n1 l1 _ n2 l2 _ h1 h2) ?_), Ev.step 2 (fun k => F22_eq k _ _ _ _ _ _) (Ev.bind (l2Ok_ev n1 l1 _ h1) ?_)⟩
      · simp only [c1, c2, Bool.and_self, Bool.not_true, Bool.false_eq_true, if_false, em]
        exact Ev.bind a1 (Ev.bind a2 (Ev.bind (Ev.step 2 (fun k => F56_eq k _ _) (Ev.now _)) (Ev.bind (sAdd_ev (by omega) (by omega)) (Ev.bind (dec_ev (Nat.le_trans k3 (by omega))) (Ev.now _)))))
      · simp only [c1, Bool.not_true, Bool.false_eq_true, if_false]
        refine Ev.bind (l2Ok_ev n2 l2 _ h2) ?_
        simp only [c2, Bool.not_true, Bool.false_eq_true, if_false]
        exact Ev.bind hnot (Ev.bind hadd (Ev.now _))
end
end Go.Proofs.YtdmcibaoebmieaaDoor.R
/-! Rf: what is to be shown of a law, with no machine in sight. -/
namespace Go.Proofs.YtdmcibaoebmieaaDoor.R
open Go.Rf
def PureFnExactDecSub : Prop := ∀ (a0_0 : Bool) (a0_1 : List Int) (a0_2 : Int) (a1_0 : Bool) (a1_1 : List Int) (a1_2 : Int), wfT .bool a0_0 → wfT (.sl (.int .i64)) a0_1 → wfT (.int .i64) a0_2 → wfT .bool a1_0 → wfT (.sl (.int .i64)) a1_1 → wfT (.int .i64) a1_2 → ∃ k p, F6 k a0_0 a0_1 a0_2 a1_0 a1_1 a1_2 = some ((true, ()), p)
end Go.Proofs.YtdmcibaoebmieaaDoor.R
