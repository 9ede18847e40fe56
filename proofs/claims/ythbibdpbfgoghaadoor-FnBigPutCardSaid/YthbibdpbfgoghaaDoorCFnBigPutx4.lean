/- A part of the proof that the law FnBigPut answers true for every input: contracts of functions that it reaches, or its plain law. -/
import Derived.Lib.Atoi
import Derived.Test.YthbibdpbfgoghaaDoorProg
import Derived.KernelRfl
import Derived.RangeFuncNested
import Derived.RangeFuncBound
import Derived.RangeFuncCalls
import Derived.RangeFuncLeaves
import Derived.Shelf.Abstract
import Derived.Shelf.RegionOpen
import Derived.WalkKit
import Derived.OwnWalkIn
import Derived.TacticsInMore
import Derived.LoopNIn
import Derived.LoopIn
import Derived.Shelf.Strings.BuilderF
import Derived.Lib.FrozenHead2
import Derived.Lib.OthersKept
import Derived.Lib.ItoaNum
import Derived.Lib.Repeat
import Derived.Shelf.Strings.Builder1
import Derived.Shelf.Strings.Builder2
import Derived.Shelf.Small.Wraps
import Derived.Shelf.Strings.BuilderK
import Derived.Shelf.Strings.Builder2Cap
import Derived.Shelf.Strconv.Atoi
import Derived.Shelf.Strconv.Itoa0
import Derived.Shelf.Strconv.Itoa1
import Derived.Shelf.LaysM
import Derived.Shelf.Strconv.Itoa2
import Derived.Shelf.Strconv.Itoa3
import Derived.Shelf.Strconv.AtoiErrFast
import Derived.Shelf.Strconv.ParseIntEmpty
import Derived.Shelf.Strconv.AtoiFail
import Derived.Shelf.Strconv.Clone
import Derived.Shelf.Strconv.SyntaxError
import Derived.Shelf.LaysC
import Derived.Shelf.Strconv.ToError
import Derived.Shelf.Strconv.AtoiErr
import Derived.Shelf.Strconv.Lower
import Derived.Shelf.Strconv.ParseUint10
import Derived.Shelf.Strconv.ParseUint10Empty
import Derived.Shelf.Strconv.ParseUint10Any
import Derived.Shelf.Strconv.ParseInt10
import Derived.Shelf.Strconv.AtoiLong
import Derived.Shelf.Strconv.AtoiInnerAll
import Derived.Shelf.Strconv.RangeError
import Derived.Shelf.Strconv.ToErrorRange
import Derived.Shelf.Strconv.AtoiAll
import Derived.Shelf.Strconv.ParseUintEmpty
import Derived.Shelf.Strconv.ParseUint10b64
import Derived.Shelf.Strconv.ParseUint10b32
import Derived.Shelf.Strconv.ParseUint10b16
import Derived.Shelf.Strconv.ParseUint10b8
import Derived.Shelf.Strconv.ParseUint10At
import Derived.Shelf.Strconv.ParseInt10At64
import Derived.Shelf.Strconv.ParseInt10At32
import Derived.Shelf.Strconv.ParseInt10At16
import Derived.Shelf.Strconv.ParseInt10At8
import Derived.Shelf.Strings.Prefix
import Derived.Shelf.Bits.Mul64
import Derived.Shelf.Strings.Repeat
import Derived.Shelf.Strings.BuilderCap
import Derived.Ground.Names2Prog
import Derived.Shelf.Slices.Clone
import Derived.Ground.SlgnProg
import Derived.Shelf.SlicesE.Clone
import Derived.Lib.LaidTab
import Derived.Lib.AppendIntMem
import Derived.Test.YthbibdpbfgoghaaDoorRows
import Derived.ProofKit
import Derived.OpenShut
import Derived.ShutString
import Derived.ChangeOld
import Derived.Below
import Derived.SizedLaws
import Derived.Carry
import Derived.Test.YthbibdpbfgoghaaDoorCards
import Derived.Test.YthbibdpbfgoghaaDoorTie
import Derived.LaidMore
import Derived.Stop.Joined
import Derived.Stop.LaidErr
import Derived.SevenTiedAt
import Derived.Lib.Strings
import Derived.Lib.TrimByte
import Derived.Lib.Bytealg
import Derived.Test.YthbibdpbfgoghaaDoorCFnBigPutx0
import Derived.Test.YthbibdpbfgoghaaDoorCFnBigPutx1
import Derived.Test.YthbibdpbfgoghaaDoorCFnBigPutx2
import Derived.Test.YthbibdpbfgoghaaDoorCFnBigPutx3
namespace Go.Proofs.YthbibdpbfgoghaaDoor.Q
end Go.Proofs.YthbibdpbfgoghaaDoor.Q
namespace Go.Proofs.YthbibdpbfgoghaaDoor.R
end Go.Proofs.YthbibdpbfgoghaaDoor.R
namespace Go.Proofs.YthbibdpbfgoghaaDoorW.PrintLast
end Go.Proofs.YthbibdpbfgoghaaDoorW.PrintLast
namespace Go.Proofs.YthbibdpbfgoghaaDoorW.PrintMore
end Go.Proofs.YthbibdpbfgoghaaDoorW.PrintMore
namespace Go.Proofs.YthbibdpbfgoghaaDoorW.PrintWords
end Go.Proofs.YthbibdpbfgoghaaDoorW.PrintWords
section
/-! Rf: the seat's tables. -/
set_option autoImplicit false
namespace Go.Proofs.YthbibdpbfgoghaaDoor.R
open Go.Rf
noncomputable def tabs : Tabs where
  ty := [(3, ⟨false, [.int .i64], [], 8⟩),
    (4, ⟨false, [.bool], [], 1⟩),
    (5, ⟨false, [.int .u8], [], 1⟩),
    (9, ⟨false, [.str], [], 16⟩),
    (22, ⟨false, [.sl (.int .u8)], [], 24⟩),
    (23, ⟨false, [.sl (.int .i64)], [], 24⟩),
    (25, ⟨true, [.bool, .sl (.int .i64)], [(0, 1, false), (1, 1, false)], 32⟩),
    (37, ⟨false, [.sl (.int .i64)], [], 24⟩),
    (48, ⟨true, [.bool, .sl (.int .i64)], [(0, 1, false), (1, 1, false)], 32⟩),
    (57, ⟨true, [.sl (.int .u8), .int .i64], [(0, 1, false), (1, 1, false)], 32⟩),
    (67, ⟨false, [.err], [], 16⟩)]
  el := [(22, 5), (23, 3), (37, 3)]
  ifcs := []
  known := [3, 4, 5, 6, 7, 8, 9, 10, 11, 12, 13, 14, 15, 16, 17, 18, 19, 20, 21, 22, 23, 24, 25, 26, 27, 28, 29, 30, 31, 32, 38, 39, 40, 41, 42, 43, 44, 45, 46, 47, 48, 49, 50, 51, 59, 60, 61, 62, 63, 66, 67]
  spec := [(3, ⟨[.c (.v (.sl (.int .u8))), .c (.v (.sl (.int .u8)))], [.c (.v .bool)]⟩),
    (4, ⟨[.c (.v (.sl (.int .u8)))], [.agg [.v .bool, .v (.sl (.int .i64))]]⟩),
    (5, ⟨[.agg [.v .bool, .v (.sl (.int .i64))]], [.c (.v .str)]⟩),
    (6, ⟨[.agg [.v .bool, .v (.sl (.int .i64))]], [.c (.v .str)]⟩),
    (7, ⟨[.agg [.v .bool, .v (.sl (.int .i64))]], [.c (.v .bool)]⟩),
    (8, ⟨[.agg [.v .bool, .v (.sl (.int .i64))]], [.c (.v .bool)]⟩),
    (9, ⟨[.c (.v .str)], [.agg [.v .bool, .v (.sl (.int .i64))], .c (.v .bool)]⟩),
    (10, ⟨[.agg [.v .bool, .v (.sl (.int .i64))], .agg [.v .bool, .v (.sl (.int .i64))]], [.c (.v (.int .i64))]⟩),
    (11, ⟨[.agg [.v .bool, .v (.sl (.int .i64))], .agg [.v .bool, .v (.sl (.int .i64))]], [.c (.v .bool)]⟩),
    (12, ⟨[.box [.v (.sl (.int .u8)), .v (.int .i64)]], [.agg [.v .bool, .v (.sl (.int .i64))]]⟩),
    (13, ⟨[.c (.v (.sl (.int .u8)))], [.box [.v (.sl (.int .u8)), .v (.int .i64)]]⟩),
    (14, ⟨[.c (.v (.sl (.int .i64)))], [.c (.v .str)]⟩),
    (15, ⟨[.agg [.v .bool, .v (.sl (.int .i64))]], [.c (.v .bool)]⟩),
    (16, ⟨[.agg [.v .bool, .v (.sl (.int .i64))]], [.c (.v .str)]⟩),
    (18, ⟨[.c (.v (.int .i64))], [.c (.v .bool)]⟩),
    (19, ⟨[.c (.v (.int .i64)), .c (.v (.int .i64)), .c (.v (.int .i64))], [.c (.v .bool)]⟩),
    (20, ⟨[.c (.v .str), .c (.v .str)], [.c (.v .str), .c (.v .bool)]⟩),
    (21, ⟨[.c (.v .str)], [.c (.v .bool)]⟩),
    (22, ⟨[.c (.v .bool), .c (.v (.sl (.int .i64)))], [.agg [.v .bool, .v (.sl (.int .i64))], .c (.v .bool)]⟩),
    (23, ⟨[.c (.v .str)], [.c (.v (.sl (.int .i64)))]⟩),
    (24, ⟨[.agg [.v .bool, .v (.sl (.int .i64))], .agg [.v .bool, .v (.sl (.int .i64))]], [.c (.v .bool)]⟩),
    (25, ⟨[.agg [.v .bool, .v (.sl (.int .i64))]], [.agg [.v .bool, .v (.sl (.int .i64))]]⟩),
    (26, ⟨[.agg [.v .bool, .v (.sl (.int .i64))], .agg [.v .bool, .v (.sl (.int .i64))]], [.agg [.v .bool, .v (.sl (.int .i64))]]⟩),
    (27, ⟨[.agg [.v .bool, .v (.sl (.int .i64))]], [.agg [.v .bool, .v (.sl (.int .i64))]]⟩),
    (28, ⟨[.agg [.v .bool, .v (.sl (.int .i64))]], [.c (.v (.int .i64))]⟩),
    (29, ⟨[.c (.v (.sl (.int .i64))), .c (.v (.sl (.int .i64)))], [.c (.v .bool)]⟩),
    (30, ⟨[.box [.v (.sl (.int .u8)), .v (.int .i64)], .c (.v (.int .i64))], [.agg [.v .bool, .o (.int .i64) 3 true]]⟩),
    (31, ⟨[.box [.v (.sl (.int .u8)), .v (.int .i64)], .c (.v (.int .i64))], [.c (.v (.int .i64))]⟩),
    (32, ⟨[.box [.v (.sl (.int .u8)), .v (.int .i64)], .c (.o (.int .i64) 3 false)], [.c (.v (.int .i64))]⟩),
    (38, ⟨[.c (.v (.int .i64)), .c (.v (.int .i64)), .c (.v (.int .i64))], [.c (.v .bool)]⟩),
    (39, ⟨[.c (.v (.sl (.int .i64)))], [.c (.v .str)]⟩),
    (41, ⟨[.c (.v .str), .c (.v .str)], [.c (.v .str), .c (.v .bool)]⟩),
    (42, ⟨[.c (.v (.sl (.int .i64)))], [.c (.v (.sl (.int .i64)))]⟩),
    (43, ⟨[.c (.v (.sl (.int .i64)))], [.c (.v (.sl (.int .i64)))]⟩),
    (44, ⟨[.c (.v .str)], [.c (.v (.int .i64)), .c (.v .err)]⟩),
    (45, ⟨[.c (.v (.sl (.int .i64))), .c (.v (.sl (.int .i64)))], [.c (.v (.sl (.int .i64)))]⟩),
    (46, ⟨[.c (.v (.sl (.int .i64))), .c (.v (.sl (.int .i64)))], [.c (.v (.int .i64))]⟩),
    (47, ⟨[.c (.v (.sl (.int .i64))), .c (.v (.sl (.int .i64)))], [.c (.v (.sl (.int .i64)))]⟩),
    (48, ⟨[.box [.v (.sl (.int .u8)), .v (.int .i64)], .c (.v (.int .i64))], [.c (.v .str)]⟩),
    (49, ⟨[.c (.v .str), .c (.v (.int .i64))], [.c (.v .str)]⟩),
    (50, ⟨[.c (.v .bool), .c (.v (.sl (.int .i64)))], [.agg [.v .bool, .o (.int .i64) 3 true], .c (.v .bool)]⟩),
    (51, ⟨[.c (.v .str)], [.c (.v (.sl (.int .i64)))]⟩),
    (59, ⟨[.c (.v (.int .i64))], [.c (.v .str)]⟩),
    (60, ⟨[.c (.v (.int .i64)), .c (.v (.int .i64))], [.c (.v .str)]⟩),
    (61, ⟨[.c (.v .str), .c (.v .str)], [.c (.v .bool)]⟩),
    (62, ⟨[.c (.o (.int .i64) 3 false)], [.c (.v (.sl (.int .i64)))]⟩),
    (63, ⟨[.c (.v (.sl (.int .i64)))], [.c (.o (.int .i64) 3 true)]⟩),
    (66, ⟨[.c (.v (.sl (.int .i64)))], [.c (.o (.int .i64) 3 true)]⟩),
    (67, ⟨[.c (.v (.sl (.int .i64)))], [.c (.o (.int .i64) 3 true)]⟩),
    (19017, ⟨[.c (.v (.sl (.int .i64))), .clo 18 []], [.c (.v .bool)]⟩),
    (19040, ⟨[.c (.v (.sl (.int .i64))), .clo 18 []], [.c (.v (.int .i64))]⟩)]
  cut := [(12, [(10, [(0, .box [.v (.sl (.int .u8)), .v (.int .i64)]), (2, .box [.v .bool, .v (.sl (.int .i64))]), (3, .box [.v .bool, .o (.int .i64) 3 true])]), (12, [(0, .box [.v (.sl (.int .u8)), .v (.int .i64)]), (2, .box [.v .bool, .v (.sl (.int .i64))]), (3, .box [.v .bool, .o (.int .i64) 3 true])])]),
    (13, [(3, [(0, .c (.v (.sl (.int .u8))))])]),
    (15, [(4, [(1, .box [.v .bool, .v (.sl (.int .i64))]), (3, .c (.v (.int .i64)))])]),
    (21, [(2, [(0, .c (.v .str)), (5, .c (.v (.int .i64))), (6, .c (.v (.int .i64)))])]),
    (23, [(3, [(0, .c (.v .str)), (3, .c (.o (.int .i64) 3 true)), (4, .c (.v (.int .i64)))])]),
    (29, [(4, [(0, .c (.v (.sl (.int .i64)))), (1, .c (.v (.sl (.int .i64)))), (5, .c (.v (.int .i64)))])]),
    (30, [(4, [(0, .box [.v (.sl (.int .u8)), .v (.int .i64)]), (4, .box [.v .bool, .v (.sl (.int .i64))]), (5, .c (.v (.int .i64)))]), (7, [(0, .box [.v (.sl (.int .u8)), .v (.int .i64)]), (4, .box [.v .bool, .v (.sl (.int .i64))]), (5, .c (.v (.int .i64))), (6, .c (.v .str))]), (9, [(0, .box [.v (.sl (.int .u8)), .v (.int .i64)]), (4, .box [.v .bool, .v (.sl (.int .i64))]), (6, .c (.v .str))])]),
    (39, [(5, [(0, .c (.v (.sl (.int .i64)))), (3, .c (.v .str)), (4, .c (.v (.int .i64)))])]),
    (42, [(1, [(0, .c (.v (.sl (.int .i64))))])]),
    (45, [(4, [(5, .c (.o (.int .i64) 3 true)), (19, .c (.v (.sl (.int .i64)))), (20, .c (.v (.int .i64))), (21, .c (.v (.int .i64)))]), (9, [(5, .c (.o (.int .i64) 3 true)), (36, .c (.v (.int .i64))), (37, .c (.v (.int .i64)))])]),
    (46, [(4, [(0, .c (.v (.sl (.int .i64)))), (1, .c (.v (.sl (.int .i64)))), (5, .c (.v (.int .i64)))])]),
    (47, [(3, [(5, .c (.o (.int .i64) 3 true)), (11, .c (.v (.sl (.int .i64)))), (12, .c (.v (.int .i64))), (13, .c (.v (.int .i64)))]), (8, [(5, .c (.o (.int .i64) 3 true)), (27, .c (.v (.int .i64))), (28, .c (.v (.int .i64)))]), (13, [(5, .c (.o (.int .i64) 3 true)), (27, .c (.v (.int .i64))), (28, .c (.v (.int .i64)))])]),
    (48, [(4, [(0, .box [.v (.sl (.int .u8)), .v (.int .i64)]), (1, .c (.v (.int .i64))), (5, .c (.v .str))])]),
    (49, [(2, [(0, .c (.v .str)), (1, .c (.v (.int .i64))), (5, .c (.v .str))])]),
    (51, [(2, [(0, .c (.v .str)), (3, .c (.o (.int .i64) 3 true))]), (6, [(0, .c (.v .str)), (3, .c (.o (.int .i64) 3 true)), (4, .c (.v (.int .i64)))]), (8, [(0, .c (.v .str)), (3, .c (.o (.int .i64) 3 true)), (4, .c (.v (.int .i64))), (5, .c (.v (.int .i64))), (6, .c (.v (.int .i64)))])]),
    (60, [(2, [(1, .c (.v (.int .i64))), (5, .c (.v .str))])]),
    (67, [(2, [(0, .c (.v (.sl (.int .i64)))), (3, .c (.v (.int .i64)))])]),
    (19040, [(2, [(0, .c (.v (.sl (.int .i64)))), (1, .clo 18 []), (7, .c (.v (.int .i64))), (8, .c (.v (.int .i64)))])])]
  eqs := []
theorem tabs_ok : tabs.ok Tryd.prog = true := by kernel_rfl
noncomputable def atoiR (x : ByteArray × Unit) : Option ((Int × Bool × Unit) × (Unit × Unit)) := match Lib.atoi x.1.data.toList with
  | some n => bif Nat.ble x.1.size 18 then some ((n, true, ()), ((), ())) else none
  | none => none
noncomputable def extR : (f : Nat) → Option ((specOf tabs.spec f).In → Option (specOf tabs.spec f).Out) := fun f => match f with
  | 14 => some textR
  | 44 => some atoiR
  | _ => none
/-- the variable that holds strconv's powers of ten, and its cells -/
def powG : Nat := 2
def powCells : Array Value := (Lib.pow10Tab.map fun z => Value.int .u64 z).toArray
def objsR : Nat → Option (Array Value → Prop) := fun g => if g = powG then some (fun cs => cs = powCells) else none
noncomputable def cx : Go.Rf.Cx := tabs.cx Tryd.prog extR (fun _ => none) objsR
theorem good : Go.Rf.Good cx := Go.Rf.Tabs.good tabs_ok
end Go.Proofs.YthbibdpbfgoghaaDoor.R
end

section
/-! Rf: the functions, and what each answers. -/
set_option autoImplicit false
set_option linter.unusedVariables false
namespace Go.Proofs.YthbibdpbfgoghaaDoor.R
open Go.Rf
/-! loop.example/jetton/laws.FnBigPut -/
noncomputable def F3 (k : Nat) (a0 : List Int) (a1 : List Int) : Option ((Bool × Unit) × (Unit × Unit × Unit)) := callF cx k 3 (a0, a1, ())
/-! loop.example/jetton/spec.DrawBigPut -/
noncomputable def F4 (k : Nat) (a0 : List Int) : Option (((Bool × (List Int) × Unit) × Unit) × (Unit × Unit)) := callF cx k 4 (a0, ())
/-! loop.example/jetton/impl.BigPut -/
noncomputable def F5 (k : Nat) (a0_0 : Bool) (a0_1 : List Int) : Option ((ByteArray × Unit) × ((Unit × Unit × Unit) × Unit)) := callF cx k 5 ((a0_0, a0_1, ()), ())
/-! loop.example/jetton/spec.BigPut -/
noncomputable def F6 (k : Nat) (a0_0 : Bool) (a0_1 : List Int) : Option ((ByteArray × Unit) × ((Unit × Unit × Unit) × Unit)) := callF cx k 6 ((a0_0, a0_1, ()), ())
/-! loop.example/jetton/impl.BigOk -/
noncomputable def F7 (k : Nat) (a0_0 : Bool) (a0_1 : List Int) : Option ((Bool × Unit) × ((Unit × Unit × Unit) × Unit)) := callF cx k 7 ((a0_0, a0_1, ()), ())
/-! loop.example/jetton/spec.BigOk -/
noncomputable def F8 (k : Nat) (a0_0 : Bool) (a0_1 : List Int) : Option ((Bool × Unit) × ((Unit × Unit × Unit) × Unit)) := callF cx k 8 ((a0_0, a0_1, ()), ())
/-! loop.example/jetton/impl.BigGet -/
noncomputable def F9 (k : Nat) (a0 : ByteArray) : Option (((Bool × (List Int) × Unit) × Bool × Unit) × (Unit × Unit)) := callF cx k 9 (a0, ())
/-! loop.example/jetton/impl.BigCmp -/
noncomputable def F10 (k : Nat) (a0_0 : Bool) (a0_1 : List Int) (a1_0 : Bool) (a1_1 : List Int) : Option ((Int × Unit) × ((Unit × Unit × Unit) × (Unit × Unit × Unit) × Unit)) := callF cx k 10 ((a0_0, a0_1, ()), (a1_0, a1_1, ()), ())
/-! loop.example/jetton/laws.jtBig -/
noncomputable def F11 (k : Nat) (a0_0 : Bool) (a0_1 : List Int) (a1_0 : Bool) (a1_1 : List Int) : Option ((Bool × Unit) × ((Unit × Unit × Unit) × (Unit × Unit × Unit) × Unit)) := callF cx k 11 ((a0_0, a0_1, ()), (a1_0, a1_1, ()), ())
/-! loop.example/jetton/spec.l14AnyBig -/
noncomputable def F12 (k : Nat) (a0_0 : List Int) (a0_1 : Int) : Option (((Bool × (List Int) × Unit) × Unit) × (((List Int) × Int × Unit) × Unit)) := callF cx k 12 ((a0_0, a0_1, ()), ())
noncomputable def F12c12 (k : Nat) (x0_0 : List Int) (x0_1 : Int) (x2_0 : Bool) (x2_1 : List Int) (x3_0 : Bool) (x3_1 : List Int) : Option (((Bool × (List Int) × Unit) × Unit) × (((List Int) × Int × Unit) × Unit)) := cutF cx 12 12 Tryd.f12 k ((x0_0, x0_1, ()), (x2_0, x2_1, ()), (x3_0, x3_1, ()), ())
noncomputable def F12c10 (k : Nat) (x0_0 : List Int) (x0_1 : Int) (x2_0 : Bool) (x2_1 : List Int) (x3_0 : Bool) (x3_1 : List Int) : Option (((Bool × (List Int) × Unit) × Unit) × (((List Int) × Int × Unit) × Unit)) := cutF cx 12 10 Tryd.f12 k ((x0_0, x0_1, ()), (x2_0, x2_1, ()), (x3_0, x3_1, ()), ())
/-! loop.example/jetton/spec.l1Open -/
noncomputable def F13 (k : Nat) (a0 : List Int) : Option ((((List Int) × Int × Unit) × Unit) × (Unit × Unit)) := callF cx k 13 (a0, ())
noncomputable def F13c3 (k : Nat) (x0 : List Int) : Option ((((List Int) × Int × Unit) × Unit) × (Unit × Unit)) := cutF cx 13 3 Tryd.f13 k (x0, ())
/-! (loop.example/jetton/impl.limbs).text -/
noncomputable def F14 (k : Nat) (a0 : List Int) : Option ((ByteArray × Unit) × (Unit × Unit)) := callF cx k 14 (a0, ())
/-! loop.example/jetton/spec.l1Ok -/
noncomputable def F15 (k : Nat) (a0_0 : Bool) (a0_1 : List Int) : Option ((Bool × Unit) × ((Unit × Unit × Unit) × Unit)) := callF cx k 15 ((a0_0, a0_1, ()), ())
noncomputable def F15c4 (k : Nat) (x1_0 : Bool) (x1_1 : List Int) (x3 : Int) : Option ((Bool × Unit) × ((Unit × Unit × Unit) × Unit)) := cutF cx 15 4 Tryd.f15 k ((x1_0, x1_1, ()), x3, ())
/-! loop.example/jetton/spec.l1Put -/
noncomputable def F16 (k : Nat) (a0_0 : Bool) (a0_1 : List Int) : Option ((ByteArray × Unit) × ((Unit × Unit × Unit) × Unit)) := callF cx k 16 ((a0_0, a0_1, ()), ())
/-! loop.example/jetton/impl.BigOk$1 -/
noncomputable def F18 (k : Nat) (a0 : Int) : Option ((Bool × Unit) × (Unit × Unit)) := callF cx k 18 (a0, ())
/-! loop.example/jetton/impl.in -/
noncomputable def F19 (k : Nat) (a0 : Int) (a1 : Int) (a2 : Int) : Option ((Bool × Unit) × (Unit × Unit × Unit × Unit)) := callF cx k 19 (a0, a1, a2, ())
/-! strings.CutPrefix -/
noncomputable def F20 (k : Nat) (a0 : ByteArray) (a1 : ByteArray) : Option ((ByteArray × Bool × Unit) × (Unit × Unit × Unit)) := callF cx k 20 (a0, a1, ())
/-! loop.example/jetton/impl.isDigits -/
noncomputable def F21 (k : Nat) (a0 : ByteArray) : Option ((Bool × Unit) × (Unit × Unit)) := callF cx k 21 (a0, ())
noncomputable def F21c2 (k : Nat) (x0 : ByteArray) (x5 : Int) (x6 : Int) : Option ((Bool × Unit) × (Unit × Unit)) := cutF cx 21 2 Tryd.f21 k (x0, x5, x6, ())
/-! loop.example/jetton/impl.big -/
noncomputable def F22 (k : Nat) (a0 : Bool) (a1 : List Int) : Option (((Bool × (List Int) × Unit) × Bool × Unit) × (Unit × Unit × Unit)) := callF cx k 22 (a0, a1, ())
/-! loop.example/jetton/impl.readLimbs -/
noncomputable def F23 (k : Nat) (a0 : ByteArray) : Option (((List Int) × Unit) × (Unit × Unit)) := callF cx k 23 (a0, ())
noncomputable def F23c3 (k : Nat) (x0 : ByteArray) (x3 : List Int) (x4 : Int) : Option (((List Int) × Unit) × (Unit × Unit)) := cutF cx 23 3 Tryd.f23 k (x0, x3, x4, ())
/-! loop.example/jetton/impl.bigs -/
noncomputable def F24 (k : Nat) (a0_0 : Bool) (a0_1 : List Int) (a1_0 : Bool) (a1_1 : List Int) : Option ((Bool × Unit) × ((Unit × Unit × Unit) × (Unit × Unit × Unit) × Unit)) := callF cx k 24 ((a0_0, a0_1, ()), (a1_0, a1_1, ()), ())
/-! (loop.example/jetton/impl.Big).signed -/
noncomputable def F25 (k : Nat) (a0_0 : Bool) (a0_1 : List Int) : Option (((Bool × (List Int) × Unit) × Unit) × ((Unit × Unit × Unit) × Unit)) := callF cx k 25 ((a0_0, a0_1, ()), ())
/-! (loop.example/jetton/impl.signed).add -/
noncomputable def F26 (k : Nat) (a0_0 : Bool) (a0_1 : List Int) (a1_0 : Bool) (a1_1 : List Int) : Option (((Bool × (List Int) × Unit) × Unit) × ((Unit × Unit × Unit) × (Unit × Unit × Unit) × Unit)) := callF cx k 26 ((a0_0, a0_1, ()), (a1_0, a1_1, ()), ())
/-! (loop.example/jetton/impl.signed).minus -/
noncomputable def F27 (k : Nat) (a0_0 : Bool) (a0_1 : List Int) : Option (((Bool × (List Int) × Unit) × Unit) × ((Unit × Unit × Unit) × Unit)) := callF cx k 27 ((a0_0, a0_1, ()), ())
/-! (loop.example/jetton/impl.signed).sign -/
noncomputable def F28 (k : Nat) (a0_0 : Bool) (a0_1 : List Int) : Option ((Int × Unit) × ((Unit × Unit × Unit) × Unit)) := callF cx k 28 ((a0_0, a0_1, ()), ())
/-! loop.example/jetton/laws.jtInts -/
noncomputable def F29 (k : Nat) (a0 : List Int) (a1 : List Int) : Option ((Bool × Unit) × (Unit × Unit × Unit)) := callF cx k 29 (a0, a1, ())
noncomputable def F29c4 (k : Nat) (x0 : List Int) (x1 : List Int) (x5 : Int) : Option ((Bool × Unit) × (Unit × Unit × Unit)) := cutF cx 29 4 Tryd.f29 k (x0, x1, x5, ())
/-! loop.example/jetton/spec.l14Big -/
noncomputable def F30 (k : Nat) (a0_0 : List Int) (a0_1 : Int) (a1 : Int) : Option (((Bool × (List Int) × Unit) × Unit) × (((List Int) × Int × Unit) × Unit × Unit)) := callF cx k 30 ((a0_0, a0_1, ()), a1, ())
noncomputable def F30c4 (k : Nat) (x0_0 : List Int) (x0_1 : Int) (x4_0 : Bool) (x4_1 : List Int) (x5 : Int) : Option (((Bool × (List Int) × Unit) × Unit) × (((List Int) × Int × Unit) × Unit × Unit)) := cutF cx 30 4 Tryd.f30 k ((x0_0, x0_1, ()), (x4_0, x4_1, ()), x5, ())
noncomputable def F30c7 (k : Nat) (x0_0 : List Int) (x0_1 : Int) (x4_0 : Bool) (x4_1 : List Int) (x5 : Int) (x6 : ByteArray) : Option (((Bool × (List Int) × Unit) × Unit) × (((List Int) × Int × Unit) × Unit × Unit)) := cutF cx 30 7 Tryd.f30 k ((x0_0, x0_1, ()), (x4_0, x4_1, ()), x5, x6, ())
noncomputable def F30c9 (k : Nat) (x0_0 : List Int) (x0_1 : Int) (x4_0 : Bool) (x4_1 : List Int) (x6 : ByteArray) : Option (((Bool × (List Int) × Unit) × Unit) × (((List Int) × Int × Unit) × Unit × Unit)) := cutF cx 30 9 Tryd.f30 k ((x0_0, x0_1, ()), (x4_0, x4_1, ()), x6, ())
/-! (*loop.example/jetton/spec.l1Rd).pick -/
noncomputable def F31 (k : Nat) (a0_0 : List Int) (a0_1 : Int) (a1 : Int) : Option ((Int × Unit) × (((List Int) × Int × Unit) × Unit × Unit)) := callF cx k 31 ((a0_0, a0_1, ()), a1, ())
/-! (*loop.example/jetton/spec.l1Rd).one -/
noncomputable def F32 (k : Nat) (a0_0 : List Int) (a0_1 : Int) (a1 : List Int) : Option ((Int × Unit) × (((List Int) × Int × Unit) × Unit × Unit)) := callF cx k 32 ((a0_0, a0_1, ()), a1, ())
/-! loop.example/jetton/spec.l1In -/
noncomputable def F38 (k : Nat) (a0 : Int) (a1 : Int) (a2 : Int) : Option ((Bool × Unit) × (Unit × Unit × Unit × Unit)) := callF cx k 38 (a0, a1, a2, ())
/-! loop.example/jetton/spec.l1Figures -/
noncomputable def F39 (k : Nat) (a0 : List Int) : Option ((ByteArray × Unit) × (Unit × Unit)) := callF cx k 39 (a0, ())
noncomputable def F39c5 (k : Nat) (x0 : List Int) (x3 : ByteArray) (x4 : Int) : Option ((ByteArray × Unit) × (Unit × Unit)) := cutF cx 39 5 Tryd.f39 k (x0, x3, x4, ())
/-! internal/stringslite.CutPrefix -/
noncomputable def F41 (k : Nat) (a0 : ByteArray) (a1 : ByteArray) : Option ((ByteArray × Bool × Unit) × (Unit × Unit × Unit)) := callF cx k 41 (a0, a1, ())
/-! (loop.example/jetton/impl.limbs).trim -/
noncomputable def F42 (k : Nat) (a0 : List Int) : Option (((List Int) × Unit) × (Unit × Unit)) := callF cx k 42 (a0, ())
noncomputable def F42c1 (k : Nat) (x0 : List Int) : Option (((List Int) × Unit) × (Unit × Unit)) := cutF cx 42 1 Tryd.f42 k (x0, ())
/-! loop.example/jetton/impl.clone[int] -/
noncomputable def F43 (k : Nat) (a0 : List Int) : Option (((List Int) × Unit) × (Unit × Unit)) := callF cx k 43 (a0, ())
/-! strconv.Atoi -/
noncomputable def F44 (k : Nat) (a0 : ByteArray) : Option ((Int × Bool × Unit) × (Unit × Unit)) := callF cx k 44 (a0, ())
/-! (loop.example/jetton/impl.limbs).add -/
noncomputable def F45 (k : Nat) (a0 : List Int) (a1 : List Int) : Option (((List Int) × Unit) × (Unit × Unit × Unit)) := callF cx k 45 (a0, a1, ())
noncomputable def F45c4 (k : Nat) (x5 : List Int) (x19 : List Int) (x20 : Int) (x21 : Int) : Option (((List Int) × Unit) × (Unit × Unit × Unit)) := cutF cx 45 4 Tryd.f45 k (x5, x19, x20, x21, ())
noncomputable def F45c9 (k : Nat) (x5 : List Int) (x36 : Int) (x37 : Int) : Option (((List Int) × Unit) × (Unit × Unit × Unit)) := cutF cx 45 9 Tryd.f45 k (x5, x36, x37, ())
/-! (loop.example/jetton/impl.limbs).cmp -/
noncomputable def F46 (k : Nat) (a0 : List Int) (a1 : List Int) : Option ((Int × Unit) × (Unit × Unit × Unit)) := callF cx k 46 (a0, a1, ())
noncomputable def F46c4 (k : Nat) (x0 : List Int) (x1 : List Int) (x5 : Int) : Option ((Int × Unit) × (Unit × Unit × Unit)) := cutF cx 46 4 Tryd.f46 k (x0, x1, x5, ())
/-! (loop.example/jetton/impl.limbs).sub -/
noncomputable def F47 (k : Nat) (a0 : List Int) (a1 : List Int) : Option (((List Int) × Unit) × (Unit × Unit × Unit)) := callF cx k 47 (a0, a1, ())
noncomputable def F47c3 (k : Nat) (x5 : List Int) (x11 : List Int) (x12 : Int) (x13 : Int) : Option (((List Int) × Unit) × (Unit × Unit × Unit)) := cutF cx 47 3 Tryd.f47 k (x5, x11, x12, x13, ())
noncomputable def F47c8 (k : Nat) (x5 : List Int) (x27 : Int) (x28 : Int) : Option (((List Int) × Unit) × (Unit × Unit × Unit)) := cutF cx 47 8 Tryd.f47 k (x5, x27, x28, ())
noncomputable def F47c13 (k : Nat) (x5 : List Int) (x27 : Int) (x28 : Int) : Option (((List Int) × Unit) × (Unit × Unit × Unit)) := cutF cx 47 13 Tryd.f47 k (x5, x27, x28, ())
/-! loop.example/jetton/spec.l14Figs -/
noncomputable def F48 (k : Nat) (a0_0 : List Int) (a0_1 : Int) (a1 : Int) : Option ((ByteArray × Unit) × (((List Int) × Int × Unit) × Unit × Unit)) := callF cx k 48 ((a0_0, a0_1, ()), a1, ())
noncomputable def F48c4 (k : Nat) (x0_0 : List Int) (x0_1 : Int) (x1 : Int) (x5 : ByteArray) : Option ((ByteArray × Unit) × (((List Int) × Int × Unit) × Unit × Unit)) := cutF cx 48 4 Tryd.f48 k ((x0_0, x0_1, ()), x1, x5, ())
/-! loop.example/jetton/spec.l1Many -/
noncomputable def F49 (k : Nat) (a0 : ByteArray) (a1 : Int) : Option ((ByteArray × Unit) × (Unit × Unit × Unit)) := callF cx k 49 (a0, a1, ())
noncomputable def F49c2 (k : Nat) (x0 : ByteArray) (x1 : Int) (x5 : ByteArray) : Option ((ByteArray × Unit) × (Unit × Unit × Unit)) := cutF cx 49 2 Tryd.f49 k (x0, x1, x5, ())
/-! loop.example/jetton/spec.l1Big -/
noncomputable def F50 (k : Nat) (a0 : Bool) (a1 : List Int) : Option (((Bool × (List Int) × Unit) × Bool × Unit) × (Unit × Unit × Unit)) := callF cx k 50 (a0, a1, ())
/-! loop.example/jetton/spec.l1FromFigures -/
noncomputable def F51 (k : Nat) (a0 : ByteArray) : Option (((List Int) × Unit) × (Unit × Unit)) := callF cx k 51 (a0, ())
noncomputable def F51c2 (k : Nat) (x0 : ByteArray) (x3 : List Int) : Option (((List Int) × Unit) × (Unit × Unit)) := cutF cx 51 2 Tryd.f51 k (x0, x3, ())
noncomputable def F51c6 (k : Nat) (x0 : ByteArray) (x3 : List Int) (x4 : Int) : Option (((List Int) × Unit) × (Unit × Unit)) := cutF cx 51 6 Tryd.f51 k (x0, x3, x4, ())
noncomputable def F51c8 (k : Nat) (x0 : ByteArray) (x3 : List Int) (x4 : Int) (x5 : Int) (x6 : Int) : Option (((List Int) × Unit) × (Unit × Unit)) := cutF cx 51 8 Tryd.f51 k (x0, x3, x4, x5, x6, ())
/-! loop.example/jetton/spec.l1Dec -/
noncomputable def F59 (k : Nat) (a0 : Int) : Option ((ByteArray × Unit) × (Unit × Unit)) := callF cx k 59 (a0, ())
/-! loop.example/jetton/spec.l1Wide -/
noncomputable def F60 (k : Nat) (a0 : Int) (a1 : Int) : Option ((ByteArray × Unit) × (Unit × Unit × Unit)) := callF cx k 60 (a0, a1, ())
noncomputable def F60c2 (k : Nat) (x1 : Int) (x5 : ByteArray) : Option ((ByteArray × Unit) × (Unit × Unit × Unit)) := cutF cx 60 2 Tryd.f60 k (x1, x5, ())
/-! internal/stringslite.HasPrefix -/
noncomputable def F61 (k : Nat) (a0 : ByteArray) (a1 : ByteArray) : Option ((Bool × Unit) × (Unit × Unit × Unit)) := callF cx k 61 (a0, a1, ())
/-! slices.Clip[[]int,int] -/
noncomputable def F62 (k : Nat) (a0 : List Int) : Option (((List Int) × Unit) × (Unit × Unit)) := callF cx k 62 (a0, ())
/-! slices.Clone[[]int,int] -/
noncomputable def F63 (k : Nat) (a0 : List Int) : Option (((List Int) × Unit) × (Unit × Unit)) := callF cx k 63 (a0, ())
/-! slices.Clone[loop.example/jetton/impl.limbs,int] -/
noncomputable def F66 (k : Nat) (a0 : List Int) : Option (((List Int) × Unit) × (Unit × Unit)) := callF cx k 66 (a0, ())
/-! loop.example/jetton/spec.l1Trim -/
noncomputable def F67 (k : Nat) (a0 : List Int) : Option (((List Int) × Unit) × (Unit × Unit)) := callF cx k 67 (a0, ())
noncomputable def F67c2 (k : Nat) (x0 : List Int) (x3 : Int) : Option (((List Int) × Unit) × (Unit × Unit)) := cutF cx 67 2 Tryd.f67 k (x0, x3, ())
/-! slices.ContainsFunc[[]int,int] -/
noncomputable def F19017 (k : Nat) (a0 : List Int) : Option ((Bool × Unit) × (Unit × Unit × Unit)) := callF cx k 19017 (a0, (()), ())
/-! slices.IndexFunc[[]int,int] -/
noncomputable def F19040 (k : Nat) (a0 : List Int) : Option ((Int × Unit) × (Unit × Unit × Unit)) := callF cx k 19040 (a0, (()), ())
noncomputable def F19040c2 (k : Nat) (x0 : List Int) (x7 : Int) (x8 : Int) : Option ((Int × Unit) × (Unit × Unit × Unit)) := cutF cx 19040 2 Tryd.f40 k (x0, (()), x7, x8, ())
theorem F3_eq (k : Nat) (a0 : List Int) (a1 : List Int) : F3 (k + 2) a0 a1 =
    if (decide ((a0.length : Int) > (1048576 : Int))) = true then some ((true, ()), ((), (), ())) else if (decide ((a1.length : Int) > (1048576 : Int))) = true then some ((true, ()), ((), (), ())) else (F4 k a0).bind fun r1 => (F4 k a1).bind fun r2 => (F5 k r1.1.1.1 r1.1.1.2.1).bind fun r3 => (F6 k r1.1.1.1 r1.1.1.2.1).bind fun r4 => if (!(r3.1.1.toList == r4.1.1.toList)) = true then (F6 k r1.1.1.1 r1.1.1.2.1).bind fun r5 => if (r3.1.1.toList == r5.1.1.toList) = true then (F7 k r1.1.1.1 r1.1.1.2.1).bind fun r6 => (F8 k r1.1.1.1 r1.1.1.2.1).bind fun r7 => some (((r6.1.1 == r7.1.1), ()), ((), (), ())) else some ((false, ()), ((), (), ())) else if (r3.1.1.toList == (⟨#[]⟩ : ByteArray).toList) = true then (F6 k r1.1.1.1 r1.1.1.2.1).bind fun r8 => if (r3.1.1.toList == r8.1.1.toList) = true then (F7 k r1.1.1.1 r1.1.1.2.1).bind fun r9 => (F8 k r1.1.1.1 r1.1.1.2.1).bind fun r10 => some (((r9.1.1 == r10.1.1), ()), ((), (), ())) else some ((false, ()), ((), (), ())) else (F9 k r3.1.1).bind fun r11 => (F5 k false r1.1.1.2.1).bind fun r12 => (F5 k false r2.1.1.2.1).bind fun r13 => if (!(r13.1.1.toList == (⟨#[]⟩ : ByteArray).toList)) = true then if (decide ((r12.1.1.size : Int) > (r13.1.1.size : Int))) = true then (F10 k false r1.1.1.2.1 false r2.1.1.2.1).bind fun r14 => if (r14.1.1 != (1 : Int)) = true then some ((false, ()), ((), (), ())) else if r11.1.2.1 = true then (F11 k r11.1.1.1 r11.1.1.2.1 r1.1.1.1 r1.1.1.2.1).bind fun r15 => if r15.1.1 = true then (F7 k r1.1.1.1 r1.1.1.2.1).bind fun r16 => some ((r16.1.1, ()), ((), (), ())) else some ((false, ()), ((), (), ())) else some ((false, ()), ((), (), ())) else if r11.1.2.1 = true then (F11 k r11.1.1.1 r11.1.1.2.1 r1.1.1.1 r1.1.1.2.1).bind fun r17 => if r17.1.1 = true then (F7 k r1.1.1.1 r1.1.1.2.1).bind fun r18 => some ((r18.1.1, ()), ((), (), ())) else some ((false, ()), ((), (), ())) else some ((false, ()), ((), (), ())) else if r11.1.2.1 = true then (F11 k r11.1.1.1 r11.1.1.2.1 r1.1.1.1 r1.1.1.2.1).bind fun r19 => if r19.1.1 = true then (F7 k r1.1.1.1 r1.1.1.2.1).bind fun r20 => some ((r20.1.1, ()), ((), (), ())) else some ((false, ()), ((), (), ())) else some ((false, ()), ((), (), ())) := by kernel_rfl
theorem F4_eq (k : Nat) (a0 : List Int) : F4 (k + 2) a0 =
    (F13 k a0).bind fun r1 => (F12 k r1.1.1.1 r1.1.1.2.1).bind fun r2 => some (((r2.1.1.1, r2.1.1.2.1, ()), ()), ((), ())) := by kernel_rfl
theorem F5_eq (k : Nat) (a0_0 : Bool) (a0_1 : List Int) : F5 (k + 2) a0_0 a0_1 =
    (F7 k a0_0 a0_1).bind fun r1 => if (!r1.1.1) = true then some (((⟨#[]⟩ : ByteArray), ()), (((), (), ()), ())) else if a0_0 = true then (F14 k a0_1).bind fun r2 => if (Nat.ble ((⟨#[45]⟩ : ByteArray).size + r2.1.1.size) 9223372036854775807) = true then some ((((⟨#[45]⟩ : ByteArray) ++ r2.1.1), ()), (((), (), ()), ())) else none else (F14 k a0_1).bind fun r3 => some ((r3.1.1, ()), (((), (), ()), ())) := by kernel_rfl
theorem F6_eq (k : Nat) (a0_0 : Bool) (a0_1 : List Int) : F6 (k + 2) a0_0 a0_1 =
    (F15 k a0_0 a0_1).bind fun r1 => if (!r1.1.1) = true then some (((⟨#[]⟩ : ByteArray), ()), (((), (), ()), ())) else (F16 k a0_0 a0_1).bind fun r2 => some ((r2.1.1, ()), (((), (), ()), ())) := by kernel_rfl
theorem F7_eq (k : Nat) (a0_0 : Bool) (a0_1 : List Int) : F7 (k + 2) a0_0 a0_1 =
    if (decide ((a0_1.length : Int) ≤ (16 : Int))) = true then if ((a0_1.length : Int) == (0 : Int)) = true then if (!a0_0) = true then (F19017 k a0_1).bind fun r1 => some (((!r1.1.1), ()), (((), (), ()), ())) else if (decide ((a0_1.length : Int) > (0 : Int))) = true then if (decide (0 ≤ (IntKind.i64.wrap ((a0_1.length : Int) - (1 : Int))))) = true then (a0_1[(IntKind.i64.wrap ((a0_1.length : Int) - (1 : Int))).toNat]?).bind fun y2 => if (y2 != (0 : Int)) = true then (F19017 k a0_1).bind fun r3 => some (((!r3.1.1), ()), (((), (), ()), ())) else some ((false, ()), (((), (), ()), ())) else none else some ((false, ()), (((), (), ()), ())) else if (decide ((a0_1.length : Int) > (0 : Int))) = true then if (decide (0 ≤ (IntKind.i64.wrap ((a0_1.length : Int) - (1 : Int))))) = true then (a0_1[(IntKind.i64.wrap ((a0_1.length : Int) - (1 : Int))).toNat]?).bind fun y4 => if (y4 != (0 : Int)) = true then (F19017 k a0_1).bind fun r5 => some (((!r5.1.1), ()), (((), (), ()), ())) else some ((false, ()), (((), (), ()), ())) else none else some ((false, ()), (((), (), ()), ())) else some ((false, ()), (((), (), ()), ())) := by kernel_rfl
theorem F8_eq (k : Nat) (a0_0 : Bool) (a0_1 : List Int) : F8 (k + 2) a0_0 a0_1 =
    (F15 k a0_0 a0_1).bind fun r1 => some ((r1.1.1, ()), (((), (), ()), ())) := by kernel_rfl
theorem F9_eq (k : Nat) (a0 : ByteArray) : F9 (k + 2) a0 =
    (F20 k a0 (⟨#[45]⟩ : ByteArray)).bind fun r1 => (F21 k r1.1.1).bind fun r2 => if (!r2.1.1) = true then some (((false, ([] : List Int), ()), false, ()), ((), ())) else if (decide ((r1.1.1.size : Int) > (64 : Int))) = true then some (((false, ([] : List Int), ()), false, ()), ((), ())) else (F23 k r1.1.1).bind fun r3 => (F22 k r1.1.2.1 r3.1.1).bind fun r4 => if (!r4.1.2.1) = true then some (((false, ([] : List Int), ()), false, ()), ((), ())) else (F5 k r4.1.1.1 r4.1.1.2.1).bind fun r5 => if (!(r5.1.1.toList == a0.toList)) = true then some (((false, ([] : List Int), ()), false, ()), ((), ())) else some (((r4.1.1.1, r4.1.1.2.1, ()), true, ()), ((), ())) := by kernel_rfl
theorem F10_eq (k : Nat) (a0_0 : Bool) (a0_1 : List Int) (a1_0 : Bool) (a1_1 : List Int) : F10 (k + 2) a0_0 a0_1 a1_0 a1_1 =
    (F24 k a0_0 a0_1 a1_0 a1_1).bind fun r1 => if (!r1.1.1) = true then some (((2 : Int), ()), (((), (), ()), ((), (), ()), ())) else (F25 k a0_0 a0_1).bind fun r2 => (F25 k a1_0 a1_1).bind fun r3 => (F27 k r3.1.1.1 r3.1.1.2.1).bind fun r4 => (F26 k r2.1.1.1 r2.1.1.2.1 r4.1.1.1 r4.1.1.2.1).bind fun r5 => (F28 k r5.1.1.1 r5.1.1.2.1).bind fun r6 => some ((r6.1.1, ()), (((), (), ()), ((), (), ()), ())) := by kernel_rfl
theorem F11_eq (k : Nat) (a0_0 : Bool) (a0_1 : List Int) (a1_0 : Bool) (a1_1 : List Int) : F11 (k + 2) a0_0 a0_1 a1_0 a1_1 =
    if (a0_0 == a1_0) = true then (F29 k a0_1 a1_1).bind fun r1 => some ((r1.1.1, ()), (((), (), ()), ((), (), ()), ())) else some ((false, ()), (((), (), ()), ((), (), ()), ())) := by kernel_rfl
theorem F12_eq (k : Nat) (a0_0 : List Int) (a0_1 : Int) : F12 (k + 2) a0_0 a0_1 =
    (F30 k a0_0 a0_1 (64 : Int)).bind fun r1 => (F31 k r1.2.1.1 r1.2.1.2.1 (30 : Int)).bind fun r2 => if (r2.1.1 == (0 : Int)) = true then if (decide (r1.1.1.2.1.length + [(0 : Int)].length ≤ 17592186044416)) = true then F12c12 k r2.2.1.1 r2.2.1.2.1 false ([] : List Int) r1.1.1.1 (r1.1.1.2.1 ++ [(0 : Int)]) else none else if (r2.1.1 == (1 : Int)) = true then (F32 k r2.2.1.1 r2.2.1.2.1 [(10000 : Int), (-1 : Int)]).bind fun r3 => if (decide (r1.1.1.2.1.length + [r3.1.1].length ≤ 17592186044416)) = true then F12c12 k r3.2.1.1 r3.2.1.2.1 false ([] : List Int) r1.1.1.1 (r1.1.1.2.1 ++ [r3.1.1]) else none else if (r2.1.1 == (2 : Int)) = true then some (((true, ([] : List Int), ()), ()), ((r2.2.1.1, r2.2.1.2.1, ()), ())) else if (r2.1.1 == (3 : Int)) = true then F12c10 k r2.2.1.1 r2.2.1.2.1 false ([] : List Int) r1.1.1.1 r1.1.1.2.1 else F12c12 k r2.2.1.1 r2.2.1.2.1 false ([] : List Int) r1.1.1.1 r1.1.1.2.1 := by kernel_rfl
theorem F12c12_eq (k : Nat) (x0_0 : List Int) (x0_1 : Int) (x2_0 : Bool) (x2_1 : List Int) (x3_0 : Bool) (x3_1 : List Int) : F12c12 (k + 1) x0_0 x0_1 x2_0 x2_1 x3_0 x3_1 =
    some (((x3_0, x3_1, ()), ()), ((x0_0, x0_1, ()), ())) := by kernel_rfl
theorem F12c10_eq (k : Nat) (x0_0 : List Int) (x0_1 : Int) (x2_0 : Bool) (x2_1 : List Int) (x3_0 : Bool) (x3_1 : List Int) : F12c10 (k + 1) x0_0 x0_1 x2_0 x2_1 x3_0 x3_1 =
    if (decide ((x3_1.length : Int) < (17 : Int))) = true then if (decide (x3_1.length + [(1 : Int)].length ≤ 17592186044416)) = true then F12c10 k x0_0 x0_1 x2_0 x2_1 x3_0 (x3_1 ++ [(1 : Int)]) else none else F12c12 k x0_0 x0_1 x2_0 x2_1 x3_0 x3_1 := by kernel_rfl
theorem F13_eq (k : Nat) (a0 : List Int) : F13 (k + 2) a0 =
    if (decide ((a0.length : Int) > (2000 : Int))) = true then if (decide (0 ≤ (2000 : Int)) && decide ((2000 : Int) ≤ (a0.length : Int))) = true then F13c3 k (slices a0 0 2000) else none else F13c3 k a0 := by kernel_rfl
theorem F13c3_eq (k : Nat) (x0 : List Int) : F13c3 (k + 1) x0 =
    some (((x0, (0 : Int), ()), ()), ((), ())) := by kernel_rfl
theorem F14_eq (k : Nat) (a0 : List Int) : F14 (k + 1) a0 = textR (a0, ()) := by kernel_rfl
theorem F15_eq (k : Nat) (a0_0 : Bool) (a0_1 : List Int) : F15 (k + 2) a0_0 a0_1 =
    if (decide ((a0_1.length : Int) > (16 : Int))) = true then some ((false, ()), (((), (), ()), ())) else if a0_0 = true then if ((a0_1.length : Int) == (0 : Int)) = true then some ((false, ()), (((), (), ()), ())) else F15c4 k a0_0 a0_1 (0 : Int) else F15c4 k a0_0 a0_1 (0 : Int) := by kernel_rfl
theorem F15c4_eq (k : Nat) (x1_0 : Bool) (x1_1 : List Int) (x3 : Int) : F15c4 (k + 1) x1_0 x1_1 x3 =
    if (decide (x3 < (x1_1.length : Int))) = true then if (decide (0 ≤ x3)) = true then (x1_1[x3.toNat]?).bind fun y1 => (F38 k y1 (0 : Int) (9999 : Int)).bind fun r2 => if (!r2.1.1) = true then some ((false, ()), (((), (), ()), ())) else F15c4 k x1_0 x1_1 (IntKind.i64.wrap (x3 + (1 : Int))) else none else if ((x1_1.length : Int) == (0 : Int)) = true then some ((true, ()), (((), (), ()), ())) else if (decide (0 ≤ (IntKind.i64.wrap ((x1_1.length : Int) - (1 : Int))))) = true then (x1_1[(IntKind.i64.wrap ((x1_1.length : Int) - (1 : Int))).toNat]?).bind fun y3 => some (((y3 != (0 : Int)), ()), (((), (), ()), ())) else none := by kernel_rfl
theorem F16_eq (k : Nat) (a0_0 : Bool) (a0_1 : List Int) : F16 (k + 2) a0_0 a0_1 =
    (F39 k a0_1).bind fun r1 => if a0_0 = true then if (Nat.ble ((⟨#[45]⟩ : ByteArray).size + r1.1.1.size) 9223372036854775807) = true then some ((((⟨#[45]⟩ : ByteArray) ++ r1.1.1), ()), (((), (), ()), ())) else none else some ((r1.1.1, ()), (((), (), ()), ())) := by kernel_rfl
theorem F18_eq (k : Nat) (a0 : Int) : F18 (k + 2) a0 =
    (F19 k a0 (0 : Int) (9999 : Int)).bind fun r1 => some (((!r1.1.1), ()), ((), ())) := by kernel_rfl
theorem F19_eq (k : Nat) (a0 : Int) (a1 : Int) (a2 : Int) : F19 (k + 2) a0 a1 a2 =
    if (decide (a0 ≥ a1)) = true then some ((decide (a0 ≤ a2), ()), ((), (), (), ())) else some ((false, ()), ((), (), (), ())) := by kernel_rfl
theorem F20_eq (k : Nat) (a0 : ByteArray) (a1 : ByteArray) : F20 (k + 2) a0 a1 =
    (F41 k a0 a1).bind fun r1 => some ((r1.1.1, r1.1.2.1, ()), ((), (), ())) := by kernel_rfl
theorem F21_eq (k : Nat) (a0 : ByteArray) : F21 (k + 2) a0 =
    F21c2 k a0 (a0.size : Int) (0 : Int) := by kernel_rfl
theorem F21c2_eq (k : Nat) (x0 : ByteArray) (x5 : Int) (x6 : Int) : F21c2 (k + 1) x0 x5 x6 =
    if (decide (x6 < x5)) = true then if (decide (0 ≤ x6)) = true then (x0[x6.toNat]?).bind fun u1 => if (decide ((u1.toNat : Int) < (48 : Int))) = true then some ((false, ()), ((), ())) else if (decide (0 ≤ x6)) = true then (x0[x6.toNat]?).bind fun u2 => if (decide ((u2.toNat : Int) > (57 : Int))) = true then some ((false, ()), ((), ())) else F21c2 k x0 x5 (IntKind.i64.wrap (x6 + (1 : Int))) else none else none else some (((!(x0.toList == (⟨#[]⟩ : ByteArray).toList)), ()), ((), ())) := by kernel_rfl
theorem F22_eq (k : Nat) (a0 : Bool) (a1 : List Int) : F22 (k + 2) a0 a1 =
    (F42 k a1).bind fun r1 => if (decide ((r1.1.1.length : Int) > (16 : Int))) = true then some (((false, ([] : List Int), ()), false, ()), ((), (), ())) else if a0 = true then (F43 k r1.1.1).bind fun r2 => some (((decide ((r1.1.1.length : Int) > (0 : Int)), r2.1.1, ()), true, ()), ((), (), ())) else (F43 k r1.1.1).bind fun r3 => some (((false, r3.1.1, ()), true, ()), ((), (), ())) := by kernel_rfl
theorem F23_eq (k : Nat) (a0 : ByteArray) : F23 (k + 2) a0 =
    F23c3 k a0 ([] : List Int) (a0.size : Int) := by kernel_rfl
theorem F23c3_eq (k : Nat) (x0 : ByteArray) (x3 : List Int) (x4 : Int) : F23c3 (k + 1) x0 x3 x4 =
    if (decide (x4 > (0 : Int))) = true then if (decide (0 ≤ (if (IntKind.i64.wrap (x4 - (4 : Int))) > (0 : Int) then (IntKind.i64.wrap (x4 - (4 : Int))) else (0 : Int))) && decide ((if (IntKind.i64.wrap (x4 - (4 : Int))) > (0 : Int) then (IntKind.i64.wrap (x4 - (4 : Int))) else (0 : Int)) ≤ x4) && decide (x4 ≤ (x0.size : Int))) = true then (F44 k (x0.extract ((if (IntKind.i64.wrap (x4 - (4 : Int))) > (0 : Int) then (IntKind.i64.wrap (x4 - (4 : Int))) else (0 : Int)).toNat) x4.toNat)).bind fun r1 => if (decide (x3.length + [r1.1.1].length ≤ 17592186044416)) = true then F23c3 k x0 (x3 ++ [r1.1.1]) (IntKind.i64.wrap (x4 - (4 : Int))) else none else none else (F42 k x3).bind fun r2 => some ((r2.1.1, ()), ((), ())) := by kernel_rfl
theorem F24_eq (k : Nat) (a0_0 : Bool) (a0_1 : List Int) (a1_0 : Bool) (a1_1 : List Int) : F24 (k + 2) a0_0 a0_1 a1_0 a1_1 =
    (F7 k a0_0 a0_1).bind fun r1 => if r1.1.1 = true then (F7 k a1_0 a1_1).bind fun r2 => some ((r2.1.1, ()), (((), (), ()), ((), (), ()), ())) else some ((false, ()), (((), (), ()), ((), (), ()), ())) := by kernel_rfl
theorem F25_eq (k : Nat) (a0_0 : Bool) (a0_1 : List Int) : F25 (k + 2) a0_0 a0_1 =
    some (((a0_0, a0_1, ()), ()), (((), (), ()), ())) := by kernel_rfl
theorem F26_eq (k : Nat) (a0_0 : Bool) (a0_1 : List Int) (a1_0 : Bool) (a1_1 : List Int) : F26 (k + 2) a0_0 a0_1 a1_0 a1_1 =
    if (a0_0 == a1_0) = true then (F45 k a0_1 a1_1).bind fun r1 => some (((a0_0, r1.1.1, ()), ()), (((), (), ()), ((), (), ()), ())) else (F46 k a0_1 a1_1).bind fun r2 => if (decide (r2.1.1 ≥ (0 : Int))) = true then (F47 k a0_1 a1_1).bind fun r3 => some (((a0_0, r3.1.1, ()), ()), (((), (), ()), ((), (), ()), ())) else (F47 k a1_1 a0_1).bind fun r4 => some (((a1_0, r4.1.1, ()), ()), (((), (), ()), ((), (), ()), ())) := by kernel_rfl
theorem F27_eq (k : Nat) (a0_0 : Bool) (a0_1 : List Int) : F27 (k + 2) a0_0 a0_1 =
    some ((((!a0_0), a0_1, ()), ()), (((), (), ()), ())) := by kernel_rfl
theorem F28_eq (k : Nat) (a0_0 : Bool) (a0_1 : List Int) : F28 (k + 2) a0_0 a0_1 =
    if ((a0_1.length : Int) == (0 : Int)) = true then some (((0 : Int), ()), (((), (), ()), ())) else if a0_0 = true then some (((-1 : Int), ()), (((), (), ()), ())) else some (((1 : Int), ()), (((), (), ()), ())) := by kernel_rfl
theorem F29_eq (k : Nat) (a0 : List Int) (a1 : List Int) : F29 (k + 2) a0 a1 =
    if ((a0.length : Int) != (a1.length : Int)) = true then some ((false, ()), ((), (), ())) else F29c4 k a0 a1 (0 : Int) := by kernel_rfl
theorem F29c4_eq (k : Nat) (x0 : List Int) (x1 : List Int) (x5 : Int) : F29c4 (k + 1) x0 x1 x5 =
    if (decide (x5 < (x0.length : Int))) = true then if (decide (0 ≤ x5)) = true then (x0[x5.toNat]?).bind fun y1 => if (decide (0 ≤ x5)) = true then (x1[x5.toNat]?).bind fun y2 => if (y1 != y2) = true then some ((false, ()), ((), (), ())) else F29c4 k x0 x1 (IntKind.i64.wrap (x5 + (1 : Int))) else none else none else some ((true, ()), ((), (), ())) := by kernel_rfl
theorem F30_eq (k : Nat) (a0_0 : List Int) (a0_1 : Int) (a1 : Int) : F30 (k + 2) a0_0 a0_1 a1 =
    (F31 k a0_0 a0_1 (64 : Int)).bind fun r1 => (F32 k r1.2.1.1 r1.2.1.2.1 [(0 : Int), (1 : Int), (1 : Int), (2 : Int), (3 : Int), (4 : Int), (5 : Int), (8 : Int), (9 : Int), (12 : Int), (17 : Int), (29 : Int), (30 : Int), (31 : Int), (33 : Int), (63 : Int), (64 : Int), (IntKind.i64.wrap ((1 : Int) + r1.1.1))]).bind fun r2 => if (decide (r2.1.1 > a1)) = true then (F31 k r2.2.1.1 r2.2.1.2.1 a1).bind fun r3 => F30c4 k r3.2.1.1 r3.2.1.2.1 false ([] : List Int) (IntKind.i64.wrap ((1 : Int) + r3.1.1)) else F30c4 k r2.2.1.1 r2.2.1.2.1 false ([] : List Int) r2.1.1 := by kernel_rfl
theorem F30c4_eq (k : Nat) (x0_0 : List Int) (x0_1 : Int) (x4_0 : Bool) (x4_1 : List Int) (x5 : Int) : F30c4 (k + 1) x0_0 x0_1 x4_0 x4_1 x5 =
    (F48 k x0_0 x0_1 x5).bind fun r4 => (F31 k r4.2.1.1 r4.2.1.2.1 (6 : Int)).bind fun r5 => if (r5.1.1 == (0 : Int)) = true then (F49 k (⟨#[48]⟩ : ByteArray) (IntKind.i64.wrap (x5 - (1 : Int)))).bind fun r6 => if (Nat.ble ((⟨#[49]⟩ : ByteArray).size + r6.1.1.size) 9223372036854775807) = true then F30c7 k r5.2.1.1 r5.2.1.2.1 x4_0 x4_1 x5 ((⟨#[49]⟩ : ByteArray) ++ r6.1.1) else none else F30c7 k r5.2.1.1 r5.2.1.2.1 x4_0 x4_1 x5 r4.1.1 := by kernel_rfl
theorem F30c7_eq (k : Nat) (x0_0 : List Int) (x0_1 : Int) (x4_0 : Bool) (x4_1 : List Int) (x5 : Int) (x6 : ByteArray) : F30c7 (k + 1) x0_0 x0_1 x4_0 x4_1 x5 x6 =
    (F31 k x0_0 x0_1 (6 : Int)).bind fun r7 => if (r7.1.1 == (0 : Int)) = true then (F49 k (⟨#[57]⟩ : ByteArray) x5).bind fun r8 => F30c9 k r7.2.1.1 r7.2.1.2.1 x4_0 x4_1 r8.1.1 else F30c9 k r7.2.1.1 r7.2.1.2.1 x4_0 x4_1 x6 := by kernel_rfl
theorem F30c9_eq (k : Nat) (x0_0 : List Int) (x0_1 : Int) (x4_0 : Bool) (x4_1 : List Int) (x6 : ByteArray) : F30c9 (k + 1) x0_0 x0_1 x4_0 x4_1 x6 =
    (F31 k x0_0 x0_1 (3 : Int)).bind fun r9 => (F51 k x6).bind fun r10 => (F50 k (r9.1.1 == (0 : Int)) r10.1.1).bind fun r11 => some (((r11.1.1.1, r11.1.1.2.1, ()), ()), ((r9.2.1.1, r9.2.1.2.1, ()), (), ())) := by kernel_rfl
theorem F31_eq (k : Nat) (a0_0 : List Int) (a0_1 : Int) (a1 : Int) : F31 (k + 2) a0_0 a0_1 a1 =
    if (decide (a1 < (1 : Int))) = true then some (((0 : Int), ()), ((a0_0, (IntKind.i64.wrap (a0_1 + (1 : Int))), ()), (), ())) else if ((a0_0.length : Int) == (0 : Int)) = true then some (((0 : Int), ()), ((a0_0, (IntKind.i64.wrap (a0_1 + (1 : Int))), ()), (), ())) else if (decide ((IntKind.i64.wrap ((IntKind.i64.wrap (a0_1 + (1 : Int))) - (1 : Int))) < (a0_0.length : Int))) = true then if (decide (0 ≤ (IntKind.i64.wrap ((IntKind.i64.wrap (a0_1 + (1 : Int))) - (1 : Int))))) = true then (a0_0[(IntKind.i64.wrap ((IntKind.i64.wrap (a0_1 + (1 : Int))) - (1 : Int))).toNat]?).bind fun y1 => if (!(a1 == 0)) = true then some ((((IntKind.i64.wrap y1).tmod a1), ()), ((a0_0, (IntKind.i64.wrap (a0_1 + (1 : Int))), ()), (), ())) else none else none else if (!((a0_0.length : Int) == 0)) = true then if (decide (0 ≤ ((IntKind.i64.wrap ((IntKind.i64.wrap (a0_1 + (1 : Int))) - (1 : Int))).tmod (a0_0.length : Int)))) = true then (a0_0[((IntKind.i64.wrap ((IntKind.i64.wrap (a0_1 + (1 : Int))) - (1 : Int))).tmod (a0_0.length : Int)).toNat]?).bind fun y2 => if (!((a0_0.length : Int) == 0)) = true then if (decide (0 ≤ ((IntKind.i64.wrap ((IntKind.i64.wrap ((IntKind.i64.wrap ((IntKind.i64.wrap (a0_1 + (1 : Int))) - (1 : Int))) * (7 : Int))) + (3 : Int))).tmod (a0_0.length : Int)))) = true then (a0_0[((IntKind.i64.wrap ((IntKind.i64.wrap ((IntKind.i64.wrap ((IntKind.i64.wrap (a0_1 + (1 : Int))) - (1 : Int))) * (7 : Int))) + (3 : Int))).tmod (a0_0.length : Int)).toNat]?).bind fun y3 => if (!((a0_0.length : Int) == 0)) = true then if (!(a1 == 0)) = true then some ((((IntKind.i64.wrap (((BitVec.ofInt IntKind.i64.bits (IntKind.i64.wrap ((IntKind.i64.wrap ((IntKind.i64.wrap ((IntKind.i64.wrap ((IntKind.i64.wrap y2) * (131 : Int))) + (IntKind.i64.wrap ((IntKind.i64.wrap y3) * (1117 : Int))))) + (IntKind.i64.wrap ((IntKind.i64.wrap ((IntKind.i64.wrap (a0_1 + (1 : Int))) - (1 : Int))) * (29 : Int))))) + (IntKind.i64.wrap ((IntKind.i64.wrap ((IntKind.i64.wrap ((IntKind.i64.wrap (a0_1 + (1 : Int))) - (1 : Int))).tdiv (a0_0.length : Int))) * (53 : Int))))) ^^^ BitVec.ofInt IntKind.i64.bits (IntKind.i64.wrap ((IntKind.i64.wrap ((IntKind.i64.wrap ((IntKind.i64.wrap ((IntKind.i64.wrap ((IntKind.i64.wrap y2) * (131 : Int))) + (IntKind.i64.wrap ((IntKind.i64.wrap y3) * (1117 : Int))))) + (IntKind.i64.wrap ((IntKind.i64.wrap ((IntKind.i64.wrap (a0_1 + (1 : Int))) - (1 : Int))) * (29 : Int))))) + (IntKind.i64.wrap ((IntKind.i64.wrap ((IntKind.i64.wrap ((IntKind.i64.wrap (a0_1 + (1 : Int))) - (1 : Int))).tdiv (a0_0.length : Int))) * (53 : Int))))).tdiv (64 : Int)))).toNat : Int))).tmod a1), ()), ((a0_0, (IntKind.i64.wrap (a0_1 + (1 : Int))), ()), (), ())) else none else none else none else none else none else none := by kernel_rfl
theorem F32_eq (k : Nat) (a0_0 : List Int) (a0_1 : Int) (a1 : List Int) : F32 (k + 2) a0_0 a0_1 a1 =
    (F31 k a0_0 a0_1 (a1.length : Int)).bind fun r1 => if (decide (0 ≤ r1.1.1) && decide (r1.1.1 < (a1.length : Int))) = true then (a1[r1.1.1.toNat]?).bind fun y2 => some ((y2, ()), ((r1.2.1.1, r1.2.1.2.1, ()), (), ())) else none := by kernel_rfl
theorem F38_eq (k : Nat) (a0 : Int) (a1 : Int) (a2 : Int) : F38 (k + 2) a0 a1 a2 =
    if (decide (a0 ≥ a1)) = true then some ((decide (a0 ≤ a2), ()), ((), (), (), ())) else some ((false, ()), ((), (), (), ())) := by kernel_rfl
theorem F39_eq (k : Nat) (a0 : List Int) : F39 (k + 2) a0 =
    if ((a0.length : Int) == (0 : Int)) = true then some (((⟨#[48]⟩ : ByteArray), ()), ((), ())) else if (decide (0 ≤ (IntKind.i64.wrap ((a0.length : Int) - (1 : Int))))) = true then (a0[(IntKind.i64.wrap ((a0.length : Int) - (1 : Int))).toNat]?).bind fun y1 => (F59 k y1).bind fun r2 => F39c5 k a0 r2.1.1 (IntKind.i64.wrap ((a0.length : Int) - (2 : Int))) else none := by kernel_rfl
theorem F39c5_eq (k : Nat) (x0 : List Int) (x3 : ByteArray) (x4 : Int) : F39c5 (k + 1) x0 x3 x4 =
    if (decide (x4 ≥ (0 : Int))) = true then if (decide (0 ≤ x4)) = true then (x0[x4.toNat]?).bind fun y3 => (F60 k y3 (4 : Int)).bind fun r4 => if (Nat.ble (x3.size + r4.1.1.size) 9223372036854775807) = true then F39c5 k x0 (x3 ++ r4.1.1) (IntKind.i64.wrap (x4 - (1 : Int))) else none else none else some ((x3, ()), ((), ())) := by kernel_rfl
theorem F41_eq (k : Nat) (a0 : ByteArray) (a1 : ByteArray) : F41 (k + 2) a0 a1 =
    (F61 k a0 a1).bind fun r1 => if (!r1.1.1) = true then some ((a0, false, ()), ((), (), ())) else if (decide (0 ≤ (a1.size : Int)) && decide ((a1.size : Int) ≤ (a0.size : Int))) = true then some ((a0.extract ((a1.size : Int).toNat) a0.size, true, ()), ((), (), ())) else none := by kernel_rfl
theorem F42_eq (k : Nat) (a0 : List Int) : F42 (k + 2) a0 =
    F42c1 k a0 := by kernel_rfl
theorem F42c1_eq (k : Nat) (x0 : List Int) : F42c1 (k + 1) x0 =
    if (decide ((x0.length : Int) > (0 : Int))) = true then if (decide (0 ≤ (IntKind.i64.wrap ((x0.length : Int) - (1 : Int))))) = true then (x0[(IntKind.i64.wrap ((x0.length : Int) - (1 : Int))).toNat]?).bind fun y1 => if (y1 == (0 : Int)) = true then if (decide (0 ≤ (IntKind.i64.wrap ((x0.length : Int) - (1 : Int)))) && decide ((IntKind.i64.wrap ((x0.length : Int) - (1 : Int))) ≤ (x0.length : Int))) = true then F42c1 k (slices x0 0 ((IntKind.i64.wrap ((x0.length : Int) - (1 : Int))).toNat)) else none else some ((x0, ()), ((), ())) else none else some ((x0, ()), ((), ())) := by kernel_rfl
theorem F43_eq (k : Nat) (a0 : List Int) : F43 (k + 2) a0 =
    (F63 k a0).bind fun r1 => (F62 k r1.1.1).bind fun r2 => some ((r2.1.1, ()), ((), ())) := by kernel_rfl
theorem F44_eq (k : Nat) (a0 : ByteArray) : F44 (k + 1) a0 = atoiR (a0, ()) := by kernel_rfl
theorem F45_eq (k : Nat) (a0 : List Int) (a1 : List Int) : F45 (k + 2) a0 a1 =
    if (decide (0 ≤ (IntKind.i64.wrap ((if (a1.length : Int) > (a0.length : Int) then (a1.length : Int) else (a0.length : Int)) + (1 : Int)))) && decide ((IntKind.i64.wrap ((if (a1.length : Int) > (a0.length : Int) then (a1.length : Int) else (a0.length : Int)) + (1 : Int))) ≤ (IntKind.i64.wrap ((if (a1.length : Int) > (a0.length : Int) then (a1.length : Int) else (a0.length : Int)) + (1 : Int)))) && decide ((IntKind.i64.wrap ((if (a1.length : Int) > (a0.length : Int) then (a1.length : Int) else (a0.length : Int)) + (1 : Int))) ≤ (17592186044416 : Int))) = true then F45c4 k (a0.take (List.replicate (IntKind.i64.wrap ((if (a1.length : Int) > (a0.length : Int) then (a1.length : Int) else (a0.length : Int)) + (1 : Int))).toNat (0 : Int)).length ++ (List.replicate (IntKind.i64.wrap ((if (a1.length : Int) > (a0.length : Int) then (a1.length : Int) else (a0.length : Int)) + (1 : Int))).toNat (0 : Int)).drop a0.length) a1 (a1.length : Int) (0 : Int) else none := by kernel_rfl
theorem F45c4_eq (k : Nat) (x5 : List Int) (x19 : List Int) (x20 : Int) (x21 : Int) : F45c4 (k + 1) x5 x19 x20 x21 =
    if (decide (x21 < x20)) = true then if (decide (0 ≤ x21)) = true then (x19[x21.toNat]?).bind fun y1 => if (decide (0 ≤ x21) && decide (x21 < (x5.length : Int))) = true then (x5[x21.toNat]?).bind fun y2 => if (decide (0 ≤ x21) && decide (x21 < (x5.length : Int))) = true then (x5[x21.toNat]?).bind fun y3 => F45c4 k (x5.set x21.toNat (IntKind.i64.wrap (y2 + y1))) x19 x20 (IntKind.i64.wrap (x21 + (1 : Int))) else none else none else none else F45c9 k x5 (IntKind.i64.wrap ((x5.length : Int) - (1 : Int))) (0 : Int) := by kernel_rfl
theorem F45c9_eq (k : Nat) (x5 : List Int) (x36 : Int) (x37 : Int) : F45c9 (k + 1) x5 x36 x37 =
    if (decide (x37 < x36)) = true then if (decide (0 ≤ (IntKind.i64.wrap (x37 + (1 : Int)))) && decide ((IntKind.i64.wrap (x37 + (1 : Int))) < (x5.length : Int))) = true then (x5[(IntKind.i64.wrap (x37 + (1 : Int))).toNat]?).bind fun y4 => if (decide (0 ≤ x37) && decide (x37 < (x5.length : Int))) = true then (x5[x37.toNat]?).bind fun y5 => if (decide (0 ≤ (IntKind.i64.wrap (x37 + (1 : Int)))) && decide ((IntKind.i64.wrap (x37 + (1 : Int))) < (x5.length : Int))) = true then (x5[(IntKind.i64.wrap (x37 + (1 : Int))).toNat]?).bind fun y6 => if (decide (0 ≤ x37) && decide (x37 < ((x5.set ((IntKind.i64.wrap (x37 + (1 : Int))).toNat) (IntKind.i64.wrap (y4 + (IntKind.i64.wrap (y5.tdiv (10000 : Int)))))).length : Int))) = true then ((x5.set ((IntKind.i64.wrap (x37 + (1 : Int))).toNat) (IntKind.i64.wrap (y4 + (IntKind.i64.wrap (y5.tdiv (10000 : Int))))))[x37.toNat]?).bind fun y7 => if (decide (0 ≤ x37) && decide (x37 < ((x5.set ((IntKind.i64.wrap (x37 + (1 : Int))).toNat) (IntKind.i64.wrap (y4 + (IntKind.i64.wrap (y5.tdiv (10000 : Int)))))).length : Int))) = true then ((x5.set ((IntKind.i64.wrap (x37 + (1 : Int))).toNat) (IntKind.i64.wrap (y4 + (IntKind.i64.wrap (y5.tdiv (10000 : Int))))))[x37.toNat]?).bind fun y8 => F45c9 k ((x5.set ((IntKind.i64.wrap (x37 + (1 : Int))).toNat) (IntKind.i64.wrap (y4 + (IntKind.i64.wrap (y5.tdiv (10000 : Int)))))).set x37.toNat (y7.tmod (10000 : Int))) x36 (IntKind.i64.wrap (x37 + (1 : Int))) else none else none else none else none else none else (F42 k x5).bind fun r9 => some ((r9.1.1, ()), ((), (), ())) := by kernel_rfl
theorem F46_eq (k : Nat) (a0 : List Int) (a1 : List Int) : F46 (k + 2) a0 a1 =
    if ((a0.length : Int) != (a1.length : Int)) = true then some (((if (if (IntKind.i64.wrap ((a0.length : Int) - (a1.length : Int))) < (1 : Int) then (IntKind.i64.wrap ((a0.length : Int) - (a1.length : Int))) else (1 : Int)) > (-1 : Int) then (if (IntKind.i64.wrap ((a0.length : Int) - (a1.length : Int))) < (1 : Int) then (IntKind.i64.wrap ((a0.length : Int) - (a1.length : Int))) else (1 : Int)) else (-1 : Int)), ()), ((), (), ())) else F46c4 k a0 a1 (IntKind.i64.wrap ((a0.length : Int) - (1 : Int))) := by kernel_rfl
theorem F46c4_eq (k : Nat) (x0 : List Int) (x1 : List Int) (x5 : Int) : F46c4 (k + 1) x0 x1 x5 =
    if (decide (x5 ≥ (0 : Int))) = true then if (decide (0 ≤ x5)) = true then (x0[x5.toNat]?).bind fun y1 => if (decide (0 ≤ x5)) = true then (x1[x5.toNat]?).bind fun y2 => if (y1 != y2) = true then if (decide (0 ≤ x5)) = true then (x0[x5.toNat]?).bind fun y3 => if (decide (0 ≤ x5)) = true then (x1[x5.toNat]?).bind fun y4 => some (((if (if (IntKind.i64.wrap (y3 - y4)) < (1 : Int) then (IntKind.i64.wrap (y3 - y4)) else (1 : Int)) > (-1 : Int) then (if (IntKind.i64.wrap (y3 - y4)) < (1 : Int) then (IntKind.i64.wrap (y3 - y4)) else (1 : Int)) else (-1 : Int)), ()), ((), (), ())) else none else none else F46c4 k x0 x1 (IntKind.i64.wrap (x5 - (1 : Int))) else none else none else some (((0 : Int), ()), ((), (), ())) := by kernel_rfl
theorem F47_eq (k : Nat) (a0 : List Int) (a1 : List Int) : F47 (k + 2) a0 a1 =
    (F66 k a0).bind fun r1 => F47c3 k r1.1.1 a1 (a1.length : Int) (0 : Int) := by kernel_rfl
theorem F47c3_eq (k : Nat) (x5 : List Int) (x11 : List Int) (x12 : Int) (x13 : Int) : F47c3 (k + 1) x5 x11 x12 x13 =
    if (decide (x13 < x12)) = true then if (decide (0 ≤ x13)) = true then (x11[x13.toNat]?).bind fun y2 => if (decide (0 ≤ x13) && decide (x13 < (x5.length : Int))) = true then (x5[x13.toNat]?).bind fun y3 => if (decide (0 ≤ x13) && decide (x13 < (x5.length : Int))) = true then (x5[x13.toNat]?).bind fun y4 => F47c3 k (x5.set x13.toNat (IntKind.i64.wrap (y3 - y2))) x11 x12 (IntKind.i64.wrap (x13 + (1 : Int))) else none else none else none else F47c8 k x5 (x5.length : Int) (0 : Int) := by kernel_rfl
theorem F47c8_eq (k : Nat) (x5 : List Int) (x27 : Int) (x28 : Int) : F47c8 (k + 1) x5 x27 x28 =
    if (decide (x28 < x27)) = true then if (decide (0 ≤ x28) && decide (x28 < (x5.length : Int))) = true then (x5[x28.toNat]?).bind fun y5 => if (decide (y5 < (0 : Int))) = true then if (decide (0 ≤ x28) && decide (x28 < (x5.length : Int))) = true then (x5[x28.toNat]?).bind fun y6 => if (decide (0 ≤ x28) && decide (x28 < (x5.length : Int))) = true then (x5[x28.toNat]?).bind fun y7 => if (decide (0 ≤ (IntKind.i64.wrap (x28 + (1 : Int)))) && decide ((IntKind.i64.wrap (x28 + (1 : Int))) < ((x5.set x28.toNat (IntKind.i64.wrap (y6 + (10000 : Int)))).length : Int))) = true then ((x5.set x28.toNat (IntKind.i64.wrap (y6 + (10000 : Int))))[(IntKind.i64.wrap (x28 + (1 : Int))).toNat]?).bind fun y8 => if (decide (0 ≤ (IntKind.i64.wrap (x28 + (1 : Int)))) && decide ((IntKind.i64.wrap (x28 + (1 : Int))) < ((x5.set x28.toNat (IntKind.i64.wrap (y6 + (10000 : Int)))).length : Int))) = true then ((x5.set x28.toNat (IntKind.i64.wrap (y6 + (10000 : Int))))[(IntKind.i64.wrap (x28 + (1 : Int))).toNat]?).bind fun y9 => F47c13 k ((x5.set x28.toNat (IntKind.i64.wrap (y6 + (10000 : Int)))).set ((IntKind.i64.wrap (x28 + (1 : Int))).toNat) (IntKind.i64.wrap (y8 - (1 : Int)))) x27 x28 else none else none else none else none else F47c13 k x5 x27 x28 else none else (F42 k x5).bind fun r10 => some ((r10.1.1, ()), ((), (), ())) := by kernel_rfl
theorem F47c13_eq (k : Nat) (x5 : List Int) (x27 : Int) (x28 : Int) : F47c13 (k + 1) x5 x27 x28 =
    F47c8 k x5 x27 (IntKind.i64.wrap (x28 + (1 : Int))) := by kernel_rfl
theorem F48_eq (k : Nat) (a0_0 : List Int) (a0_1 : Int) (a1 : Int) : F48 (k + 2) a0_0 a0_1 a1 =
    if (decide (a1 < (1 : Int))) = true then some (((⟨#[48]⟩ : ByteArray), ()), ((a0_0, a0_1, ()), (), ())) else (F31 k a0_0 a0_1 (9 : Int)).bind fun r1 => F48c4 k r1.2.1.1 r1.2.1.2.1 a1 (bytesOf [(IntKind.u8.wrap (IntKind.i64.wrap ((49 : Int) + r1.1.1)))]) := by kernel_rfl
theorem F48c4_eq (k : Nat) (x0_0 : List Int) (x0_1 : Int) (x1 : Int) (x5 : ByteArray) : F48c4 (k + 1) x0_0 x0_1 x1 x5 =
    if (decide ((x5.size : Int) < x1)) = true then (F31 k x0_0 x0_1 (10 : Int)).bind fun r2 => (F32 k r2.2.1.1 r2.2.1.2.1 [(0 : Int), (0 : Int), (9 : Int), (9 : Int), (5 : Int), (1 : Int), r2.1.1]).bind fun r3 => if (Nat.ble (x5.size + (bytesOf [(IntKind.u8.wrap (IntKind.i64.wrap ((48 : Int) + r3.1.1)))]).size) 9223372036854775807) = true then F48c4 k r3.2.1.1 r3.2.1.2.1 x1 (x5 ++ (bytesOf [(IntKind.u8.wrap (IntKind.i64.wrap ((48 : Int) + r3.1.1)))])) else none else some ((x5, ()), ((x0_0, x0_1, ()), (), ())) := by kernel_rfl
theorem F49_eq (k : Nat) (a0 : ByteArray) (a1 : Int) : F49 (k + 2) a0 a1 =
    F49c2 k a0 a1 (⟨#[]⟩ : ByteArray) := by kernel_rfl
theorem F49c2_eq (k : Nat) (x0 : ByteArray) (x1 : Int) (x5 : ByteArray) : F49c2 (k + 1) x0 x1 x5 =
    if (decide (x1 > (0 : Int))) = true then if (Nat.ble (x5.size + x0.size) 9223372036854775807) = true then F49c2 k x0 (IntKind.i64.wrap (x1 - (1 : Int))) (x5 ++ x0) else none else some ((x5, ()), ((), (), ())) := by kernel_rfl
theorem F50_eq (k : Nat) (a0 : Bool) (a1 : List Int) : F50 (k + 2) a0 a1 =
    (F67 k a1).bind fun r1 => if (decide ((r1.1.1.length : Int) > (16 : Int))) = true then some (((false, ([] : List Int), ()), false, ()), ((), (), ())) else if a0 = true then some (((decide ((r1.1.1.length : Int) > (0 : Int)), r1.1.1, ()), true, ()), ((), (), ())) else some (((false, r1.1.1, ()), true, ()), ((), (), ())) := by kernel_rfl
theorem F51_eq (k : Nat) (a0 : ByteArray) : F51 (k + 2) a0 =
    F51c2 k a0 ([] : List Int) := by kernel_rfl
theorem F51c2_eq (k : Nat) (x0 : ByteArray) (x3 : List Int) : F51c2 (k + 1) x0 x3 =
    if (decide ((x0.size : Int) > (0 : Int))) = true then if (decide ((IntKind.i64.wrap ((x0.size : Int) - (4 : Int))) < (0 : Int))) = true then F51c6 k x0 x3 (0 : Int) else F51c6 k x0 x3 (IntKind.i64.wrap ((x0.size : Int) - (4 : Int))) else (F67 k x3).bind fun r1 => some ((r1.1.1, ()), ((), ())) := by kernel_rfl
theorem F51c6_eq (k : Nat) (x0 : ByteArray) (x3 : List Int) (x4 : Int) : F51c6 (k + 1) x0 x3 x4 =
    F51c8 k x0 x3 x4 (0 : Int) x4 := by kernel_rfl
theorem F51c8_eq (k : Nat) (x0 : ByteArray) (x3 : List Int) (x4 : Int) (x5 : Int) (x6 : Int) : F51c8 (k + 1) x0 x3 x4 x5 x6 =
    if (decide (x6 < (x0.size : Int))) = true then if (decide (0 ≤ x6)) = true then (x0[x6.toNat]?).bind fun u2 => F51c8 k x0 x3 x4 (IntKind.i64.wrap ((IntKind.i64.wrap (x5 * (10 : Int))) + (IntKind.i64.wrap (IntKind.u8.wrap ((u2.toNat : Int) - (48 : Int)))))) (IntKind.i64.wrap (x6 + (1 : Int))) else none else if (decide (x3.length + [x5].length ≤ 17592186044416)) = true then if (decide (0 ≤ x4) && decide (x4 ≤ (x0.size : Int))) = true then F51c2 k (x0.extract 0 x4.toNat) (x3 ++ [x5]) else none else none := by kernel_rfl
theorem F59_eq (k : Nat) (a0 : Int) : F59 (k + 2) a0 =
    if (decide (a0 < (-9223372036854775807 : Int))) = true then some (((⟨#[45, 57, 50, 50, 51, 51, 55, 50, 48, 51, 54, 56, 53, 52, 55, 55, 53, 56, 48, 56]⟩ : ByteArray), ()), ((), ())) else if (decide (a0 < (0 : Int))) = true then (F59 k (IntKind.i64.wrap (0 - a0))).bind fun r1 => if (Nat.ble ((⟨#[45]⟩ : ByteArray).size + r1.1.1.size) 9223372036854775807) = true then some ((((⟨#[45]⟩ : ByteArray) ++ r1.1.1), ()), ((), ())) else none else if (decide (a0 < (10 : Int))) = true then some (((bytesOf [(IntKind.u8.wrap (IntKind.i64.wrap ((48 : Int) + a0)))]), ()), ((), ())) else (F59 k (IntKind.i64.wrap (a0.tdiv (10 : Int)))).bind fun r2 => if (Nat.ble (r2.1.1.size + (bytesOf [(IntKind.u8.wrap (IntKind.i64.wrap ((48 : Int) + (a0.tmod (10 : Int)))))]).size) 9223372036854775807) = true then some (((r2.1.1 ++ (bytesOf [(IntKind.u8.wrap (IntKind.i64.wrap ((48 : Int) + (a0.tmod (10 : Int)))))])), ()), ((), ())) else none := by kernel_rfl
theorem F60_eq (k : Nat) (a0 : Int) (a1 : Int) : F60 (k + 2) a0 a1 =
    (F59 k a0).bind fun r1 => F60c2 k a1 r1.1.1 := by kernel_rfl
theorem F60c2_eq (k : Nat) (x1 : Int) (x5 : ByteArray) : F60c2 (k + 1) x1 x5 =
    if (decide ((x5.size : Int) < x1)) = true then if (Nat.ble ((⟨#[48]⟩ : ByteArray).size + x5.size) 9223372036854775807) = true then F60c2 k x1 ((⟨#[48]⟩ : ByteArray) ++ x5) else none else some ((x5, ()), ((), (), ())) := by kernel_rfl
theorem F61_eq (k : Nat) (a0 : ByteArray) (a1 : ByteArray) : F61 (k + 2) a0 a1 =
    if (decide ((a0.size : Int) ≥ (a1.size : Int))) = true then if (decide (0 ≤ (a1.size : Int)) && decide ((a1.size : Int) ≤ (a0.size : Int))) = true then some ((((a0.extract 0 ((a1.size : Int).toNat)).toList == a1.toList), ()), ((), (), ())) else none else some ((false, ()), ((), (), ())) := by kernel_rfl
theorem F62_eq (k : Nat) (a0 : List Int) : F62 (k + 2) a0 =
    if ((a0.length : Int) == (a0.length : Int) && (a0.length : Int) == (a0.length : Int)) = true then some ((a0, ()), ((), ())) else none := by kernel_rfl
theorem F63_eq (k : Nat) (a0 : List Int) : F63 (k + 2) a0 =
    bothK (emptyL a0) (some ((([] : List Int), ()), ((), ()))) (if (decide (([] : List Int).length + a0.length ≤ 17592186044416)) = true then some (((([] : List Int) ++ a0), ()), ((), ())) else none) := by kernel_rfl
theorem F66_eq (k : Nat) (a0 : List Int) : F66 (k + 2) a0 =
    bothK (emptyL a0) (some ((([] : List Int), ()), ((), ()))) (if (decide (([] : List Int).length + a0.length ≤ 17592186044416)) = true then some (((([] : List Int) ++ a0), ()), ((), ())) else none) := by kernel_rfl
theorem F67_eq (k : Nat) (a0 : List Int) : F67 (k + 2) a0 =
    F67c2 k a0 (a0.length : Int) := by kernel_rfl
theorem F67c2_eq (k : Nat) (x0 : List Int) (x3 : Int) : F67c2 (k + 1) x0 x3 =
    if (decide (x3 > (0 : Int))) = true then if (decide (0 ≤ (IntKind.i64.wrap (x3 - (1 : Int))))) = true then (x0[(IntKind.i64.wrap (x3 - (1 : Int))).toNat]?).bind fun y1 => if (y1 == (0 : Int)) = true then F67c2 k x0 (IntKind.i64.wrap (x3 - (1 : Int))) else if (decide (0 ≤ x3) && decide (x3 ≤ (x0.length : Int))) = true then if (decide (([] : List Int).length + (slices x0 0 x3.toNat).length ≤ 17592186044416)) = true then some (((([] : List Int) ++ (slices x0 0 x3.toNat)), ()), ((), ())) else none else none else none else if (decide (0 ≤ x3) && decide (x3 ≤ (x0.length : Int))) = true then if (decide (([] : List Int).length + (slices x0 0 x3.toNat).length ≤ 17592186044416)) = true then some (((([] : List Int) ++ (slices x0 0 x3.toNat)), ()), ((), ())) else none else none := by kernel_rfl
theorem F19017_eq (k : Nat) (a0 : List Int) : F19017 (k + 2) a0 =
    (F19040 k a0).bind fun r1 => some ((decide (r1.1.1 ≥ (0 : Int)), ()), ((), (), ())) := by kernel_rfl
theorem F19040_eq (k : Nat) (a0 : List Int) : F19040 (k + 2) a0 =
    F19040c2 k a0 (a0.length : Int) (0 : Int) := by kernel_rfl
theorem F19040c2_eq (k : Nat) (x0 : List Int) (x7 : Int) (x8 : Int) : F19040c2 (k + 1) x0 x7 x8 =
    if (decide (x8 < x7)) = true then if (decide (0 ≤ x8)) = true then (x0[x8.toNat]?).bind fun y1 => (F18 k y1).bind fun r2 => if r2.1.1 = true then some ((x8, ()), ((), (), ())) else F19040c2 k x0 x7 (IntKind.i64.wrap (x8 + (1 : Int))) else none else some (((-1 : Int), ()), ((), (), ())) := by kernel_rfl
end Go.Proofs.YthbibdpbfgoghaaDoor.R
end

section
/-! Rf: what is to be shown of a law, with no machine in sight. -/
set_option autoImplicit false
namespace Go.Proofs.YthbibdpbfgoghaaDoor.R
open Go.Rf
def PureFnBigPut : Prop := ∀ (a0 : List Int) (a1 : List Int), wfT (.sl (.int .u8)) a0 → wfT (.sl (.int .u8)) a1 → ∃ k p, F3 k a0 a1 = some ((true, ()), p)
end Go.Proofs.YthbibdpbfgoghaaDoor.R
end

section
namespace Go.Proofs.YthbibdpbfgoghaaDoor.Q
open Go.Shelf
open Go.RowKit Go.Proofs.YthbibdpbfgoghaaDoor.Q Go.Proofs.YthbibdpbfgoghaaDoorW.PrintWords Go.Proofs.YthbibdpbfgoghaaDoorW.PrintLast Go.Proofs.YthbibdpbfgoghaaDoorW.PrintMore
set_option linter.unusedVariables false
set_option linter.unusedSimpArgs false
/-- A block holds these cells. -/
def CellsAt (W : World) (B : Nat) (t : TypeId) (cs : Array Value) : Prop := W.heap[B]? = some (.cells cs t (0, 0))
theorem CellsAt.lt {W : World} {B : Nat} {t : TypeId} {cs : Array Value} (h : CellsAt W B t cs) : B < W.heap.size := (Array.getElem?_eq_some_iff.1 h).1
theorem CellsAt.new (W : World) (t : TypeId) (cs : Array Value) : CellsAt (W.alloc (.cells cs t)) W.heap.size t cs := World.alloc_heap_new W _
theorem CellsAt.kept {W W' : World} {row : Option Nat} {B : Nat} {t : TypeId} {cs : Array Value} (h : CellsAt W B t cs) (hg : W.grownBy W' row) (hne : some B ≠ row) : CellsAt W' B t cs := (hg.block B h.lt hne).trans h
theorem CellsAt.below {W W' : World} {B n : Nat} {t : TypeId} {cs : Array Value} (h : CellsAt W B t cs) (hb : Below n W W') (hn : B < n) : CellsAt W' B t cs := (hb.block B hn).trans h
theorem CellsAt.alloc {W : World} {B : Nat} {t : TypeId} {cs : Array Value} (h : CellsAt W B t cs) (o : Obj) : CellsAt (W.alloc o) B t cs := (Below.heap_alloc W o B h.lt).trans h
theorem CellsAt.cell {W : World} {B : Nat} {t : TypeId} {cs : Array Value} (h : CellsAt W B t cs) (j : Nat) : W.cell? ⟨B, j, none⟩ = cs[j]? := by
  simp [World.cell?, show W.heap[B]? = _ from h]
theorem cellsAt_own {β : Type} (B : Nat) (t : TypeId) (f : β → Array Value) : Own (fun s W => CellsAt W B t (f s)) := fun s X Y row hs hg hrow =>
  hs.kept hg (fun e' => by obtain ⟨o, ho, hc⟩ := hrow B e'.symm; rw [show X.heap[B]? = _ from hs] at ho; cases ho; cases hc)
/-- What has come when k rounds are over. -/
def upto {α : Type} (f : Nat → α) (k : Nat) : List α := (List.range k).map f
theorem upto_succ {α : Type} (f : Nat → α) (k : Nat) : upto f (k + 1) = upto f k ++ [f k] := by simp [upto, List.range_succ]
theorem upto_length {α : Type} (f : Nat → α) (k : Nat) : (upto f k).length = k := by simp [upto]
/-- What a round that goes on keeps: what lay below, and the box of the slice. -/
def KpB (n₀ Bs : Nat) (W W' : World) : Prop := Below n₀ W W' ∧ W'.heap[Bs]? = W.heap[Bs]?
theorem KpB.refl (n₀ Bs : Nat) (W : World) : KpB n₀ Bs W W := ⟨Below.refl _ _, rfl⟩
theorem KpB.trans {n₀ Bs : Nat} {A B C : World} (h : KpB n₀ Bs A B) (k : KpB n₀ Bs B C) : KpB n₀ Bs A C := ⟨h.1.trans k.1, k.2.trans h.2⟩
theorem kpB_b {n₀ Bs : Nat} {w : World} (h0 : n₀ ≤ w.heap.size) (hB : Bs < w.heap.size) : ∀ (W : World) (l : Nat) (o o' : Obj), w.heap.size ≤ l → W.heap[l]? = some o → o.isCells = false → o.isWalk = false → KpB n₀ Bs W (W.putObj l o') :=
  fun W l o o' hl h1 h2 h3 => ⟨belowK_b h0 W l o o' hl h1 h2 h3, World.putObj_heap_other (by omega)⟩
end Go.Proofs.YthbibdpbfgoghaaDoor.Q
end

section
namespace Go.Proofs.YthbibdpbfgoghaaDoor.Q
open Go.RowKit Go.Proofs.YthbibdpbfgoghaaDoor.Q Go.Proofs.YthbibdpbfgoghaaDoorW.PrintWords Go.Proofs.YthbibdpbfgoghaaDoorW.PrintLast Go.Proofs.YthbibdpbfgoghaaDoorW.PrintMore
set_option linter.unusedVariables false
set_option linter.unusedSimpArgs false
set_option maxHeartbeats 2000000 in
set_option maxRecDepth 100000 in
theorem bld_copyCheck (B b : Nat) (bs : List Value) (w : World) (h : Lib.IsBuilderF 60 5 B b bs w) :
    Calls Tryd.prog 58 #[.pointer (some ⟨b, 0, none⟩)] w fun e w' => e = .returned (.tuple #[]) ∧ (Lib.BuilderAtF 60 5 B b (.pointer (some ⟨b, 0, none⟩)) bs w' ∧ Below B w w' ∧ Lib.OthersKept 5 (some b) w w') := by
  have hsz : (Tryd.prog.info? 60).map (·.size) = some 2 := by kernel_rfl
  obtain ⟨j, hj, hjs⟩ := Option.map_eq_some_iff.1 hsz
  rcases h with h | h
  · have h' := h
    obtain ⟨hB, v, hbk, hown, hne⟩ := h'
    have c0 : w.cell? ⟨b, 0, none⟩ = some (.pointer none) := by rw [Lib.cell_of_heap hbk]; rfl
    have c1 : w.cell? ⟨b, 1, none⟩ = some v := by rw [Lib.cell_of_heap hbk]; rfl
    have f0 : w.frozen? ⟨b, 0, none⟩ = false := Lib.frozen_of_heap hbk 0
    go_enter Tryd.func58, Tryd.ntmps58
    go_wp2
    rw [Lib.run_to_unsafe w ⟨b, 0, none⟩ Tryd.underlying58 Tryd.underlying95 hj (by rw [hjs]; decide) h.shape (Nat.zero_lt_succ 1)]
    simp only [Result.andThen]
    rw [Oper.upon_value]
    go_wp2
    rw [run_callFunc_extern Tryd.func72 (by kernel_rfl) (by kernel_rfl) (by kernel_rfl) (e := Extern.AbiNoEscape.same) (by kernel_rfl)]
    rw [Lib.run_noEscape]
    simp only [Result.andThen]
    rw [Oper.upon_value]
    go_wp2
    rw [Lib.run_from_unsafe w ⟨b, 0, none⟩ Tryd.underlying95 Tryd.underlying58 hj h.shape (by kernel_rfl)]
    simp only [Result.andThen]
    rw [Oper.upon_value]
    go_wp2
    go_end0
    exact ⟨rfl, h.used _, (Below.refl B w).setCell (p := ⟨b, 0, none⟩) h.1 _, (Lib.OthersKept.refl _ _ w).setCell ⟨b, 0, none⟩ rfl _⟩
  · obtain ⟨hB, v, hbk, hown, hne⟩ := id h
    have c0 : w.cell? ⟨b, 0, none⟩ = some (.pointer (some ⟨b, 0, none⟩)) := by rw [Lib.cell_of_heap hbk]; rfl
    go_enter Tryd.func58, Tryd.ntmps58
    go_wp2
    rw [Lib.run_neq_ptr_same w _ Tryd.underlying58 hj]
    go_wp2
    go_end0
    exact ⟨rfl, h, Below.refl B _, Lib.OthersKept.refl _ _ _⟩
theorem infoByte : (Tryd.prog.info? 5).map (fun i => (i.zero, i.size, i.bytes)) = some (some (.int .u8 0), 1, 1) := by kernel_rfl
set_option maxHeartbeats 2000000 in
set_option maxRecDepth 100000 in
theorem bld_WriteString (B b : Nat) (bs : List Value) (s : ByteArray) (w : World) (h : Lib.IsBuilderF 60 5 B b bs w) (hlen : bs.length + s.size ≤ 140737488355328) (hBw : B ≤ w.heap.size) :
    Calls Tryd.prog 36 #[.pointer (some ⟨b, 0, none⟩), .string s] w fun e w' => e = .returned (.tuple #[.int .i64 s.size, .nilIface]) ∧ (Lib.BuilderAtF 60 5 B b (.pointer (some ⟨b, 0, none⟩)) (bs ++ Lib.strCells s) w' ∧ Below B w w' ∧ Lib.OthersKept 5 (some b) w w') := by
  obtain ⟨i0, hi, hz0, hz1, hz2⟩ := info_parts infoByte
  go_enter Tryd.func36, Tryd.ntmps36
  go_wp2_with (go_at_call 58; refine (bld_copyCheck B b bs _ h).mono ?_)
  rintro e w1 ⟨rfl, h1, hb1, hk1⟩
  obtain ⟨hB, v, hbk, hown, hne⟩ := h1
  have c0 : w1.cell? ⟨b, 0, none⟩ = some (.pointer (some ⟨b, 0, none⟩)) := by rw [Lib.cell_of_heap hbk]; rfl
  have c1 : w1.cell? ⟨b, 1, none⟩ = some v := by rw [Lib.cell_of_heap hbk]; rfl
  go_wp2_with (at_builtin; refine Lib.wpList_append_own_stringF _ rfl _ _ 22 9 rfl B 5 i0 Tryd.underlying22 Tryd.underlying9 hi hz0 hz1 hz2 _ _ _ rfl hown s rfl ?c3 ?c4 ?c5 ?_)
  case c3 => unfold maxLen; omega
  case c4 => omega
  case c5 => have := hb1.size; omega
  intro v' w2 hown' hgrow _
  have hlt : b < w1.heap.size := (Array.getElem?_eq_some_iff.1 hbk).1
  have hb2 : w2.heap[b]? = some (.cells #[.pointer (some ⟨b, 0, none⟩), v] 60 (0, 0)) := by
    rw [hgrow.block b hlt (fun e => hne e.symm)]
    exact hbk
  have d0 : w2.cell? ⟨b, 0, none⟩ = some (.pointer (some ⟨b, 0, none⟩)) := by rw [Lib.cell_of_heap hb2]; rfl
  have d1 : w2.cell? ⟨b, 1, none⟩ = some v := by rw [Lib.cell_of_heap hb2]; rfl
  have f1 : w2.frozen? ⟨b, 1, none⟩ = false := Lib.frozen_of_heap hb2 1
  obtain ⟨ao, n', cap, rfl⟩ : ∃ ao n' cap, v' = .slice ao n' cap := by
    rcases hown'.2 with ⟨hv, _⟩ | ⟨g, cap, cur, fz, hv, _⟩
    · exact ⟨_, _, _, hv⟩
    · exact ⟨_, _, _, hv⟩
  go_wp2
  go_ret2
  refine ⟨rfl, ?_, ?_, (hk1.grown hgrow (Lib.ownsRowF_kind hown)).setCell ⟨b, 1, none⟩ rfl _⟩
  · exact Lib.BuilderAtF.put (T := 60) (e := 5) hB hb2 (bs' := bs ++ Lib.strCells s) (by simpa [Lib.strCells_length] using hown') (by decide)
  · exact (hb1.grown hgrow (by have := hb1.size; omega) (fun k hk => (hown.lt k hk).1)).setCell (p := ⟨b, 1, none⟩) hB _
end Go.Proofs.YthbibdpbfgoghaaDoor.Q
end

section
namespace Go.Proofs.YthbibdpbfgoghaaDoor.Q
open Go.Shelf
open Go.RowKit Go.Proofs.YthbibdpbfgoghaaDoor.Q Go.Proofs.YthbibdpbfgoghaaDoorW.PrintWords Go.Proofs.YthbibdpbfgoghaaDoorW.PrintLast Go.Proofs.YthbibdpbfgoghaaDoorW.PrintMore
set_option linter.unusedVariables false
set_option linter.unusedSimpArgs false
attribute [local go_sem] Oper.semAt_some
def encI (x : Int × Int) : Array Value := #[.int .i64 x.1, .int .i64 x.2]
def bwI (zs : List Int) (j : Nat) : Int × Int := ((zs.length : Int) - 1 - j, rd zs ((zs.length : Int) - 1 - j))
set_option maxRecDepth 100000 in
set_option maxHeartbeats 2000000 in
theorem backI1_in {α : Type} (pr : α → Int × Int) (f : Nat → α) (F : Fence) (n : Nat) (h7 : F.fn 52) (hro : F.round = none) (hn : 1 ≤ n) (l Bs : Nat) (w0 : World) (A : Option Addr) (cap : Nat) (zs : List Int) (hcap : zs.length ≤ cap) (hlen : zs.length ≤ 1152921504606846976)
    (hC : Kd.C (Kd.int .i64) w0 A zs.length zs) (hf : ∀ k, k < zs.length → pr (f k) = bwI zs k) (J Jx : List α → World → Prop)
    (hY : ∀ pre x W, J pre W → pre.length < zs.length → YieldAt F (n - 1) Tryd.prog l (encI (pr x)) W fun e W' =>
      (e = .returned (.bool true) ∧ J (pre ++ [x]) W' ∧ KpB w0.heap.size Bs W W') ∨ (e = .returned (.bool false) ∧ Jx (pre ++ [x]) W'))
    (W : World) (hB : Below w0.heap.size w0 W) (hBs : CellsAt W Bs 37 #[.slice A zs.length cap]) (h0 : J [] W) :
    CallsIn F n Tryd.prog 52 #[.func (.yield l) #[] #[], .pointer (some ⟨Bs, 0, none⟩)] W fun e W' => (∃ v, e = .returned v) ∧
      ((∃ ys, ys = upto f zs.length ∧ J ys W') ∨ (∃ pre, (∃ k, k ≤ zs.length ∧ pre = upto f k) ∧ Jx pre W')) := by
  refine callsIn_of_wp Tryd.func52 rfl h7 ?_ hro
  simp only [Tryd.ntmps52, List.size_toArray, List.length_cons, List.length_nil, Nat.reduceAdd, Nat.reduceSub, Array.replicate_succ, Array.replicate_zero, List.push_toArray, List.append_toArray, List.nil_append, List.cons_append]
  have e1 : wrap64 ((zs.length : Int) - 1) = (zs.length : Int) - 1 := by unfold wrap64; omega
  have hc0 : W.cell? ⟨Bs, 0, none⟩ = some (.slice A zs.length cap) := hBs.cell 0
  gi_wp2
  gi_loopw [3] (fun i wr => ∃ k : Nat, k ≤ zs.length ∧ i = .int .i64 ((zs.length : Int) - 1 - k) ∧ J (upto f k) wr ∧ KpB w0.heap.size Bs W wr)
    (fun i _ => (intOf i + 1).toNat)
  case atStart => exact ⟨0, Nat.zero_le _, by simp [*], h0, KpB.refl _ _ _⟩
  case round =>
    obtain ⟨k, hk, rfl, hJs, hnx⟩ := hrel
    have hbx : CellsAt wr Bs 37 #[.slice A zs.length cap] := hnx.2.trans hBs
    have hc1 : wr.cell? ⟨Bs, 0, none⟩ = some (.slice A zs.length cap) := hbx.cell 0
    have hCr := Kd.C_below hC (hB.trans hnx.1)
    by_cases hlt : k < zs.length
    · obtain ⟨fn, tmps, assign, body, hy, hR⟩ := hY _ (f k) wr hJs (by rw [upto_length]; exact hlt)
      rw [hf k hlt] at hy
      simp only [encI, bwI] at hy
      obtain ⟨i, hi⟩ : ∃ i : Int, (zs.length : Int) - 1 - k = i := ⟨_, rfl⟩
      rw [hi] at hy ⊢
      have p0 : 0 ≤ i := by omega
      have q0 : i < (zs.length : Int) := by omega
      obtain ⟨ad, eA, hx0⟩ := Kd.at_int hCr i p0 q0
      subst eA
      have p0' := eq_true p0
      have q0' := eq_true q0
      have d0 : decide (i < 0) = false := decide_eq_false (by omega)
      have d1 : decide (0 ≤ i) = true := decide_eq_true p0
      gi_wp2
      refine hR.mono ?_
      rintro e W3 (⟨rfl, hJ3, hk3⟩ | ⟨rfl, hJx3⟩)
      · have e2 : wrap64 (i - 1) = i - 1 := by unfold wrap64; omega
        gi_wp2
        go_roundw
        case rel => exact ⟨k + 1, by omega, by simp [*]; omega, by rw [upto_succ]; exact hJ3, hnx.trans hk3⟩
        case measure => simp [intOf, e2]; omega
      · gi_wp2
        refine bodyPost_ret (results_none rfl _ _ _) rfl ?_
        exact ⟨⟨_, rfl⟩, .inr ⟨_, ⟨k + 1, by omega, (upto_succ _ _).symm⟩, hJx3⟩⟩
    · obtain rfl : k = zs.length := by omega
      have d0 : decide (0 ≤ (zs.length : Int) - 1 - zs.length) = false := decide_eq_false (by omega)
      gi_wp2
      go_end0
      exact ⟨⟨_, rfl⟩, .inl ⟨_, rfl, hJs⟩⟩
set_option maxHeartbeats 1000000 in
theorem backI_in (F : Fence) (n : Nat) (h5 : F.fn 33) (hro : F.round = none) (a : Option Addr) (len cap : Nat) (w : World) :
    CallsIn F n Tryd.prog 33 #[.slice a len cap] w fun e w' => e = .returned (.func (.func 52) #[] #[.pointer (some ⟨w.heap.size, 0, none⟩)]) ∧ w' = w.alloc (.cells #[.slice a len cap] 37) := by
  refine callsIn_of_wp Tryd.func33 rfl h5 ?_ hro
  simp only [Tryd.ntmps33, List.size_toArray, List.length_cons, List.length_nil, Nat.reduceAdd, Nat.reduceSub, Array.replicate_succ, Array.replicate_zero, List.push_toArray, List.append_toArray, List.nil_append, List.cons_append]
  gi_wp2
  go_ret
  exact ⟨rfl, rfl⟩
theorem backI_stops {α : Type} (pr : α → Int × Int) (f : Nat → α) (F : Fence) (n : Nat) (h7 : F.fn 52) (hro : F.round = none) (hn : 1 ≤ n) (Bs : Nat) (w0 : World) (A : Option Addr) (cap : Nat) (zs : List Int) (hcap : zs.length ≤ cap) (hlen : zs.length ≤ 1152921504606846976)
    (hC : Kd.C (Kd.int .i64) w0 A zs.length zs) (hf : ∀ k, k < zs.length → pr (f k) = bwI zs k) (w : World) (hB : Below w0.heap.size w0 w) (hBs : CellsAt w Bs 37 #[.slice A zs.length cap]) :
    SeqStopsK F n Tryd.prog 52 #[.pointer (some ⟨Bs, 0, none⟩)] (fun x => encI (pr x)) (KpB w0.heap.size Bs) (fun ys => ys = upto f zs.length)
      (fun pre => ∃ k, k ≤ zs.length ∧ pre = upto f k) zs.length w := fun l J Jx W hW _ _ hY h0 =>
  backI1_in pr f F n h7 hro hn l Bs w0 A cap zs hcap hlen hC hf J Jx hY W (hB.trans (hW.mono hB.size)) (hBs.below hW hBs.lt) h0
theorem grownBy_of_below {W W' : World} (h : Below W.heap.size W W') : W.grownBy W' none := ⟨h.os, h.tape, h.output, h.size, fun k hk _ => h.block k hk⟩
theorem builder_below {T e : TypeId} {B b : Nat} {bs : List Value} {W W' : World} (h : Lib.IsBuilderF T e B b bs W) (hb : Below W.heap.size W W') : Lib.IsBuilderF T e B b bs W' := by
  have key : ∀ p, Lib.BuilderAtF T e B b p bs W → Lib.BuilderAtF T e B b p bs W' := fun p h => by
    obtain ⟨hB, v, hbk, hown, hne⟩ := id h
    refine ⟨hB, v, (hb.block b h.lt).trans hbk, hown.kept (grownBy_of_below hb) ?_, hne⟩
    by_cases hv : v.ownBlock = none
    · exact .inl hv
    · exact .inr hv
  exact h.imp (key _) (key _)
theorem keepsFrom_of_others {e : TypeId} {b n : Nat} {W W' : World} (hs : W.heap.size ≤ W'.heap.size) (h : Lib.OthersKept e (some b) W W') (hc : ∃ cs t fz, W.heap[b]? = some (.cells cs t fz)) : KeepsFrom n W W' :=
  ⟨hs, fun k o _ hk ho => h k o hk (fun e' => by cases e'; obtain ⟨cs, t, fz, hc⟩ := hc; rw [hk] at hc; cases hc; cases ho) (fun c fz e' => by subst e'; cases ho)⟩
theorem keepsFrom_of_below {n : Nat} {W W' : World} (h : Below W.heap.size W W') : KeepsFrom n W W' :=
  ⟨h.size, fun k o _ hk _ => (h.block k (Array.getElem?_eq_some_iff.1 hk).1).trans hk⟩
/-- A builder stays one while what is no cells turns. -/
theorem builder_own {β : Type} (T e : TypeId) (B b : Nat) (f : β → List Value) : Own (fun s W => Lib.IsBuilderF T e B b (f s) W) := fun s X Y row hs hg hr => by
  have key : ∀ p, Lib.BuilderAtF T e B b p (f s) X → Lib.BuilderAtF T e B b p (f s) Y := fun p h => by
    obtain ⟨hB, v, hbk, hown, hne⟩ := id h
    refine ⟨hB, v, (hg.block b h.lt (fun e' => ?_)).trans hbk, hown.kept hg ?_, hne⟩
    · obtain ⟨o, ho, hc⟩ := hr b e'.symm
      rw [hbk] at ho; cases ho; cases hc
    · by_cases hv : v.ownBlock = none
      · exact .inl hv
      · refine .inr fun e' => ?_
        obtain ⟨g, hgk⟩ := Option.ne_none_iff_exists'.1 hv
        obtain ⟨o, ho, hc⟩ := hr g (by rw [← e', hgk])
        obtain ⟨c, fz, hk⟩ := Lib.ownsRowF_kind hown g hgk
        rw [hk] at ho; cases ho; cases hc
  exact hs.imp (key _) (key _)
/-- A limb, and its place. -/
abbrev Limb := { x : Int × Int // 0 ≤ x.2 ∧ x.2 ≤ 9999 }
theorem rd_limb {zs : List Int} (hz : ∀ y ∈ zs, 0 ≤ y ∧ y ≤ 9999) (i : Int) : 0 ≤ rd zs i ∧ rd zs i ≤ 9999 := by
  unfold rd
  rw [List.getD_eq_getElem?_getD]
  cases h : zs[i.toNat]? with
  | none => simp
  | some y => exact hz y (List.mem_of_getElem? h)
def limbAt (zs : List Int) (hz : ∀ y ∈ zs, 0 ≤ y ∧ y ≤ 9999) (k : Nat) : Limb := ⟨bwI zs k, rd_limb hz _⟩
/-- A limb's figures: the top one as it is, any other four figures wide. -/
def piece (n : Int) (x : Int × Int) : List UInt8 := if x.1 < n - 1 then Lib.repeatL [48] (4 - (Lib.itoa x.2).length) ++ Lib.itoa x.2 else Lib.itoa x.2
theorem decDigits_len : ∀ (k u : Nat), u < 10 ^ (k + 1) → (Lib.decDigits u).length ≤ k + 1 := by
  intro k
  induction k with
  | zero => intro u h; rw [Lib.decDigits, dif_pos (by simpa using h)]; simp
  | succ k ih =>
    intro u h
    rw [Lib.decDigits]
    by_cases hu : u < 10
    · rw [dif_pos hu]; simp
    · rw [dif_neg hu, List.length_append]
      have := ih (u / 10) (by rw [Nat.pow_succ] at h; omega)
      simp only [List.length_cons, List.length_nil]
      omega
theorem itoa_len (x : Int) (h0 : 0 ≤ x) (h1 : x ≤ 9999) : (Lib.itoa x).length ≤ 4 := by
  unfold Lib.itoa
  rw [if_neg (by omega)]
  exact decDigits_len 3 x.toNat (by omega)
/-- Limbs as a text. -/
def textF (zs : List Int) : List UInt8 := if zs = [] then [48] else (upto (bwI zs) zs.length).flatMap (piece zs.length)
end Go.Proofs.YthbibdpbfgoghaaDoor.Q
end

section
namespace Go.Proofs
open Go.Shelf
def Tryd.lays169_ren : Go.Shelf.Ren := ⟨fun | 169 => 37 | n => n, fun | 70 => 58 | 9 => 9 | 0 => 0 | 72 => 60 | 37 => 22 | 127 => 85 | 3 => 3 | 5 => 5 | n => n, fun | n => n⟩
theorem Tryd.lays169 : Go.Proofs.Lays.n169 Tryd.prog Tryd.lays169_ren := {
  mixed := by kernel_rfl
  f169 := Tryd.func37.trans (congrArg some (by kernel_rfl))
  t0 := Tryd.underlying0
  a0 := Tryd.isAgg0
  z0 := Tryd.sizeOf0
  v0 := Tryd.zeroValue0
  t3 := Tryd.underlying3
  a3 := Tryd.isAgg3
  z3 := Tryd.sizeOf3
  v3 := Tryd.zeroValue3
  t9 := Tryd.underlying9
  a9 := Tryd.isAgg9
  z9 := Tryd.sizeOf9
  v9 := Tryd.zeroValue9
  t37 := Tryd.underlying22
  a37 := Tryd.isAgg22
  z37 := Tryd.sizeOf22
  v37 := Tryd.zeroValue22
  t70 := Tryd.underlying58
  a70 := Tryd.isAgg58
  z70 := Tryd.sizeOf58
  v70 := Tryd.zeroValue58
  t72 := Tryd.underlying60
  a72 := Tryd.isAgg60
  z72 := Tryd.sizeOf60
  v72 := Tryd.zeroValue60
  t127 := Tryd.underlying85
  a127 := Tryd.isAgg85
  z127 := Tryd.sizeOf85
  v127 := Tryd.zeroValue85 }
theorem Tryd.Builder_Extra_169 : Builder.Extra Tryd.prog Tryd.lays169_ren := {
  sizeBuilder := by kernel_rfl
  liesBuilder := by kernel_rfl
  t5 := Tryd.underlying5
  a5 := Tryd.isAgg5
  z5 := Tryd.sizeOf5
  v5 := Tryd.zeroValue5
  infoByte := by kernel_rfl
  cellsByte := by kernel_rfl
  sizeByte := by kernel_rfl
  neB5 := by decide }
open Go.RowKit in
/-- (*strings.Builder).String: "String returns the accumulated string.": WHATEVER THE BUILDER HOLDS; THE FORM '_k': OVER 'Lib.IsBuilderF' (a builder that 'String()' may have read), AND WITH THE FRAME THAT REACHES ABOVE THE BUILDER: 'Lib.OthersKept': every block that is not b and is no row of uint8's stands as it stood: the iterator of a range among them. (LAID: no walk: one application.) -/
theorem Tryd.Builder_String_any_k (B b : Nat) (l : List UInt8) (w : World) (h : Lib.IsBuilderF 60 5 B b (Lib.byteCells l) w) (hBw : B ≤ w.heap.size) :
    Calls Tryd.prog 37 #[.pointer (some ⟨b, 0, none⟩)] w fun e w' => e = .returned (.string ⟨l.toArray⟩) ∧ (Lib.IsBuilderF 60 5 B b (Lib.byteCells l) w' ∧ Below B w w' ∧ Lib.OthersKept 5 (some b) w w') := Any.Builder_String_any_k Tryd.lays169 Tryd.Builder_Extra_169 B b l w h hBw
def Tryd.lays172_ren : Go.Shelf.Ren := ⟨fun | 172 => 44 | 244 => 64 | 245 => 65 | 247 => 73 | 279 => 74 | 280 => 75 | 281 => 76 | 282 => 77 | 287 => 83 | 316 => 84 | 171 => 34 | 205 => 85 | 321 => 91 | 322 => 92 | 243 => 53 | 246 => 68 | 283 => 78 | 284 => 79 | 285 => 80 | 286 => 81 | 129 => 87 | 317 => 86 | 318 => 88 | 319 => 89 | 320 => 90 | 337 => 93 | 338 => 94 | n => n, fun | 9 => 9 | 3 => 3 | 75 => 67 | 76 => 68 | 4 => 4 | 5 => 5 | 167 => 97 | 37 => 22 | 0 => 0 | 85 => 98 | 2 => 2 | 168 => 100 | 53 => 92 | 175 => 109 | 46 => 80 | 210 => 113 | 127 => 85 | 145 => 122 | 143 => 120 | 21 => 21 | 171 => 103 | 173 => 106 | 212 => 116 | 51 => 89 | 20 => 20 | 213 => 117 | 232 => 124 | 233 => 125 | 80 => 38 | n => n, fun | 15 => 0 | 16 => 1 | 17 => 2 | 18 => 4 | 19 => 5 | n => n⟩
theorem Tryd.lays172 : Go.Proofs.Lays.n172 Tryd.prog Tryd.lays172_ren := {
  mixed := by kernel_rfl
  f129 := Tryd.func87.trans (congrArg some (by kernel_rfl))
  f171 := Tryd.func34.trans (congrArg some (by kernel_rfl))
  f172 := Tryd.func44.trans (congrArg some (by kernel_rfl))
  f205 := Tryd.func85.trans (congrArg some (by kernel_rfl))
  f243 := Tryd.func53.trans (congrArg some (by kernel_rfl))
  f244 := Tryd.func64.trans (congrArg some (by kernel_rfl))
  f245 := Tryd.func65.trans (congrArg some (by kernel_rfl))
  f246 := Tryd.func68.trans (congrArg some (by kernel_rfl))
  f247 := Tryd.func73.trans (congrArg some (by kernel_rfl))
  f279 := Tryd.func74.trans (congrArg some (by kernel_rfl))
  f280 := Tryd.func75.trans (congrArg some (by kernel_rfl))
  f281 := Tryd.func76.trans (congrArg some (by kernel_rfl))
  f282 := Tryd.func77.trans (congrArg some (by kernel_rfl))
  f283 := Tryd.func78.trans (congrArg some (by kernel_rfl))
  f284 := Tryd.func79.trans (congrArg some (by kernel_rfl))
  f285 := Tryd.func80.trans (congrArg some (by kernel_rfl))
  f286 := Tryd.func81.trans (congrArg some (by kernel_rfl))
  f287 := Tryd.func83.trans (congrArg some (by kernel_rfl))
  f316 := Tryd.func84.trans (congrArg some (by kernel_rfl))
  f317 := Tryd.func86.trans (congrArg some (by kernel_rfl))
  f318 := Tryd.func88.trans (congrArg some (by kernel_rfl))
  f319 := Tryd.func89.trans (congrArg some (by kernel_rfl))
  f320 := Tryd.func90.trans (congrArg some (by kernel_rfl))
  f321 := Tryd.func91.trans (congrArg some (by kernel_rfl))
  f322 := Tryd.func92.trans (congrArg some (by kernel_rfl))
  f337 := Tryd.func93.trans (congrArg some (by kernel_rfl))
  f338 := Tryd.func94.trans (congrArg some (by kernel_rfl))
  t0 := Tryd.underlying0
  a0 := Tryd.isAgg0
  z0 := Tryd.sizeOf0
  v0 := Tryd.zeroValue0
  t2 := Tryd.underlying2
  a2 := Tryd.isAgg2
  z2 := Tryd.sizeOf2
  v2 := Tryd.zeroValue2
  t3 := Tryd.underlying3
  a3 := Tryd.isAgg3
  z3 := Tryd.sizeOf3
  v3 := Tryd.zeroValue3
  t4 := Tryd.underlying4
  a4 := Tryd.isAgg4
  z4 := Tryd.sizeOf4
  v4 := Tryd.zeroValue4
  t5 := Tryd.underlying5
  a5 := Tryd.isAgg5
  z5 := Tryd.sizeOf5
  v5 := Tryd.zeroValue5
  t9 := Tryd.underlying9
  a9 := Tryd.isAgg9
  z9 := Tryd.sizeOf9
  v9 := Tryd.zeroValue9
  t20 := Tryd.underlying20
  a20 := Tryd.isAgg20
  z20 := Tryd.sizeOf20
  v20 := Tryd.zeroValue20
  t21 := Tryd.underlying21
  a21 := Tryd.isAgg21
  z21 := Tryd.sizeOf21
  v21 := Tryd.zeroValue21
  t37 := Tryd.underlying22
  a37 := Tryd.isAgg22
  z37 := Tryd.sizeOf22
  v37 := Tryd.zeroValue22
  t46 := Tryd.underlying80
  a46 := Tryd.isAgg80
  z46 := Tryd.sizeOf80
  v46 := Tryd.zeroValue80
  t51 := Tryd.underlying89
  a51 := Tryd.isAgg89
  z51 := Tryd.sizeOf89
  v51 := Tryd.zeroValue89
  t53 := Tryd.underlying92
  a53 := Tryd.isAgg92
  z53 := Tryd.sizeOf92
  v53 := Tryd.zeroValue92
  t75 := Tryd.underlying67
  a75 := Tryd.isAgg67
  z75 := Tryd.sizeOf67
  v75 := Tryd.zeroValue67
  t76 := Tryd.underlying68
  a76 := Tryd.isAgg68
  z76 := Tryd.sizeOf68
  v76 := Tryd.zeroValue68
  t85 := Tryd.underlying98
  a85 := Tryd.isAgg98
  z85 := Tryd.sizeOf98
  v85 := Tryd.zeroValue98
  t127 := Tryd.underlying85
  a127 := Tryd.isAgg85
  z127 := Tryd.sizeOf85
  v127 := Tryd.zeroValue85
  t143 := Tryd.underlying120
  a143 := Tryd.isAgg120
  z143 := Tryd.sizeOf120
  v143 := Tryd.zeroValue120
  t145 := Tryd.underlying122
  a145 := Tryd.isAgg122
  z145 := Tryd.sizeOf122
  v145 := Tryd.zeroValue122
  t167 := Tryd.underlying97
  a167 := Tryd.isAgg97
  z167 := Tryd.sizeOf97
  v167 := Tryd.zeroValue97
  t168 := Tryd.underlying100
  a168 := Tryd.isAgg100
  z168 := Tryd.sizeOf100
  v168 := Tryd.zeroValue100
  t171 := Tryd.underlying103
  a171 := Tryd.isAgg103
  z171 := Tryd.sizeOf103
  v171 := Tryd.zeroValue103
  t173 := Tryd.underlying106
  a173 := Tryd.isAgg106
  z173 := Tryd.sizeOf106
  v173 := Tryd.zeroValue106
  t175 := Tryd.underlying109
  a175 := Tryd.isAgg109
  z175 := Tryd.sizeOf109
  v175 := Tryd.zeroValue109
  t210 := Tryd.underlying113
  a210 := Tryd.isAgg113
  z210 := Tryd.sizeOf113
  v210 := Tryd.zeroValue113
  t212 := Tryd.underlying116
  a212 := Tryd.isAgg116
  z212 := Tryd.sizeOf116
  v212 := Tryd.zeroValue116
  t213 := Tryd.underlying117
  a213 := Tryd.isAgg117
  z213 := Tryd.sizeOf117
  t232 := Tryd.underlying124
  a232 := Tryd.isAgg124
  z232 := Tryd.sizeOf124
  v232 := Tryd.zeroValue124
  t233 := Tryd.underlying125
  a233 := Tryd.isAgg125
  z233 := Tryd.sizeOf125
  v233 := Tryd.zeroValue125
  g15 := by kernel_rfl
  g16 := by kernel_rfl
  g17 := by kernel_rfl
  g18 := by kernel_rfl
  g19 := by kernel_rfl }
open Go.RowKit in
/-- strconv.Atoi: "Atoi is equivalent to ParseInt(s, 10, 0), converted to type int.": AT A DECIMAL NUMERAL OF AT MOST 18 BYTES: its value, and a nil error. The world behind the call: the one new row that the library's '[]byte(s)' lays. (LAID: no walk: one application.) -/
theorem Tryd.strconv_Atoi (s : ByteArray) (n : Int) (hl : s.size ≤ 18) (h : Lib.atoi s.data.toList = some n) (w : World) :
    Calls Tryd.prog 44 #[.string s] w fun e w' => e = .returned (.tuple #[.int .i64 n, .nilIface]) ∧ ∃ t, w' = Lib.bytesWorld w 5 t := Any.strconv_Atoi Tryd.lays172 s n hl h w
def Tryd.laysM171_ren : Go.Shelf.Ren := ⟨fun | 171 => 34 | 243 => 53 | 246 => 68 | 283 => 78 | 284 => 79 | 285 => 80 | 286 => 81 | 129 => 87 | 317 => 86 | 318 => 88 | 319 => 89 | 320 => 90 | 337 => 93 | 338 => 94 | n => n, fun | 3 => 3 | 9 => 9 | 2 => 2 | 4 => 4 | 171 => 103 | 0 => 0 | 53 => 92 | 37 => 22 | 5 => 5 | 173 => 106 | 212 => 116 | 51 => 89 | 20 => 20 | 213 => 117 | 46 => 80 | 232 => 124 | 233 => 125 | n => n, fun | 17 => 2 | 18 => 4 | 19 => 5 | n => n⟩
theorem Tryd.laysM171 : Go.Proofs.LaysM.n171 Tryd.prog Tryd.laysM171_ren := {
  mixed := by kernel_rfl
  f129 := Tryd.func87.trans (congrArg some (by kernel_rfl))
  f171 := Tryd.func34.trans (congrArg some (by kernel_rfl))
  f243 := Tryd.func53.trans (congrArg some (by kernel_rfl))
  f246 := Tryd.func68.trans (congrArg some (by kernel_rfl))
  f283 := Tryd.func78.trans (congrArg some (by kernel_rfl))
  f284 := Tryd.func79.trans (congrArg some (by kernel_rfl))
  f285 := Tryd.func80.trans (congrArg some (by kernel_rfl))
  f286 := Tryd.func81.trans (congrArg some (by kernel_rfl))
  f317 := Tryd.func86.trans (congrArg some (by kernel_rfl))
  f318 := Tryd.func88.trans (congrArg some (by kernel_rfl))
  f319 := Tryd.func89.trans (congrArg some (by kernel_rfl))
  f320 := Tryd.func90.trans (congrArg some (by kernel_rfl))
  f337 := Tryd.func93.trans (congrArg some (by kernel_rfl))
  f338 := Tryd.func94.trans (congrArg some (by kernel_rfl))
  t0 := Tryd.underlying0
  a0 := Tryd.isAgg0
  z0 := Tryd.sizeOf0
  v0 := Tryd.zeroValue0
  t2 := Tryd.underlying2
  a2 := Tryd.isAgg2
  z2 := Tryd.sizeOf2
  v2 := Tryd.zeroValue2
  t3 := Tryd.underlying3
  a3 := Tryd.isAgg3
  z3 := Tryd.sizeOf3
  v3 := Tryd.zeroValue3
  t4 := Tryd.underlying4
  a4 := Tryd.isAgg4
  z4 := Tryd.sizeOf4
  v4 := Tryd.zeroValue4
  t5 := Tryd.underlying5
  a5 := Tryd.isAgg5
  z5 := Tryd.sizeOf5
  v5 := Tryd.zeroValue5
  t9 := Tryd.underlying9
  a9 := Tryd.isAgg9
  z9 := Tryd.sizeOf9
  v9 := Tryd.zeroValue9
  t20 := Tryd.underlying20
  a20 := Tryd.isAgg20
  z20 := Tryd.sizeOf20
  v20 := Tryd.zeroValue20
  t37 := Tryd.underlying22
  a37 := Tryd.isAgg22
  z37 := Tryd.sizeOf22
  v37 := Tryd.zeroValue22
  t46 := Tryd.underlying80
  a46 := Tryd.isAgg80
  z46 := Tryd.sizeOf80
  v46 := Tryd.zeroValue80
  t51 := Tryd.underlying89
  a51 := Tryd.isAgg89
  z51 := Tryd.sizeOf89
  v51 := Tryd.zeroValue89
  t53 := Tryd.underlying92
  a53 := Tryd.isAgg92
  z53 := Tryd.sizeOf92
  v53 := Tryd.zeroValue92
  t171 := Tryd.underlying103
  a171 := Tryd.isAgg103
  z171 := Tryd.sizeOf103
  v171 := Tryd.zeroValue103
  t173 := Tryd.underlying106
  a173 := Tryd.isAgg106
  z173 := Tryd.sizeOf106
  v173 := Tryd.zeroValue106
  t212 := Tryd.underlying116
  a212 := Tryd.isAgg116
  z212 := Tryd.sizeOf116
  v212 := Tryd.zeroValue116
  t213 := Tryd.underlying117
  a213 := Tryd.isAgg117
  z213 := Tryd.sizeOf117
  t232 := Tryd.underlying124
  a232 := Tryd.isAgg124
  z232 := Tryd.sizeOf124
  v232 := Tryd.zeroValue124
  t233 := Tryd.underlying125
  a233 := Tryd.isAgg125
  z233 := Tryd.sizeOf125
  v233 := Tryd.zeroValue125
  g17 := by kernel_rfl
  g18 := by kernel_rfl
  g19 := by kernel_rfl
  i0 := by kernel_rfl
  i2 := by kernel_rfl
  i3 := by kernel_rfl
  i4 := by kernel_rfl
  i5 := by kernel_rfl
  i9 := by kernel_rfl
  i20 := by kernel_rfl
  i37 := by kernel_rfl
  i46 := by kernel_rfl
  i51 := by kernel_rfl
  i53 := by kernel_rfl
  i171 := by kernel_rfl
  i173 := by kernel_rfl
  i212 := by kernel_rfl
  i232 := by kernel_rfl
  i233 := by kernel_rfl
  m17 := by kernel_rfl
  m18 := by kernel_rfl
  m19 := by kernel_rfl }
open Go.RowKit Go.Sort Go.Lib in
/-- strconv.Itoa: "Itoa is equivalent to FormatInt(int64(i), 10).": i's DECIMAL NUMERAL ('Lib.itoa': a '-' where i is negative, then the digits), FOR EVERY int. The world behind the call: the world before it, new blocks behind the heap (the library's 'var a [24]byte'), draws. (LAID: no walk: one application.) -/
theorem Tryd.strconv_Itoa (n : Int) (h0 : -9223372036854775808 ≤ n) (h1 : n ≤ 9223372036854775807) (w : World) (htab : Lib.TabIs Tryd.prog w "internal/strconv.uint64pow10" .u64 Lib.pow10Tab) :
    Calls Tryd.prog 34 #[.int .i64 n] w fun e w' => e = .returned (.string ⟨(Lib.itoa n).toArray⟩) ∧ ∃ k os, w' = grow (w.drewN k) os := Any.strconv_Itoa Tryd.laysM171 n h0 h1 w htab
def Tryd.lays105_ren : Go.Shelf.Ren := ⟨fun | 105 => 35 | 212 => 54 | 99 => 55 | 165 => 56 | 166 => 36 | 170 => 57 | 169 => 37 | 263 => 69 | 264 => 70 | 206 => 61 | 240 => 58 | 241 => 71 | 276 => 72 | 277 => 82 | n => n, fun | 9 => 9 | 3 => 3 | 4 => 4 | 20 => 20 | 0 => 0 | 46 => 80 | 109 => 81 | 5 => 5 | 72 => 60 | 76 => 68 | 51 => 89 | 146 => 90 | 53 => 92 | 148 => 93 | 70 => 58 | 37 => 22 | 75 => 67 | 127 => 85 | 164 => 95 | 80 => 38 | n => n, fun | n => n⟩
theorem Tryd.lays105 : Go.Proofs.Lays.n105 Tryd.prog Tryd.lays105_ren := {
  mixed := by kernel_rfl
  f99 := Tryd.func55.trans (congrArg some (by kernel_rfl))
  f105 := Tryd.func35.trans (congrArg some (by kernel_rfl))
  f165 := Tryd.func56.trans (congrArg some (by kernel_rfl))
  f166 := Tryd.func36.trans (congrArg some (by kernel_rfl))
  f169 := Tryd.func37.trans (congrArg some (by kernel_rfl))
  f170 := Tryd.func57.trans (congrArg some (by kernel_rfl))
  f206 := Tryd.func61.trans (congrArg some (by kernel_rfl))
  f212 := Tryd.func54.trans (congrArg some (by kernel_rfl))
  f240 := Tryd.func58.trans (congrArg some (by kernel_rfl))
  f241 := Tryd.func71.trans (congrArg some (by kernel_rfl))
  f263 := Tryd.func69.trans (congrArg some (by kernel_rfl))
  f264 := Tryd.func70.trans (congrArg some (by kernel_rfl))
  f276 := Tryd.func72.trans (congrArg some (by kernel_rfl))
  f277 := Tryd.func82.trans (congrArg some (by kernel_rfl))
  t0 := Tryd.underlying0
  a0 := Tryd.isAgg0
  z0 := Tryd.sizeOf0
  v0 := Tryd.zeroValue0
  t3 := Tryd.underlying3
  a3 := Tryd.isAgg3
  z3 := Tryd.sizeOf3
  v3 := Tryd.zeroValue3
  t4 := Tryd.underlying4
  a4 := Tryd.isAgg4
  z4 := Tryd.sizeOf4
  v4 := Tryd.zeroValue4
  t5 := Tryd.underlying5
  a5 := Tryd.isAgg5
  z5 := Tryd.sizeOf5
  v5 := Tryd.zeroValue5
  t9 := Tryd.underlying9
  a9 := Tryd.isAgg9
  z9 := Tryd.sizeOf9
  v9 := Tryd.zeroValue9
  t20 := Tryd.underlying20
  a20 := Tryd.isAgg20
  z20 := Tryd.sizeOf20
  v20 := Tryd.zeroValue20
  t37 := Tryd.underlying22
  a37 := Tryd.isAgg22
  z37 := Tryd.sizeOf22
  v37 := Tryd.zeroValue22
  t46 := Tryd.underlying80
  a46 := Tryd.isAgg80
  z46 := Tryd.sizeOf80
  v46 := Tryd.zeroValue80
  t51 := Tryd.underlying89
  a51 := Tryd.isAgg89
  z51 := Tryd.sizeOf89
  v51 := Tryd.zeroValue89
  t53 := Tryd.underlying92
  a53 := Tryd.isAgg92
  z53 := Tryd.sizeOf92
  v53 := Tryd.zeroValue92
  t70 := Tryd.underlying58
  a70 := Tryd.isAgg58
  z70 := Tryd.sizeOf58
  v70 := Tryd.zeroValue58
  t72 := Tryd.underlying60
  a72 := Tryd.isAgg60
  z72 := Tryd.sizeOf60
  v72 := Tryd.zeroValue60
  t75 := Tryd.underlying67
  a75 := Tryd.isAgg67
  z75 := Tryd.sizeOf67
  v75 := Tryd.zeroValue67
  t76 := Tryd.underlying68
  a76 := Tryd.isAgg68
  z76 := Tryd.sizeOf68
  v76 := Tryd.zeroValue68
  t109 := Tryd.underlying81
  a109 := Tryd.isAgg81
  z109 := Tryd.sizeOf81
  v109 := Tryd.zeroValue81
  t127 := Tryd.underlying85
  a127 := Tryd.isAgg85
  z127 := Tryd.sizeOf85
  v127 := Tryd.zeroValue85
  t146 := Tryd.underlying90
  a146 := Tryd.isAgg90
  z146 := Tryd.sizeOf90
  v146 := Tryd.zeroValue90
  t148 := Tryd.underlying93
  a148 := Tryd.isAgg93
  z148 := Tryd.sizeOf93
  v148 := Tryd.zeroValue93
  t164 := Tryd.underlying95
  a164 := Tryd.isAgg95
  z164 := Tryd.sizeOf95
  v164 := Tryd.zeroValue95 }
theorem Tryd.Builder_Extra_105 : Builder.Extra Tryd.prog Tryd.lays105_ren := {
  sizeBuilder := by kernel_rfl
  liesBuilder := by kernel_rfl
  t5 := Tryd.underlying5
  a5 := Tryd.isAgg5
  z5 := Tryd.sizeOf5
  v5 := Tryd.zeroValue5
  infoByte := by kernel_rfl
  cellsByte := by kernel_rfl
  sizeByte := by kernel_rfl
  neB5 := by decide }
open Go.RowKit Go.Lib in
/-- **strings.Repeat: count ≥ 0, the result within one allocation: count copies of s.** (LAID: no walk: one application.) -/
theorem Tryd.strings_Repeat (s : ByteArray) (c : Nat) (w : World) (hc : c ≤ 9223372036854775807) (hlen : s.size * c ≤ 140737488355328) :
    Calls Tryd.prog 35 #[.string s, .int .i64 c] w fun e w' => e = .returned (.string ⟨(Lib.repeatL s.data.toList c).toArray⟩) ∧ Below w.heap.size w w' := Any.strings_Repeat Tryd.lays105 Tryd.Builder_Extra_105 s c w hc hlen
end Go.Proofs
end

section
namespace Go.Proofs.YthbibdpbfgoghaaDoor.Q
open Go.RowKit Go.Proofs.YthbibdpbfgoghaaDoor.Q Go.Proofs.YthbibdpbfgoghaaDoorW.PrintWords Go.Proofs.YthbibdpbfgoghaaDoorW.PrintLast Go.Proofs.YthbibdpbfgoghaaDoorW.PrintMore
set_option linter.unusedVariables false
set_option linter.unusedSimpArgs false
/-- The table that strconv reads is laid. -/
def Laid (w : World) : Prop := Lib.TabIs Tryd.prog w "internal/strconv.uint64pow10" .u64 Lib.pow10Tab
theorem gPow : ∃ g, Tryd.prog.globalNamed "internal/strconv.uint64pow10" = some g := Option.isSome_iff_exists.1 (by kernel_rfl)
theorem laid_below {w W : World} (h : Laid w) (hb : Below w.heap.size w W) : Laid W := by
  obtain ⟨g, hg⟩ := gPow
  unfold Laid Lib.TabIs World.var? at h ⊢
  simp only [hg, Option.bind_some] at h ⊢
  have hlt : g < w.heap.size := by
    rcases Nat.lt_or_ge g w.heap.size with h' | h'
    · exact h'
    · simp [Array.getElem?_eq_none h'] at h
  rw [hb.block g hlt]
  exact h
end Go.Proofs.YthbibdpbfgoghaaDoor.Q
end

section
namespace Go.Proofs.YthbibdpbfgoghaaDoor.Q
open Go.Shelf
open Go.RowKit Go.Proofs.YthbibdpbfgoghaaDoor.Q Go.Proofs.YthbibdpbfgoghaaDoorW.PrintWords Go.Proofs.YthbibdpbfgoghaaDoorW.PrintLast Go.Proofs.YthbibdpbfgoghaaDoorW.PrintMore
set_option linter.unusedVariables false
set_option linter.unusedSimpArgs false
attribute [local go_sem] Oper.semAt_some
theorem piece_len (m : Int) (x : Limb) : (piece m x.1).length ≤ 4 := by
  have := itoa_len x.1.2 x.2.1 x.2.2
  unfold piece
  split
  · rw [List.length_append, Lib.repeatL_length]; simp only [List.length_cons, List.length_nil]; omega
  · exact this
theorem pieces_len (m : Int) : ∀ pre : List Limb, (pre.flatMap fun x => piece m x.1).length ≤ 4 * pre.length
  | [] => by simp
  | x :: pre => by
    have h1 := piece_len m x
    have h2 := pieces_len m pre
    rw [List.flatMap_cons, List.length_append, List.length_cons]
    omega
theorem text_round {w W wm w3 : World} {n B0 : Nat} {m : Int} {cs : Array Value} {pre : List Limb} {x : Limb} {s : ByteArray} (hn : n = w.heap.size)
    (tB : Lib.IsBuilderF 60 5 w.heap.size (w.heap.size + 1) (Lib.byteCells (pre.flatMap fun x => piece m x.1)) W) (t1 : CellsAt W w.heap.size 37 cs) (t0 : CellsAt W (w.heap.size + 1 + 1) 37 cs) (tb : Below w.heap.size w W) (hb : Below W.heap.size W wm)
    (hB3 : Lib.BuilderAtF 60 5 w.heap.size (w.heap.size + 1) (.pointer (some ⟨w.heap.size + 1, 0, none⟩)) (Lib.byteCells (pre.flatMap fun x => piece m x.1) ++ Lib.strCells s) w3) (hb3 : Below w.heap.size wm w3) (hk3 : Lib.OthersKept 5 (some (w.heap.size + 1)) wm w3) (hs : s.data.toList = piece m x.1) :
    KeepsFrom B0 W w3 ∧ KpB w.heap.size (w.heap.size + 1 + 1) W w3 ∧ ((Lib.IsBuilderF 60 5 w.heap.size (w.heap.size + 1) (Lib.byteCells ((pre ++ [x]).flatMap fun x => piece m x.1)) w3 ∧ CellsAt w3 w.heap.size 37 cs) ∧ CellsAt w3 (w.heap.size + 1 + 1) 37 cs) ∧ Below w.heap.size w w3 := by
  have tBm := builder_below tB hb
  have hcell : ∃ cs t fz, wm.heap[w.heap.size + 1]? = some (.cells cs t fz) := by
    obtain h | h := tBm <;> (obtain ⟨_, v, hbk, _⟩ := h; exact ⟨_, _, _, hbk⟩)
  have hno : ∀ c fz, (Obj.cells cs 37 (0, 0)) ≠ .cells c 5 fz := fun c fz e => by injection e with _ e2 _; exact absurd e2 (by decide)
  have k1 : CellsAt w3 w.heap.size 37 cs := hk3 _ _ (t1.below hb t1.lt) (by simp) hno
  have k0 : CellsAt w3 (w.heap.size + 1 + 1) 37 cs := hk3 _ _ (t0.below hb t0.lt) (by simp) hno
  have hbW : Below w.heap.size W wm := hb.mono tb.size
  refine ⟨(keepsFrom_of_below hb).trans (keepsFrom_of_others hb3.size hk3 hcell), ⟨hbW.trans hb3, k0.trans t0.symm⟩, ⟨⟨.inr ?_, k1⟩, k0⟩, (tb.trans hbW).trans hb3⟩
  rw [List.flatMap_append, List.flatMap_singleton, Lib.byteCells_append, ← hs]
  exact hB3
set_option maxRecDepth 100000 in
set_option maxHeartbeats 4000000 in
theorem impl_text.calls (A0 : Option Addr) (c0 : Nat) (l0 : List Int) (w : World) (hlaid : Laid w) (hr0 : Kd.C (Kd.int .i64) w A0 l0.length l0) (hc0 : l0.length ≤ c0) (hz : ∀ y ∈ l0, 0 ≤ y ∧ y ≤ 9999) (hlen : l0.length ≤ 1000000) :
    Calls Tryd.prog 14 #[.slice A0 l0.length c0] w fun e w' => e = .returned (.string ⟨(textF l0).toArray⟩) ∧ Below w.heap.size w w' := by
  have HR0 := Aside0.mk hr0
  have HC0 := Aside0.mk hc0
  have HL := Aside0.mk hlen
  clear hr0 hc0 hlen
  by_cases hnil : l0 = []
  · subst hnil
    refine (callsIn_wide (n := 9)).1 ?_
    refine callsIn_of_wp_marks Tryd.func14 rfl trivial ?_ rfl
    simp only [Tryd.ntmps14, List.size_toArray, List.length_cons, List.length_nil, Nat.reduceAdd, Nat.reduceSub, Array.replicate_succ, Array.replicate_zero, List.push_toArray, List.append_toArray, List.nil_append, List.cons_append]
    gi_wp2
    exact ⟨_, results_tmp rfl _ _ _, rfl, (Below.refl _ w).alloc (Nat.le_refl _) _⟩
  · have hn : (l0.length : Int) ≠ 0 := by have := List.length_pos_iff.2 hnil; omega
    have hn1 : ((l0.length : Int) == 0) = false := beq_eq_false_iff_ne.mpr hn
    refine (callsIn_wide (n := 9)).1 ?_
    refine callsIn_of_wp_marks Tryd.func14 rfl trivial ?_ rfl
    simp only [Tryd.ntmps14, List.size_toArray, List.length_cons, List.length_nil, Nat.reduceAdd, Nat.reduceSub, Array.replicate_succ, Array.replicate_zero, List.push_toArray, List.append_toArray, List.nil_append, List.cons_append]
    gi_wp2_with (refine ⟨trivial, ?_⟩; gi_at_call 33; refine (backI_in Fence.wide _ trivial rfl _ _ _ _).mono ?_; rintro e w6 ⟨rfl, hw6⟩)
    have e0 : ((upto (limbAt l0 hz) l0.length).flatMap fun x => piece l0.length x.1) = textF l0 := by
      unfold textF upto
      rw [if_neg hnil, List.flatMap_map, List.flatMap_map]
      rfl
    obtain ⟨W0, hW0⟩ : ∃ W0, ((w.alloc (.cells #[.slice A0 l0.length c0] 37)).alloc (.cells #[.pointer none, .slice none 0 0] 60)).alloc (.cells #[.slice A0 l0.length c0] 37) = W0 := ⟨_, rfl⟩
    have s1 : CellsAt W0 w.heap.size 37 #[.slice A0 l0.length c0] := by rw [← hW0]; exact ((CellsAt.new w _ _).alloc _).alloc _
    have s0 : CellsAt W0 (w.heap.size + 1 + 1) 37 #[.slice A0 l0.length c0] := by rw [← hW0]; have := CellsAt.new ((w.alloc (.cells #[.slice A0 l0.length c0] 37)).alloc (.cells #[.pointer none, .slice none 0 0] 60)) 37 #[.slice A0 l0.length c0]; rwa [World.size_alloc, World.size_alloc] at this
    have sB : Lib.IsBuilderF 60 5 w.heap.size (w.heap.size + 1) (Lib.byteCells []) W0 := by
      have h : CellsAt W0 (w.heap.size + 1) 60 #[.pointer none, .slice none 0 0] := by rw [← hW0]; have := (CellsAt.new (w.alloc (.cells #[.slice A0 l0.length c0] 37)) 60 #[.pointer none, .slice none 0 0]).alloc (.cells #[.slice A0 l0.length c0] 37); rwa [World.size_alloc] at this
      exact .inl ⟨by omega, .slice none 0 0, h, World.ownsRowF_nil _ _ _ _, by simp [Value.ownBlock]⟩
    have hsz : W0.heap.size = w.heap.size + 1 + 1 + 1 := by rw [← hW0]; simp
    have hBW0 : Below w.heap.size w W0 := by rw [← hW0]; exact (((Below.refl _ w).alloc (Nat.le_refl _) _).alloc (by simp) _).alloc (by simp; omega) _
    rw [hW0]
    clear hW0 hw6
    refine wpIn_rangeFunc_ownH rfl (by decide) (gf := 52) (lb := #[.pointer (some ⟨w.heap.size + 1 + 1, 0, none⟩)]) rfl trivial (enters_of Tryd.func52 (by kernel_rfl) rfl)
      (backI_stops (fun x : Limb => x.1) (limbAt l0 hz) Fence.wide _ trivial rfl (by decide) (w.heap.size + 1 + 1) w A0 c0 l0 HC0.out (by have := HL.out; omega) HR0.out (fun _ _ => rfl) W0 hBW0 s0) KpB.trans (kpB_b (by omega) (by omega)) (Below.refl _ _) (fun _ => rfl)
      (fun pre W => ((Lib.IsBuilderF 60 5 w.heap.size (w.heap.size + 1) (Lib.byteCells (pre.flatMap fun x => piece l0.length x.1)) W ∧ CellsAt W w.heap.size 37 #[.slice A0 l0.length c0]) ∧ CellsAt W (w.heap.size + 1 + 1) 37 #[.slice A0 l0.length c0]) ∧ Below w.heap.size w W)
      (fun _ _ _ => False)
      (OwnFrom.and (OwnFrom.and (OwnFrom.and (Own.from (builder_own _ _ _ _ _) _) (Own.from (cellsAt_own _ _ _) _)) (Own.from (cellsAt_own _ _ _) _)) (ownFrom_below (Nat.le_refl _) (by omega)))
      (fun _ _ _ _ _ hs _ _ => hs)
      ⟨⟨⟨sB, s1⟩, s0⟩, hBW0⟩
      (fun x a' _ => a' = { tmps := #[.slice A0 l0.length c0, .pointer (some ⟨w.heap.size, 0, none⟩), .string ⟨#[]⟩, .pointer (some ⟨w.heap.size + 1, 0, none⟩), .int .i64 x.1.1, .int .i64 x.1.2, undef, .slice A0 l0.length c0, .int .i64 l0.length, .bool false, .slice A0 l0.length c0, .func (.func 52) #[] #[.pointer (some ⟨w.heap.size + 1 + 1, 0, none⟩)], .int .i64 x.1.1, .int .i64 x.1.2, undef, undef, undef, undef, undef, undef, undef, undef, undef, undef, undef, undef, undef, undef, undef, undef], defers := [] })
      (fun _ _ _ _ _ _ hs _ _ => hs)
      ?assign ?body ?done ?stop
    case assign =>
      rintro l pre x W K hI hK
      simp only [encI]
      gi_wp2
      exact hK _ _ (KeepsFrom.refl _ _) (KpB.refl _ _ _) hI rfl
    case body =>
      rintro l pre x a' W hl ⟨r, hr⟩ ⟨⟨⟨tB, t1⟩, t0⟩, tb⟩ rfl hlt
      have hx0 := x.2.1
      have hx1 := x.2.2
      have u1 : W.cell? ⟨w.heap.size, 0, none⟩ = some (.slice A0 l0.length c0) := t1.cell 0
      have hl4 := itoa_len x.1.2 hx0 hx1
      gi_wp2
      refine ⟨trivial, ?_⟩
      refine (CallsIn.inRound l (callsIn_wide.2 (Tryd.strconv_Itoa x.1.2 (by omega) (by omega) W (laid_below hlaid tb)))).mono ?_
      rintro e w1 ⟨rfl, k1, os1, hw1⟩
      have hb1 : Below W.heap.size W w1 := by rw [hw1]; exact Go.Lib.below_grow _ _ (Nat.le_refl _) _ _
      have u1' : w1.cell? ⟨w.heap.size, 0, none⟩ = some (.slice A0 l0.length c0) := (t1.below hb1 t1.lt).cell 0
      have ew : wrap64 ((l0.length : Int) - 1) = (l0.length : Int) - 1 := by have := HL.out; unfold wrap64; omega
      clear hw1
      by_cases hlt2 : x.1.1 < (l0.length : Int) - 1
      · have hd : decide (x.1.1 < (l0.length : Int) - 1) = true := decide_eq_true hlt2
        gi_wp2
        refine ⟨trivial, ?_⟩
        have hc : (4 - ((Lib.itoa x.1.2).length : Int)) = ((4 - (Lib.itoa x.1.2).length : Nat) : Int) := by omega
        rw [hc]
        refine (CallsIn.inRound l (callsIn_wide.2 (Tryd.strings_Repeat ⟨#[48]⟩ (4 - (Lib.itoa x.1.2).length) w1 (by omega) (by show 1 * _ ≤ _; omega)))).mono ?_
        rintro e w2 ⟨rfl, hb2⟩
        have hrl := Lib.repeatL_length [48] (4 - (Lib.itoa x.1.2).length)
        have hov : (9223372036854775807 < (Lib.repeatL [48] (4 - (Lib.itoa x.1.2).length)).length + (Lib.itoa x.1.2).length) = False := eq_false (by rw [hrl]; simp only [List.length_cons, List.length_nil]; omega)
        gi_wp2
        refine ⟨trivial, ?_⟩
        refine (CallsIn.inRound l (callsIn_wide.2 (bld_WriteString w.heap.size (w.heap.size + 1) _ _ w2 (builder_below (builder_below tB hb1) hb2) (by rw [Lib.byteCells_length]; have := pieces_len l0.length pre; have := HL.out; rw [ByteArray.size_append]; have e1 : (⟨(Lib.repeatL [48] (4 - (Lib.itoa x.1.2).length)).toArray⟩ : ByteArray).size = (Lib.repeatL [48] (4 - (Lib.itoa x.1.2).length)).length := rfl; have e2 : (⟨(Lib.itoa x.1.2).toArray⟩ : ByteArray).size = (Lib.itoa x.1.2).length := rfl; rw [e1, e2, hrl]; simp only [List.length_cons, List.length_nil]; omega) (by have := tb.size; have := hb1.size; have := hb2.size; omega)))).mono ?_
        rintro e w3 ⟨rfl, hB3, hb3, hk3⟩
        gi_wp2
        exact text_round rfl tB t1 t0 tb (hb1.trans (hb2.mono hb1.size)) hB3 hb3 hk3 (by unfold piece; rw [if_pos hlt2]; simp)
      · have hd : decide (x.1.1 < (l0.length : Int) - 1) = false := decide_eq_false hlt2
        gi_wp2
        refine ⟨trivial, ?_⟩
        refine (CallsIn.inRound l (callsIn_wide.2 (bld_WriteString w.heap.size (w.heap.size + 1) _ _ w1 (builder_below tB hb1) (by rw [Lib.byteCells_length]; have := pieces_len l0.length pre; have := HL.out; have e2 : (⟨(Lib.itoa x.1.2).toArray⟩ : ByteArray).size = (Lib.itoa x.1.2).length := rfl; rw [e2]; omega) (by have := tb.size; have := hb1.size; omega)))).mono ?_
        rintro e w3 ⟨rfl, hB3, hb3, hk3⟩
        gi_wp2
        exact text_round rfl tB t1 t0 tb hb1 hB3 hb3 hk3 (by unfold piece; rw [if_neg (by omega)])
    case done =>
      rintro D ys W hD rfl ⟨⟨⟨tB, t1⟩, t0⟩, tb⟩ hK
      gi_wp2_with (refine ⟨trivial, ?_⟩; gi_at_call 37; refine (callsIn_wide.2 (Tryd.Builder_String_any_k w.heap.size (w.heap.size + 1) _ _ tB (by have := tb.size; omega))).mono ?_; rintro e w7 ⟨rfl, hb7, hb8, hok⟩)
      have hK7 := hok D _ hK (fun e' => by cases e'; obtain h | h := tB <;> (obtain ⟨_, v, hbk, _⟩ := h; rw [hK] at hbk; cases hbk)) (fun _ _ h => by cases h)
      refine ⟨by simp, .inl ⟨_, _, rfl, run_takeDeferred hK7, ?_⟩⟩
      refine ⟨_, results_tmp rfl _ _ _, ?_, (tb.trans hb8).trans (belowK_b (w := w) (Nat.le_refl _) w7 D _ _ (by omega) hK7 rfl rfl)⟩
      rw [← e0]
      rfl
    case stop =>
      rintro D c pre W _ _ h _
      exact h.elim
end Go.Proofs.YthbibdpbfgoghaaDoor.Q
end

section
/-! Rf: what the contracts of the library say is what the run takes them to say. -/
set_option autoImplicit false
namespace Go.Proofs.YthbibdpbfgoghaaDoor.R
open Go.Rf Go.RowKit
theorem ans_below {sp : Go.Rf.Spec} {out : sp.Out} {w w' : World} {Z : Nat → Prop} {args rvs : List Value} (hZ : ∀ b, Z b → b < w.heap.size) (hb : Below w.heap.size w w') (hr : ShsRep w' Z sp.rs out.1 rvs []) (hp : PostRep w w' Z sp.ps out.2 args []) :
    AnsS sp out w Z args [] (.returned (tupV rvs)) w' :=
  ⟨rvs, Z, [], [], rfl, hr, hp, by simp, (fun b hb => by cases hb), (fun b hb => hb), fun b hz => ⟨Nat.lt_of_lt_of_le (hZ b hz) hb.size, .inl hz⟩, ⟨hb.os, hb.tape, hb.output, hb.size, fun b hlt _ => hb.block b hlt, fun b o ho _ => (hb.block b (Array.getElem?_eq_some_iff.1 ho).1).trans ho⟩⟩
/-- two arguments of one cell each -/
theorem two_args {w : World} {Z : Nat → Prop} {s t : T} {x : s.D} {y : t.D} {args : List Value} {fp : List Nat} (h : ShsRep w Z [.c (.v s), .c (.v t)] (x, y, ()) args fp) : ∃ u v, args = [u, v] ∧ fp = [] ∧ rep w Z s x [u] ∧ rep w Z t y [v] := by
  match args, h with
  | [v1, v2], ⟨f, g, hfp, ⟨hv, hf⟩, ⟨f2, g2, hg2, ⟨hv2, hf2⟩, hg⟩⟩ =>
    obtain rfl : f = [] := hf
    obtain rfl : f2 = [] := hf2
    obtain rfl : g2 = [] := hg
    obtain rfl : g = [] := hg2
    obtain rfl : fp = [] := hfp
    exact ⟨v1, v2, rfl, rfl, hv, hv2⟩
theorem one_arg {w : World} {Z : Nat → Prop} {s : T} {x : s.D} {args : List Value} {fp : List Nat} (h : ShsRep w Z [.c (.v s)] (x, ()) args fp) : ∃ u, args = [u] ∧ fp = [] ∧ rep w Z s x [u] := by
  match args, h with
  | [v1], ⟨f, g, hfp, ⟨hv, hf⟩, hg⟩ =>
    obtain rfl : f = [] := hf
    obtain rfl : g = [] := hg
    obtain rfl : fp = [] := hfp
    exact ⟨v1, rfl, rfl, hv⟩
theorem str_arg {w : World} {Z : Nat → Prop} {s : ByteArray} {v : Value} (h : rep w Z .str s [v]) : v = .string s := (List.cons.inj (show [v] = [Value.string s] from h)).1
theorem int_arg {w : World} {Z : Nat → Prop} {k : IntKind} {n : Int} {v : Value} (h : rep w Z (.int k) n [v]) : v = .int k n := (List.cons.inj (show [v] = [Value.int k n] from h)).1
theorem post_two {w w' : World} {Z : Nat → Prop} {s t : T} {u v : Value} : PostRep w w' Z [.c (.v s), .c (.v t)] ((), (), ()) [u, v] [] := ⟨[], [], rfl, rfl, ⟨[], [], rfl, rfl, rfl⟩⟩
theorem post_one {w w' : World} {Z : Nat → Prop} {s : T} {u : Value} : PostRep w w' Z [.c (.v s)] ((), ()) [u] [] := ⟨[], [], rfl, rfl, rfl⟩
section
open Go.Proofs.YthbibdpbfgoghaaDoor.Q Go.Proofs.YthbibdpbfgoghaaDoorW.PrintWords
theorem text_parts (zs : List Int) : ∀ m, m ≤ zs.length → ((Q.upto (Q.bwI zs) m).flatMap (Q.piece (zs.length : Int))) = figs (zs.drop (zs.length - m)) := by
  intro m
  induction m with
  | zero =>
    intro _
    rw [Nat.sub_zero, List.drop_length]
    rfl
  | succ m ih =>
    intro hm
    obtain ⟨j, hj⟩ : ∃ j, j = zs.length - (m + 1) := ⟨_, rfl⟩
    have hj1 : zs.length - m = j + 1 := by omega
    have hjl : j < zs.length := by omega
    have e1 : Q.upto (Q.bwI zs) (m + 1) = Q.upto (Q.bwI zs) m ++ [Q.bwI zs m] := by
      unfold Q.upto
      rw [List.range_succ, List.map_append]
      rfl
    have e2 : Q.bwI zs m = ((j : Int), zs.getD j 0) := by
      unfold Q.bwI
      have : (zs.length : Int) - 1 - (m : Int) = (j : Int) := by omega
      rw [this]
      rfl
    rw [e1, List.flatMap_append, ih (by omega), List.flatMap_singleton, e2, hj1, ← hj]
    unfold Q.piece
    by_cases h : j + 1 < zs.length
    · rw [if_pos (show ((j : Int), zs.getD j 0).1 < (zs.length : Int) - 1 by show (j : Int) < _; omega), figs_drop h]
      rfl
    · have hl : zs.length = j + 1 := by omega
      rw [if_neg (show ¬ ((j : Int), zs.getD j 0).1 < (zs.length : Int) - 1 by show ¬ (j : Int) < _; omega), figs_last hl, List.drop_eq_nil_of_le (by omega)]
      rfl
theorem textF_eq (l : List Int) : (⟨(Q.textF l).toArray⟩ : ByteArray) = textL l := by
  unfold Q.textF
  cases l with
  | nil => rfl
  | cons d l =>
    rw [if_neg (by simp)]
    have := text_parts (d :: l) (d :: l).length (Nat.le_refl _)
    rw [Nat.sub_self, List.drop_zero] at this
    exact congrArg (fun x : List UInt8 => (⟨x.toArray⟩ : ByteArray)) this
theorem reps_ints {w : World} {Z : Nat → Prop} : ∀ {l : List Int} {vs : List Value}, reps (rep w Z (.int .i64)) l vs → vs = l.map (Value.int .i64)
  | [], vs, h => h
  | x :: l, vs, h => by
    obtain ⟨c, d, rfl, h1, h2⟩ := h
    rw [reps_ints h2, show c = [.int .i64 x] from h1]
    rfl
theorem reads_of {w : World} {Z : Nat → Prop} {l : List Int} {v : Value} (h : rep w Z (.sl (.int .i64)) l [v]) (hl : l.length ≤ 1000000) : ∃ A c, v = .slice A l.length c ∧ l.length ≤ c ∧ Kd.C (Kd.int .i64) w A l.length l := by
  obtain ⟨A, c, vs, h1, h2, h3, h4⟩ := h
  obtain rfl := reps_ints h3
  refine ⟨A, c, (List.cons.inj h1).1, h2, rfl, by omega, fun h0 => ?_⟩
  have at' : ∀ j p, l[j]? = some p → ∃ a : Addr, A = some a ∧ w.cell? (a.add j) = some (.int .i64 p) := fun j p hp => by
    obtain ⟨a, ha, _, _, hc⟩ := h4 j (.int .i64 p) (by rw [List.getElem?_map, hp]; rfl)
    exact ⟨a, ha, hc⟩
  obtain ⟨a, ha, _⟩ := at' 0 l[0] (List.getElem?_eq_getElem h0)
  refine ⟨a, ha, fun j p hp => ⟨[.int .i64 p], rfl, rfl, fun i u hu => ?_⟩⟩
  obtain ⟨a', ha', hc⟩ := at' j p hp
  obtain rfl := Option.some.inj (ha.symm.trans ha')
  cases i with
  | zero =>
    obtain rfl := Option.some.inj hu
    have : j * 1 + 0 = j := by omega
    show w.cell? (a.add (j * 1 + 0)) = _
    rw [this]
    exact hc
  | succ i => simp at hu
end
theorem gPow : Tryd.prog.globalNamed "internal/strconv.uint64pow10" = some powG := by kernel_rfl
theorem laid_of {w : World} {Z : Nat → Prop} (h : GL cx w Z) : Q.Laid w := by
  obtain ⟨_, cs, t, fz, hh, rfl⟩ := h.2 powG (fun cs => cs = powCells) (by show objsR powG = _; unfold objsR; simp)
  unfold Q.Laid Lib.TabIs World.var?
  rw [gPow, Option.bind_some, hh]
  rfl
theorem text_contract (inp : (cx.spec 14).In) (out : (cx.spec 14).Out) (h : textR inp = some out) : Contract cx 14 inp out := by
  obtain ⟨l, _⟩ := inp
  unfold textR at h
  split at h
  · rename_i hok
    obtain rfl := Option.some.inj h
    unfold limbsOk at hok
    simp only [Bool.and_eq_true, List.all_eq_true, decide_eq_true_eq] at hok
    intro w Z args fp hrep _ _ hZ hGL
    match args, hrep with
    | [v], ⟨f, g, hfp, ⟨hv, hf⟩, hg⟩ =>
      obtain rfl : f = [] := hf
      obtain rfl : g = [] := hg
      obtain rfl : fp = [] := hfp
      obtain ⟨A, c, rfl, hc, hK⟩ := reads_of hv hok.2
      refine (Q.impl_text.calls A c l w (laid_of hGL) hK hc hok.1 hok.2).mono ?_
      rintro e w' ⟨rfl, hb⟩
      rw [textF_eq]
      refine ⟨[.string (textL l)], Z, [], [], rfl, ⟨[], [], rfl, ⟨rfl, rfl⟩, rfl⟩, ⟨[], [], rfl, rfl, rfl⟩, by simp, (fun b hb => by cases hb), (fun b hb => hb), fun b hz => ⟨Nat.lt_of_lt_of_le (hZ b hz) hb.size, .inl hz⟩, ⟨hb.os, hb.tape, hb.output, hb.size, fun b hlt _ => hb.block b hlt, fun b o ho _ => (hb.block b (Array.getElem?_eq_some_iff.1 ho).1).trans ho⟩⟩
  · cases h
theorem atoi_contract (inp : (cx.spec 44).In) (out : (cx.spec 44).Out) (h : atoiR inp = some out) : Contract cx 44 inp out := by
  obtain ⟨s, u⟩ := inp
  unfold atoiR at h
  dsimp only at h
  split at h
  · rename_i n hn
    obtain ⟨h1, h2⟩ := Go.Rf.cond_some h
    obtain rfl := Option.some.inj h2
    intro w Z args fp hrep _ _ hZ hGL
    obtain ⟨v, rfl, rfl, hv⟩ := one_arg hrep
    obtain rfl := str_arg hv
    refine (Tryd.strconv_Atoi s n (Nat.le_of_ble_eq_true h1) hn w).mono ?_
    rintro e w' ⟨rfl, t, rfl⟩
    exact ans_below (rvs := [.int .i64 n, .nilIface]) hZ (Lib.bytesWorld_below w _ t) ⟨[], [], rfl, ⟨rfl, rfl⟩, ⟨[], [], rfl, ⟨.inl ⟨rfl, rfl⟩, rfl⟩, rfl⟩⟩ post_one
  · cases h
theorem told (k f : Nat) (inp : (cx.spec f).In) (out : (cx.spec f).Out) (h : callF cx k f inp = some out) : Go.Rf.Contract cx f inp out := (Go.Rf.run_ok good (fun f g inp out h h2 => by
  have h : extR f = some g := h
  by_cases e14 : f = 14
  · subst e14
    obtain rfl := Option.some.inj h
    exact text_contract inp out h2
  by_cases e44 : f = 44
  · subst e44
    obtain rfl := Option.some.inj h
    exact atoi_contract inp out h2
  · exfalso
    unfold extR at h
    split at h
    · exact e14 rfl
    · exact e44 rfl
    · cases h) k).1 f inp out h
end Go.Proofs.YthbibdpbfgoghaaDoor.R
end

section
/-! Rf: the row of a law, out of its pure statement. -/
set_option autoImplicit false
namespace Go.Proofs.YthbibdpbfgoghaaDoor.fnBigPut
open Go.Rf Go.Proofs.YthbibdpbfgoghaaDoor.R Go.ChangeShapes Go.WideShapes Go.ChangeAt Go.RowKit
set_option linter.unusedVariables false
theorem walk (P : PureFnBigPut) (w : World) (hGL : GL cx w (Here w)) (v0 : Value) (y0 : (vSh ⟨false, [.sl (.int .u8)], [], 24⟩).D) (v1 : Value) (y1 : (vSh ⟨false, [.sl (.int .u8)], [], 24⟩).D) (h0 : ShRep w (Here w) (vSh ⟨false, [.sl (.int .u8)], [], 24⟩) y0 v0 []) (w0 : shWf (vSh ⟨false, [.sl (.int .u8)], [], 24⟩) y0) (h1 : ShRep w (Here w) (vSh ⟨false, [.sl (.int .u8)], [], 24⟩) y1 v1 []) (w1 : shWf (vSh ⟨false, [.sl (.int .u8)], [], 24⟩) y1) :
    Calls Tryd.prog 3 #[v0, v1] w fun e w' => e = .returned (.bool true) ∧ Below w.heap.size w w' := by
  obtain ⟨k, p, h⟩ := P y0 y1 w0 w1
  have h' : callF cx k 3 (y0, y1, ()) = some ((true, ()), p) := h
  have hr : ShsRep w (Here w) (cx.spec 3).ps (y0, y1, ()) [v0, v1] [] := ⟨[], [], rfl, h0, ⟨[], [], rfl, h1, rfl⟩⟩
  exact law_calls (told k 3 _ _ h') hr hGL (fun w' Z vs fp h => res_bool h)
theorem own : ownKnob Tryd.prog.godebug = none := by kernel_rfl
theorem laidOut : laidOutB Tryd.prog = true := by kernel_rfl
/-- what the row lists -/
def laidL : List (String × DataW Unit) := [("math/bits.deBruijn32tab", Rows.laid_math_bits_deBruijn32tab), ("math/bits.deBruijn64tab", Rows.laid_math_bits_deBruijn64tab), ("internal/strconv.uint64pow10", Rows.laid_internal_strconv_uint64pow10), ("strconv.ErrRange", Rows.laid_strconv_ErrRange), ("strconv.ErrSyntax", Rows.laid_strconv_ErrSyntax)]
theorem pow_data : (Rows.laid_internal_strconv_uint64pow10 : DataW Unit) = Lib.tabData .u64 Lib.pow10Tab := by kernel_rfl
theorem gl_of {W : World} (h : laidMetH Tryd.prog laidL W) : GL cx W (Here W) := by
  unfold laidL at h
  rw [MakeChecks.laidMetH_plain _ _ _ (by kernel_rfl), pow_data] at h
  have ht := Lib.tabIs_of_head (n := 20) (t := 116) (e := 92) gPow (by kernel_rfl) (by kernel_rfl) (by kernel_rfl) (by kernel_rfl) (by kernel_rfl) (laidMet.tail (laidMet.tail h))
  unfold Lib.TabIs World.var? at ht
  rw [gPow, Option.bind_some] at ht
  refine ⟨(fun _ _ h => by cases h), fun g p hg => ?_⟩
  have hg : objsR g = some p := hg
  unfold objsR at hg
  split at hg
  · rename_i e
    subst e
    obtain rfl := Option.some.inj hg
    split at ht
    · rename_i cs t fz hh
      obtain rfl := Option.some.inj ht
      exact ⟨(Array.getElem?_eq_some_iff.1 hh).1, _, _, _, hh, rfl⟩
    · cases ht
  · cases hg
noncomputable def door (os : Os) : World := World.doorLaid Tryd.prog 400 os
theorem door_met (os : Os) (args : Array Value) : laidMetH Tryd.prog laidL ((door os).forCall (fun _ _ => 0) ⟨#[], args, []⟩).memory :=
  laidMetH_of_parts3 (fuel := 8) (laidMet_of_run' 8 (by kernel_rfl) (by kernel_rfl)) (by kernel_rfl) (by kernel_rfl)
set_option maxRecDepth 100000 in
theorem lifted (P : PureFnBigPut) (os : Os) (started : os.Started) (H : Type) (enc : TypeId × Value → H) :
    ReturnsInHanded {} Tryd.checked os 3 .any (fun w args => (Rows.fnBigPutSpec.pre enc Tryd.prog Tryd.f3 [] false w args ∧ laidMetH Tryd.prog laidL w) ∧ sizedMet enc Tryd.prog Tryd.f3 (OpenSpec.ofChange Rows.fnBigPutSpec) false w args)
      (Rows.fnBigPutSpec.post enc Tryd.prog Tryd.f3 false true false false) := by
  refine returnsInHanded_of_change_and (C := Tryd.checked) (X := fun w _ => laidMetH Tryd.prog laidL w) (fun _ _ _ hh h => h.of_heap hh) own started (by kernel_rfl) Tryd.func3
    (ChangeSpec.witness_shaped (enc := enc) (C := Tryd.checked) (os := os) (X := fun w _ => laidMetH Tryd.prog laidL w) false (door os) #[.slice none 0 0, .slice none 0 0] 12 rfl (World.shaped_of_RefB (by kernel_rfl) (by kernel_rfl)) (by kernel_rfl) (by kernel_rfl) (by kernel_rfl) (door_met os _)) ?_
  intro W base args ds gs before hval0 hW _ _ hL _
  have hGL := gl_of hL
  have hval : ∀ (j : Nat) t v, Tryd.f3.params[j]? = some t → args[j]? = some v → Value.okWide Tryd.prog W .any base t v := hval0
  have hW' := hW
  obtain ⟨p, q, hA0, hV, rfl, hfz, hnd⟩ := hW
  have hA : DataW.TrodAll enc Tryd.prog W 0 (fun _ => true) true Tryd.f3.params.toList args.toList ds p := hA0
  rw [Tryd.params3] at hA hval
  obtain ⟨v0, vs0, d0, ds0, p0, q0, hargs, rfl, rfl, h0, r0⟩ := trodAll_cons hA
  obtain ⟨v1, vs1, d1, ds1, p1, q1, rfl, rfl, rfl, h1, r1⟩ := trodAll_cons r0
  obtain ⟨rfl, rfl, rfl⟩ := trodAll_nil r1
  obtain rfl : args = #[v0, v1] := by cases args; simp_all
  obtain ⟨rfl, rfl⟩ := trodVars_none hV
  have k0 := h0
  have lt0 : ∀ x ∈ p0, x.block < W.heap.size := by obtain ⟨m, hm⟩ := k0; exact DataW.trod_lt m _ _ _ hm
  obtain ⟨y0, hy0, w0⟩ := opnArg_ok (tab := tabs.ty) (P := Tryd.prog) (t := 22) (i := ⟨false, [.sl (.int .u8)], [], 24⟩) (by kernel_rfl) (hval 0 22 v0 rfl rfl) h0
  have k1 := h1
  have lt1 : ∀ x ∈ p1, x.block < W.heap.size := by obtain ⟨m, hm⟩ := k1; exact DataW.trod_lt m _ _ _ hm
  obtain ⟨y1, hy1, w1⟩ := opnArg_ok (tab := tabs.ty) (P := Tryd.prog) (t := 22) (i := ⟨false, [.sl (.int .u8)], [], 24⟩) (by kernel_rfl) (hval 1 22 v1 rfl rfl) h1
  clear hA0 hval0
  refine (walk P W hGL v0 y0 v1 y1 hy0 w0 hy1 w1).mono fun e W' ⟨he, bel⟩ => ?_
  subst he
  exact ⟨_, rfl, _, _, _, [], _, [], hW', trodAll_mk1 (shut_bool Tryd.underlying4 _), (trodAll_cons_mk (Below.trod laidOut (by kernel_rfl) (of_decide_eq_true (by kernel_rfl)) k0 bel lt0) (trodAll_cons_mk (Below.trod laidOut (by kernel_rfl) (of_decide_eq_true (by kernel_rfl)) k1 bel lt1) trodAll_mk0)), rfl, bel.frame _, fun h => by cases h⟩
theorem over (P : PureFnBigPut) : Rows.fnBigPutRow.holds Tryd.pinned (OpenSpec.ofChange Rows.fnBigPutSpec) :=
  OpenClaim.holds_of_wide 3 Tryd.f3 rfl rfl rfl rfl rfl rfl rfl ⟨rfl, rfl, rfl, rfl, rfl⟩ rfl rfl rfl rfl rfl (by kernel_rfl) Tryd.func3 (by kernel_rfl)
    (of_decide_eq_true (by kernel_rfl)) (by unfold Func.isWrapper; first | (rw [if_pos (by decide +kernel)]; kernel_rfl) | (rw [if_neg (by decide +kernel)]; exact ⟨rfl, rfl⟩))
    (fun os started H enc _ => lifted P os started H enc)
/-- THE TIED CARD. -/
theorem card (P : PureFnBigPut) : Rows.FnBigPutCardSaid :=
  Claim7.holds_tied_plain_at .later [] [.data, .data, .data, .sentinel, .sentinel] true (true, "02e507e1ddd2d289ade3eccd15a962c315ebb3644bb080b125bed02b8f69c948") true
    (over P) (fun _ h => by cases h) (by kernel_rfl) (fun _ h => by cases h) fnBigPut_row_tie rfl ⟨rfl, rfl⟩ (by kernel_rfl) rfl
    (fun f fn hf hfn => by
      obtain rfl : f = 3 := Option.some.inj ((show Tryd.prog.funcNamed "loop.example/jetton/laws.FnBigPut" = some 3 by kernel_rfl).symm.trans hf) |>.symm
      obtain rfl : fn = Tryd.f3 := (Option.some.inj (Tryd.func3.symm.trans hfn)).symm
      exact ⟨by kernel_rfl, fun j t ht => by
        rw [Tryd.params3] at ht
        have hm : t ∈ [22, 22] := by simpa using Array.mem_of_getElem? ht
        have hall : ([22, 22].all fun u => !Tryd.prog.wantsStandIn u) = true := by kernel_rfl
        exact (show Tryd.prog.wantsStandIn t = false by simpa using List.all_eq_true.1 hall t hm)⟩)
    (by kernel_rfl)
end Go.Proofs.YthbibdpbfgoghaaDoor.fnBigPut
end

section
/-! Rf, limbs: noughts at the end; which is greater. -/
set_option autoImplicit false
namespace Go.Proofs.YthbibdpbfgoghaaDoor.R
open Go.Rf

theorem trimL : ∀ (n : Nat) (l : List Int), l.length = n → n ≤ 1000000 → InR l → Ev (fun k => F42c1 k l) ((digs (VI l).toNat, ()), ((), ())) := by
  intro n
  induction n with
  | zero =>
    intro l hl _ _
    obtain rfl := List.eq_nil_of_length_eq_zero hl
    refine Ev.step 1 (fun k => F42c1_eq k _) ?_
    simp only [List.length_nil, Int.ofNat_zero, gt_iff_lt, Int.lt_irrefl, decide_false, Bool.false_eq_true, if_false, VI, Int.toNat_zero, digs_zero]
    exact Ev.now _
  | succ n ih =>
    intro l hl hn hr
    have hlt : n < l.length := by omega
    refine Ev.step 1 (fun k => F42c1_eq k _) ?_
    simp only [gt_true (show 0 < l.length by omega), pred_len hl (by omega), ge0, if_true, Int.toNat_natCast, getI_of hlt, Option.bind_some, le_true (show n ≤ l.length by omega), Bool.and_self, slices0]
    cases h0 : (l.getD n 0 == 0) with
    | true =>
      have h0 : l.getD n 0 = 0 := by simpa using h0
      have hv : VI (l.take n) = VI l := VI_take_zero (fun i h1 h2 => by
        have : i = n := by omega
        rw [this, h0])
      have := ih (l.take n) (by rw [List.length_take]; omega) (by omega) (hr.take n)
      rw [hv] at this
      simpa only [if_true] using this
    | false =>
      have h0 : l.getD n 0 ≠ 0 := by simpa using h0
      rw [digs_VI hr (.inr (by rw [hl]; exact h0))]
      simp only [Bool.false_eq_true, if_false]
      exact Ev.now _
theorem trim_ev {l : List Int} (hr : InR l) (hl : l.length ≤ 1000000) : Ev (fun k => F42 k l) ((digs (VI l).toNat, ()), ((), ())) := Ev.step 2 (fun k => F42_eq k l) (trimL l.length l rfl hl hr)
theorem l1Trim_ev {l : List Int} (hr : InR l) (hl : l.length ≤ 1000000) : Ev (fun k => F67 k l) ((digs (VI l).toNat, ()), ((), ())) := by
  have key : ∀ n, n ≤ l.length → (∀ i, n ≤ i → i < l.length → l.getD i 0 = 0) → Ev (fun k => F67c2 k l (n : Int)) ((digs (VI l).toNat, ()), ((), ())) := by
    intro n
    induction n with
    | zero =>
      intro _ h0
      have hs := trim_upto (Nat.zero_le _) h0 (.inl rfl) hr
      refine Ev.step 1 (fun k => F67c2_eq k _ _) ?_
      have hc : decide (([] : List Int).length + (digs (VI l).toNat).length ≤ 17592186044416) = true := by rw [← hs]; simp
      have h1 : decide (((0 : Nat) : Int) > 0) = false := by decide
      simp only [h1, ge0, le_true (Nat.zero_le l.length), Bool.and_self, Bool.false_eq_true, if_false, if_true, Int.toNat_natCast, slices0, hc, List.nil_append, hs]
      exact Ev.now _
    | succ n ih =>
      intro hn h0
      have hlt : n < l.length := by omega
      have h1 : decide (((n + 1 : Nat) : Int) > 0) = true := decide_eq_true (by omega)
      have h2 : IntKind.i64.wrap (((n + 1 : Nat) : Int) - 1) = (n : Int) := by rw [wrap64 (by omega) (by omega)]; omega
      refine Ev.step 1 (fun k => F67c2_eq k _ _) ?_
      simp only [h1, h2, ge0, if_true, Int.toNat_natCast, getI_of hlt, Option.bind_some]
      cases hz : (l.getD n 0 == 0) with
      | true =>
        simp only [if_true]
        refine ih (by omega) fun i h3 h4 => ?_
        rcases Nat.eq_or_lt_of_le h3 with rfl | h5
        · simpa using hz
        · exact h0 i h5 h4
      | false =>
        have hz : l.getD n 0 ≠ 0 := by simpa using hz
        have hs := trim_upto hn h0 (.inr (by simpa using hz)) hr
        have hc : decide (([] : List Int).length + (digs (VI l).toNat).length ≤ 17592186044416) = true := by rw [← hs]; simp; omega
        simp only [Bool.false_eq_true, if_false, le_true hn, Bool.and_self, if_true, slices0, hc, List.nil_append, hs]
        exact Ev.now _
  exact Ev.step 2 (fun k => F67_eq k l) (key l.length (Nat.le_refl _) (fun i h1 h2 => by omega))
theorem digs_len_le {n : Nat} {m : Nat} (h : n < 10000 ^ m) : (digs n).length ≤ m := by
  induction m generalizing n with
  | zero =>
    have : n = 0 := by simp at h; omega
    rw [this, digs_zero]
    simp
  | succ m ih =>
    by_cases h0 : n = 0
    · rw [h0, digs_zero]
      simp
    · rw [digs_pos h0, List.length_cons]
      have := ih (n := n / 10000) (by rw [Nat.pow_succ] at h; omega)
      omega
section
variable {a b : List Int} {A B : Nat}
theorem clamp_neg {D : Int} (h : D < 0) : (if (if D < 1 then D else 1) > -1 then (if D < 1 then D else 1) else -1) = -1 := by
  rw [if_pos (show D < 1 by omega), if_neg (by omega)]
theorem clamp_pos {D : Int} (h : 0 < D) : (if (if D < 1 then D else 1) > -1 then (if D < 1 then D else 1) else -1) = 1 := by
  rw [if_neg (show ¬ D < 1 by omega), if_pos (by omega)]
theorem cmp_ev (ha : InR a) (hb : InR b) (ta : Trim a) (tb : Trim b) (hA : VI a = (A : Int)) (hB : VI b = (B : Int)) (la : a.length ≤ 1000000) (lb : b.length ≤ 1000000) : Ev (fun k => F46 k a b) ((cmpI A B, ()), ((), (), ())) := by
  refine Ev.step 2 (fun k => F46_eq k a b) ?_
  by_cases hl : a.length = b.length
  · have h0 : ((a.length : Int) != (b.length : Int)) = false := by simp [hl]
    simp only [h0, Bool.false_eq_true, if_false]
    have key : ∀ m, m ≤ a.length → (∀ j, m ≤ j → j < a.length → a.getD j 0 = b.getD j 0) → Ev (fun k => F46c4 k a b ((m : Int) - 1)) ((cmpI A B, ()), ((), (), ())) := by
      intro m
      induction m with
      | zero =>
        intro _ h
        have := ext_getD hl (fun j hj => h j (by omega) hj)
        have hAB : A = B := by rw [this, hB] at hA; omega
        rw [hAB, cmpI_eq]
        exact Ev.step 1 (fun k => F46c4_eq k _ _ _) (Ev.now _)
      | succ m ih =>
        intro hm h
        have e : ((m + 1 : Nat) : Int) - 1 = (m : Int) := by omega
        have hma : m < a.length := by omega
        have hmb : m < b.length := by omega
        have hge : decide ((m : Int) ≥ 0) = true := by simp
        have r1 := ha.at hma
        have r2 := hb.at hmb
        rw [e]
        refine Ev.step 1 (fun k => F46c4_eq k _ _ _) ?_
        simp only [hge, if_true, Int.toNat_natCast, getI_of hma, getI_of hmb, Option.bind_some]
        rcases Int.lt_trichotomy (a.getD m 0) (b.getD m 0) with hlt | heq | hgt
        · have := VI_first_lt hl hma (fun j h1 h2 => h j h1 h2) hlt ha hb
          have hne : (a.getD m 0 != b.getD m 0) = true := bne_iff_ne.2 (by omega)
          rw [cmpI_lt (by omega), wrap64 (n := a.getD m 0 - b.getD m 0) (by omega) (by omega)]
          simp only [hne, if_true, clamp_neg (show a.getD m 0 - b.getD m 0 < 0 by omega)]
          exact Ev.now _
        · have hne : (a.getD m 0 != b.getD m 0) = false := by rw [heq, bne_self_eq_false]
          simp only [hne, Bool.false_eq_true, if_false]
          rw [wrap64 (by omega) (by omega)]
          refine ih (by omega) fun j h1 h2 => ?_
          rcases Nat.eq_or_lt_of_le h1 with rfl | h3
          · exact heq
          · exact h j h3 h2
        · have := VI_first_lt hl.symm hmb (fun j h1 h2 => (h j h1 (by omega)).symm) hgt hb ha
          have hne : (a.getD m 0 != b.getD m 0) = true := bne_iff_ne.2 (by omega)
          rw [cmpI_gt (by omega), wrap64 (n := a.getD m 0 - b.getD m 0) (by omega) (by omega)]
          simp only [hne, if_true, clamp_pos (show 0 < a.getD m 0 - b.getD m 0 by omega)]
          exact Ev.now _
    rw [wrap64 (by omega) (by omega)]
    exact key a.length (Nat.le_refl _) (fun j h1 h2 => by omega)
  · have h0 : ((a.length : Int) != (b.length : Int)) = true := by simp; omega
    simp only [h0, if_true]
    rw [wrap64 (n := (a.length : Int) - b.length) (by omega) (by omega)]
    rcases Nat.lt_or_ge a.length b.length with h1 | h1
    · have := VI_len_lt ha hb tb h1
      rw [cmpI_lt (by omega), clamp_neg (by omega)]
      exact Ev.now _
    · have := VI_len_lt hb ha ta (by omega)
      rw [cmpI_gt (by omega), clamp_pos (by omega)]
      exact Ev.now _
end
end Go.Proofs.YthbibdpbfgoghaaDoor.R
end

section
/-! Rf, limbs: sums and differences. -/
set_option autoImplicit false
namespace Go.Proofs.YthbibdpbfgoghaaDoor.R
open Go.Rf
section
variable {a b : List Int} {A B : Nat}
/-- the carry runs up -/
theorem addC {M : Nat} (hM : M ≤ 200001) {S : Int} : ∀ (m i : Nat) (x : List Int), i + m = M → x.length = M + 1 → VI x = S → (∀ j, j < i → 0 ≤ x.getD j 0 ∧ x.getD j 0 ≤ 9999) → (∀ j, i < j → j < M → 0 ≤ x.getD j 0 ∧ x.getD j 0 ≤ 19998) →
    (0 ≤ x.getD i 0 ∧ x.getD i 0 ≤ 19999) → (i < M → x.getD M 0 = 0) → (i = M → x.getD M 0 ≤ 1) → Ev (fun k => F45c9 k x (M : Int) (i : Int)) ((digs S.toNat, ()), ((), (), ())) := by
  intro m
  induction m with
  | zero =>
    intro i x hi hx hS h1 h2 h3 h4 h5
    have hiM : i = M := by omega
    subst hiM
    refine Ev.step 1 (fun k => F45c9_eq k _ _ _) ?_
    simp only [lt_false (Nat.le_refl i), Bool.false_eq_true, if_false]
    have hr : InR x := InR.of fun j hj => by
      rcases Nat.eq_or_lt_of_le (show j ≤ i by omega) with rfl | h6
      · have := h5 rfl
        omega
      · exact h1 j h6
    have := trim_ev hr (by omega)
    rw [hS] at this
    exact Ev.bind this (Ev.now _)
  | succ m ih =>
    intro i x hi hx hS h1 h2 h3 h4 _
    have hiM : i < M := by omega
    have l0 : i < x.length := by omega
    have l1 : i + 1 < x.length := by omega
    have r1 : 0 ≤ x.getD (i + 1) 0 ∧ x.getD (i + 1) 0 ≤ 19998 := by
      rcases Nat.eq_or_lt_of_le (show i + 1 ≤ M by omega) with h6 | h6
      · rw [h6, h4 hiM]
        omega
      · exact h2 (i + 1) (by omega) h6
    have hq : 0 ≤ x.getD i 0 / 10000 ∧ x.getD i 0 / 10000 ≤ 1 := by omega
    have hset : i < (x.set (i + 1) (x.getD (i + 1) 0 + x.getD i 0 / 10000)).length := by rw [List.length_set]; omega
    have hget : (x.set (i + 1) (x.getD (i + 1) 0 + x.getD i 0 / 10000)).getD i 0 = x.getD i 0 := by rw [getI_set l1, if_neg (by omega)]
    have hS' : VI ((x.set (i + 1) (x.getD (i + 1) 0 + x.getD i 0 / 10000)).set i (x.getD i 0 % 10000)) = S := by
      rw [VI_carry l1 rfl (by omega), hS]
    have hgets : ∀ j, ((x.set (i + 1) (x.getD (i + 1) 0 + x.getD i 0 / 10000)).set i (x.getD i 0 % 10000)).getD j 0 = if j = i then x.getD i 0 % 10000 else if j = i + 1 then x.getD (i + 1) 0 + x.getD i 0 / 10000 else x.getD j 0 := fun j => getI_set2 l1
    refine Ev.step 1 (fun k => F45c9_eq k _ _ _) ?_
    have w1 : IntKind.i64.wrap (x.getD i 0 / 10000) = x.getD i 0 / 10000 := wrap64 (by omega) (by omega)
    have w2 : IntKind.i64.wrap (x.getD (i + 1) 0 + x.getD i 0 / 10000) = x.getD (i + 1) 0 + x.getD i 0 / 10000 := wrap64 (by omega) (by omega)
    simp only [lt_true hiM, wrap_succ (show i < 9223372036854775807 by omega), ge0, lt_true l1, lt_true l0, Bool.and_self, if_true, Int.toNat_natCast, getI_of l1, getI_of l0, Option.bind_some, tdiv_pos h3.1, w1, w2, lt_true hset, getI_of hset, hget, tmod_pos h3.1]
    refine ih (i + 1) _ (by omega) (by simpa using hx) hS' (fun j hj => ?_) (fun j hj hj2 => ?_) ?_ (fun hj => ?_) (fun hj => ?_)
    · rw [hgets]
      split
      · omega
      · rw [if_neg (by omega)]
        exact h1 j (by omega)
    · rw [hgets, if_neg (by omega), if_neg (by omega)]
      exact h2 j (by omega) hj2
    · rw [hgets, if_neg (by omega), if_pos rfl]
      omega
    · rw [hgets, if_neg (by omega), if_neg (by omega)]
      exact h4 hiM
    · rw [hgets, if_neg (by omega), if_pos hj.symm]
      have : x.getD (i + 1) 0 = 0 := by rw [hj]; exact h4 hiM
      omega
theorem add_ev (ha : InR a) (hb : InR b) (la : a.length ≤ 100000) (lb : b.length ≤ 100000) : Ev (fun k => F45 k a b) ((digs (VI a + VI b).toNat, ()), ((), (), ())) := by
  obtain ⟨M, hM⟩ : ∃ M, M = max a.length b.length := ⟨_, rfl⟩
  have h1 : (if (b.length : Int) > (a.length : Int) then (b.length : Int) else (a.length : Int)) = (M : Int) := by
    split <;> omega
  have h2 : IntKind.i64.wrap ((M : Int) + 1) = ((M + 1 : Nat) : Int) := wrap_succ (by omega)
  have hc : decide (((M + 1 : Nat) : Int) ≤ (17592186044416 : Int)) = true := decide_eq_true (by omega)
  have hinit : a.take (List.replicate (M + 1) (0 : Int)).length ++ (List.replicate (M + 1) (0 : Int)).drop a.length = a ++ List.replicate (M + 1 - a.length) 0 := by
    rw [List.length_replicate, List.take_of_length_le (by omega), List.drop_replicate]
  refine Ev.step 2 (fun k => F45_eq k a b) ?_
  simp only [h1, h2, ge0, le_true (Nat.le_refl (M + 1)), hc, Bool.and_self, if_true, Int.toNat_natCast, hinit]
  have key : ∀ (m i : Nat) (x : List Int), i + m = b.length → x.length = M + 1 → VI x = VI a + VI (b.take i) → (∀ j, j < i → 0 ≤ x.getD j 0 ∧ x.getD j 0 ≤ 19998) → (∀ j, i ≤ j → j < M → 0 ≤ x.getD j 0 ∧ x.getD j 0 ≤ 9999) → x.getD M 0 = 0 →
      Ev (fun k => F45c4 k x b (b.length : Int) (i : Int)) ((digs (VI a + VI b).toNat, ()), ((), (), ())) := by
    intro m
    induction m with
    | zero =>
      intro i x hi hx hV g1 g2 g3
      have hib : i = b.length := by omega
      subst hib
      refine Ev.step 1 (fun k => F45c4_eq k _ _ _ _) ?_
      have hl : IntKind.i64.wrap ((x.length : Int) - 1) = (M : Int) := pred_len hx (by omega)
      simp only [lt_false (Nat.le_refl b.length), Bool.false_eq_true, if_false, hl]
      rw [VI_take_all] at hV
      have hall : ∀ j, j < M → 0 ≤ x.getD j 0 ∧ x.getD j 0 ≤ 19998 := fun j hj => by
        rcases Nat.lt_or_ge j b.length with h | h
        · exact g1 j h
        · have := g2 j h hj
          omega
      refine addC (by omega) M 0 x (by omega) hx hV (fun j hj => by omega) (fun j _ hj => hall j hj) ?_ (fun _ => g3) (fun _ => by omega)
      rcases Nat.eq_zero_or_pos M with h | h
      · rw [h] at g3
        omega
      · have := hall 0 h
        omega
    | succ m ih =>
      intro i x hi hx hV g1 g2 g3
      have hib : i < b.length := by omega
      have l0 : i < x.length := by omega
      have rb := hb.at hib
      have rx := g2 i (Nat.le_refl _) (by omega)
      have w1 : IntKind.i64.wrap (x.getD i 0 + b.getD i 0) = x.getD i 0 + b.getD i 0 := wrap64 (by omega) (by omega)
      refine Ev.step 1 (fun k => F45c4_eq k _ _ _ _) ?_
      simp only [lt_true hib, lt_true l0, ge0, Bool.and_self, if_true, Int.toNat_natCast, getI_of hib, getI_of l0, Option.bind_some, w1, wrap_succ (show i < 9223372036854775807 by omega)]
      refine ih (i + 1) _ (by omega) (by simpa using hx) ?_ (fun j hj => ?_) (fun j hj hj2 => ?_) ?_
      · rw [VI_set l0, VI_take_succ hib, hV]
        grind
      · rw [getI_set l0]
        split
        · omega
        · exact g1 j (by omega)
      · rw [getI_set l0, if_neg (by omega)]
        exact g2 j (by omega) hj2
      · rw [getI_set l0, if_neg (by omega)]
        exact g3
  have hpad : ∀ j, (a ++ List.replicate (M + 1 - a.length) (0 : Int)).getD j 0 = a.getD j 0 := fun j => by
    rw [List.getD_eq_getElem?_getD, List.getD_eq_getElem?_getD]
    rcases Nat.lt_or_ge j a.length with h | h
    · rw [List.getElem?_append_left h]
    · rw [List.getElem?_append_right h, List.getElem?_eq_none h, List.getElem?_replicate]
      split <;> rfl
  have := key b.length 0 (a ++ List.replicate (M + 1 - a.length) 0) (by omega) (by simp; omega) (by rw [VI_pad]; simp [VI]) (fun j hj => by omega) (fun j _ hj => by
    rw [hpad]
    rcases Nat.lt_or_ge j a.length with h | h
    · exact ha.at h
    · rw [List.getD_eq_getElem?_getD, List.getElem?_eq_none h]
      exact ⟨Int.le_refl _, by decide⟩) (by rw [hpad, List.getD_eq_getElem?_getD, List.getElem?_eq_none (by omega)]; rfl)
  exact this
theorem clone_ev (l : List Int) (h : l.length ≤ 1000000) : Ev (fun k => F66 k l) ((l, ()), ((), ())) := by
  refine Ev.step 2 (fun k => F66_eq k l) ?_
  have hc : decide (([] : List Int).length + l.length ≤ 17592186044416) = true := decide_eq_true (by simp; omega)
  simp only [hc, if_true, List.nil_append]
  cases l with
  | nil =>
    rw [bothK_same]
    exact Ev.now _
  | cons x l =>
    have : emptyL (x :: l) = false := rfl
    rw [this, bothK_false]
    exact Ev.now _
theorem VI_last {l : List Int} {n : Nat} (h : l.length = n + 1) : VI l = VI (l.take n) + l.getD n 0 * 10000 ^ n := by
  rw [← VI_take_succ (by omega), ← h, List.take_length]
/-- the borrow runs up -/
theorem subC {M : Nat} (hM : M ≤ 200001) {S : Int} (hS0 : 0 ≤ S) : ∀ (m i : Nat) (x : List Int), i + m = M → x.length = M → VI x = S → (∀ j, j < i → 0 ≤ x.getD j 0 ∧ x.getD j 0 ≤ 9999) → (∀ j, i < j → j < M → -9999 ≤ x.getD j 0 ∧ x.getD j 0 ≤ 9999) →
    (i < M → -10000 ≤ x.getD i 0 ∧ x.getD i 0 ≤ 9999) → Ev (fun k => F47c8 k x (M : Int) (i : Int)) ((digs S.toNat, ()), ((), (), ())) := by
  intro m
  induction m with
  | zero =>
    intro i x hi hx hS h1 _ _
    have hiM : i = M := by omega
    subst hiM
    refine Ev.step 1 (fun k => F47c8_eq k _ _ _) ?_
    simp only [lt_false (Nat.le_refl i), Bool.false_eq_true, if_false]
    have hr : InR x := InR.of fun j hj => h1 j (by omega)
    have := trim_ev hr (by omega)
    rw [hS] at this
    exact Ev.bind this (Ev.now _)
  | succ m ih =>
    intro i x hi hx hS h1 h2 h3
    have hiM : i < M := by omega
    have l0 : i < x.length := by omega
    have r0 := h3 hiM
    refine Ev.step 1 (fun k => F47c8_eq k _ _ _) ?_
    simp only [lt_true hiM, lt_true l0, ge0, Bool.and_self, if_true, Int.toNat_natCast, getI_of l0, Option.bind_some]
    by_cases hneg : x.getD i 0 < 0
    · have l1 : i + 1 < x.length := by
        rcases Nat.lt_or_ge (i + 1) x.length with h | h
        · exact h
        · exfalso
          have hx1 : x.length = i + 1 := by omega
          have hr : InR (x.take i) := InR.of fun j hj => by
            have hj' : j < i := by rw [List.length_take] at hj; omega
            have := h1 j hj'
            rw [List.getD_eq_getElem?_getD, List.getElem?_take_of_lt hj', ← List.getD_eq_getElem?_getD]
            exact this
          have h4 := VI_lt hr
          rw [List.length_take, Nat.min_eq_left (by omega)] at h4
          have h5 := VI_last hx1
          rw [hS] at h5
          have h6 : x.getD i 0 * 10000 ^ i ≤ -1 * 10000 ^ i := Int.mul_le_mul_of_nonneg_right (by omega) (Int.le_of_lt (pow_pos i))
          omega
      have hset : i + 1 < (x.set i (x.getD i 0 + 10000)).length := by rw [List.length_set]; exact l1
      have w1 : IntKind.i64.wrap (x.getD i 0 + 10000) = x.getD i 0 + 10000 := wrap64 (by omega) (by omega)
      have r1 := h2 (i + 1) (by omega) (by omega)
      have hget : (x.set i (x.getD i 0 + 10000)).getD (i + 1) 0 = x.getD (i + 1) 0 := by rw [getI_set l0, if_neg (by omega)]
      have w2 : IntKind.i64.wrap (x.getD (i + 1) 0 - 1) = x.getD (i + 1) 0 - 1 := wrap64 (by omega) (by omega)
      simp only [hneg, decide_true, if_true, wrap_succ (show i < 9223372036854775807 by omega), ge0, w1, lt_true hset, Bool.and_self, Int.toNat_natCast, getI_of hset, Option.bind_some, hget, w2]
      refine Ev.step 1 (fun k => F47c13_eq k _ _ _) ?_
      rw [wrap_succ (by omega)]
      have hgets : ∀ j, ((x.set i (x.getD i 0 + 10000)).set (i + 1) (x.getD (i + 1) 0 - 1)).getD j 0 = if j = i + 1 then x.getD (i + 1) 0 - 1 else if j = i then x.getD i 0 + 10000 else x.getD j 0 := fun j => by
        rw [getI_set hset, getI_set l0]
      refine ih (i + 1) _ (by omega) (by simpa using hx) ?_ (fun j hj => ?_) (fun j hj hj2 => ?_) (fun hj => ?_)
      · rw [VI_set hset, VI_set l0, hget, hS, Int.pow_succ]
        grind
      · rw [hgets, if_neg (by omega)]
        split
        · omega
        · exact h1 j (by omega)
      · rw [hgets, if_neg (by omega), if_neg (by omega)]
        exact h2 j (by omega) hj2
      · rw [hgets, if_pos rfl]
        omega
    · simp only [hneg, decide_false, Bool.false_eq_true, if_false]
      refine Ev.step 1 (fun k => F47c13_eq k _ _ _) ?_
      rw [wrap_succ (by omega)]
      refine ih (i + 1) _ (by omega) hx hS (fun j hj => ?_) (fun j hj hj2 => h2 j (by omega) hj2) (fun hj => ?_)
      · rcases Nat.eq_or_lt_of_le (Nat.le_of_lt_succ hj) with rfl | h
        · omega
        · exact h1 j h
      · have := h2 (i + 1) (by omega) hj
        omega
theorem sub_ev (ha : InR a) (hb : InR b) (tb : Trim b) (la : a.length ≤ 100000) (hle : VI b ≤ VI a) : Ev (fun k => F47 k a b) ((digs (VI a - VI b).toNat, ()), ((), (), ())) := by
  have hlen : b.length ≤ a.length := by
    rcases Nat.lt_or_ge a.length b.length with h | h
    · have := VI_len_lt ha hb tb h
      omega
    · exact h
  refine Ev.step 2 (fun k => F47_eq k a b) (Ev.bind (clone_ev a (by omega)) ?_)
  have key : ∀ (m i : Nat) (x : List Int), i + m = b.length → x.length = a.length → VI x = VI a - VI (b.take i) → (∀ j, j < i → -9999 ≤ x.getD j 0 ∧ x.getD j 0 ≤ 9999) → (∀ j, i ≤ j → j < a.length → 0 ≤ x.getD j 0 ∧ x.getD j 0 ≤ 9999) →
      Ev (fun k => F47c3 k x b (b.length : Int) (i : Int)) ((digs (VI a - VI b).toNat, ()), ((), (), ())) := by
    intro m
    induction m with
    | zero =>
      intro i x hi hx hV g1 g2
      have hib : i = b.length := by omega
      subst hib
      refine Ev.step 1 (fun k => F47c3_eq k _ _ _ _) ?_
      simp only [lt_false (Nat.le_refl b.length), Bool.false_eq_true, if_false]
      rw [VI_take_all] at hV
      have hall : ∀ j, j < x.length → -9999 ≤ x.getD j 0 ∧ x.getD j 0 ≤ 9999 := fun j hj => by
        rcases Nat.lt_or_ge j b.length with h | h
        · exact g1 j h
        · have := g2 j h (by omega)
          omega
      exact subC (by omega) (by omega) x.length 0 x (by omega) rfl hV (fun j hj => by omega) (fun j _ hj => hall j hj) (fun hj => by have := hall 0 hj; omega)
    | succ m ih =>
      intro i x hi hx hV g1 g2
      have hib : i < b.length := by omega
      have l0 : i < x.length := by omega
      have rb := hb.at hib
      have rx := g2 i (Nat.le_refl _) (by omega)
      have w1 : IntKind.i64.wrap (x.getD i 0 - b.getD i 0) = x.getD i 0 - b.getD i 0 := wrap64 (by omega) (by omega)
      refine Ev.step 1 (fun k => F47c3_eq k _ _ _ _) ?_
      simp only [lt_true hib, lt_true l0, ge0, Bool.and_self, if_true, Int.toNat_natCast, getI_of hib, getI_of l0, Option.bind_some, w1, wrap_succ (show i < 9223372036854775807 by omega)]
      refine ih (i + 1) _ (by omega) (by simpa using hx) ?_ (fun j hj => ?_) (fun j hj hj2 => ?_)
      · rw [VI_set l0, VI_take_succ hib, hV]
        grind
      · rw [getI_set l0]
        split
        · omega
        · exact g1 j (by omega)
      · rw [getI_set l0, if_neg (by omega)]
        exact g2 j (by omega) hj2
  exact key b.length 0 a (by omega) rfl (by simp [VI]) (fun j hj => by omega) (fun j _ hj => ha.at hj)
end
end Go.Proofs.YthbibdpbfgoghaaDoor.R
end

section
/-! Rf, limbs: products, powers of ten. -/
set_option autoImplicit false
namespace Go.Proofs.YthbibdpbfgoghaaDoor.R
open Go.Rf
theorem mul_small {x y : Int} (hx : 0 ≤ x ∧ x ≤ 9999) (hy : 0 ≤ y ∧ y ≤ 9999) : 0 ≤ x * y ∧ x * y ≤ 99980001 := by
  refine ⟨Int.mul_nonneg hx.1 hy.1, ?_⟩
  have := Int.mul_le_mul hx.2 hy.2 hy.1 (show (0 : Int) ≤ 9999 by omega)
  omega
theorem addN {i k : Nat} (h : i + k < 4611686018427387904) : IntKind.i64.wrap ((i : Int) + (k : Int)) = ((i + k : Nat) : Int) := by
  rw [wrap64 (by omega) (by omega)]
  omega
/-- one limb more of a product's row -/
theorem VI_row {x : List Int} {i k : Nat} {V0 ai c s n : Int} {b : List Int} (hk : k < b.length) (hx : i + k < x.length) (hV : VI x + c * 10000 ^ (i + k) = V0 + ai * VI (b.take k) * 10000 ^ i) (hn : n = x.getD (i + k) 0 + ai * b.getD k 0 + c) (hs : s = n % 10000) :
    VI (x.set (i + k) s) + n / 10000 * 10000 ^ (i + (k + 1)) = V0 + ai * VI (b.take (k + 1)) * 10000 ^ i := by
  have e1 : n = 10000 * (n / 10000) + s := by omega
  have e2 : (10000 : Int) ^ (i + (k + 1)) = 10000 ^ (i + k) * 10000 := by rw [← Nat.add_assoc, Int.pow_succ]
  have e3 : (10000 : Int) ^ (i + k) = 10000 ^ i * 10000 ^ k := Int.pow_add 10000 i k
  rw [VI_set hx, VI_take_succ hk, e2]
  rw [e3] at hV ⊢
  grind
section
variable {a b : List Int}
end
theorem digs_small {n : Nat} (h : 0 < n) (h2 : n < 10000) : digs n = [(n : Int)] := by
  rw [digs_pos (by omega), Nat.div_eq_of_lt h2, Nat.mod_eq_of_lt h2, digs_zero]
theorem VI_digs (n : Nat) : VI (digs n) = (n : Int) := (digs_spec n).2.2
theorem ten_len (i : Nat) : (digs (10 ^ i)).length ≤ i + 1 := digs_len_le (by
  have h1 : 10 ^ i ≤ 10000 ^ i := Nat.pow_le_pow_left (by omega) i
  have h2 : 0 < 10000 ^ i := Nat.pow_pos (by omega)
  rw [Nat.pow_succ]
  omega)
theorem tens_digs (q : Nat) {t : Nat} (h0 : 0 < t) (h1 : t < 10000) : List.replicate q (0 : Int) ++ [(t : Int)] = digs (t * 10000 ^ q) := by
  refine digs_of (fun d hd => ?_) (.inr ?_) ?_
  · rcases List.mem_append.1 hd with hd | hd
    · rw [(List.mem_replicate.1 hd).2]
      omega
    · rw [List.mem_singleton.1 hd]
      omega
  · rw [List.length_append, List.length_replicate, List.getD_eq_getElem?_getD, List.getElem?_append_right (by simp)]
    simp
    omega
  · rw [VI_append, VI_zeros, List.length_replicate]
    show (0 : Int) + 10000 ^ q * ((t : Int) + 10000 * 0) = ((t * 10000 ^ q : Nat) : Int)
    rw [Int.natCast_mul, Int.natCast_pow]
    grind
end Go.Proofs.YthbibdpbfgoghaaDoor.R
end

section
/-! Rf, decimals: figures; what is in order. -/
set_option autoImplicit false
set_option linter.unusedSimpArgs false
namespace Go.Proofs.YthbibdpbfgoghaaDoor.R
open Go.Rf
theorem l1In_ev (n lo hi : Int) : Ev (fun k => F38 k n lo hi) ((within n lo hi, ()), ((), (), (), ())) := by
  refine Ev.step 2 (fun k => F38_eq k n lo hi) ?_
  unfold within
  cases decide (n ≥ lo) with
  | true => exact Ev.now _
  | false => exact Ev.now _
theorem in_ev (n lo hi : Int) : Ev (fun k => F19 k n lo hi) ((within n lo hi, ()), ((), (), (), ())) := by
  refine Ev.step 2 (fun k => F19_eq k n lo hi) ?_
  unfold within
  cases decide (n ≥ lo) with
  | true => exact Ev.now _
  | false => exact Ev.now _
/-! ### figures -/
theorem l1Dec_ev : ∀ n : Nat, n ≤ 1000000000000000000 → Ev (fun k => F59 k (n : Int)) ((⟨(Lib.decDigits n).toArray⟩, ()), ((), ())) := by
  intro n
  induction n using Nat.strongRecOn with
  | _ n ih =>
    intro hn
    have c1 : decide ((n : Int) < (-9223372036854775807 : Int)) = false := decide_eq_false (by omega)
    have c2 : decide ((n : Int) < 0) = false := decide_eq_false (by omega)
    refine Ev.step 2 (fun k => F59_eq k n) ?_
    simp only [c1, c2, Bool.false_eq_true, if_false]
    by_cases h : n < 10
    · have c3 : decide ((n : Int) < 10) = true := decide_eq_true (by omega)
      rw [Lib.decDigits, dif_pos h]
      simp only [c3, if_true, bytesOf_digit h]
      exact Ev.now _
    · have c3 : decide ((n : Int) < 10) = false := decide_eq_false (by omega)
      have e1 : IntKind.i64.wrap ((n : Int).tdiv 10) = ((n / 10 : Nat) : Int) := by
        rw [Int.tdiv_eq_ediv_of_nonneg (by omega), wrap64 (by omega) (by omega)]
        omega
      have e2 : (n : Int).tmod 10 = ((n % 10 : Nat) : Int) := by
        rw [Int.tmod_eq_emod_of_nonneg (by omega)]
        omega
      have hl := decDigits_len 18 (n / 10) (by omega)
      rw [Lib.decDigits, dif_neg h]
      simp only [c3, Bool.false_eq_true, if_false, e1, e2, bytesOf_digit (show n % 10 < 10 by omega)]
      refine Ev.bind (ih (n / 10) (by omega) (by omega)) ?_
      have hb : Nat.ble ((Lib.decDigits (n / 10)).length + [UInt8.ofNat (48 + n % 10)].length) 9223372036854775807 = true := Nat.ble_eq_true_of_le (by simp; omega)
      simp only [bytes_size, hb, if_true, bytes_append]
      exact Ev.now _
theorem l1Wide_ev {d : Int} (h : 0 ≤ d ∧ d ≤ 9999) : Ev (fun k => F60 k d 4) ((⟨(fig4 d).toArray⟩, ()), ((), (), ())) := by
  obtain ⟨n, rfl⟩ : ∃ n : Nat, d = (n : Int) := ⟨d.toNat, by omega⟩
  have hl := itoa_len4 h
  refine Ev.step 2 (fun k => F60_eq k _ _) (Ev.bind (l1Dec_ev n (by omega)) ?_)
  have key : ∀ (m : Nat) (x : List UInt8), x.length + m = 4 ∨ (m = 0 ∧ 4 ≤ x.length) → Ev (fun k => F60c2 k 4 ⟨x.toArray⟩) ((⟨(Lib.repeatL [48] m ++ x).toArray⟩, ()), ((), (), ())) := by
    intro m
    induction m with
    | zero =>
      intro x hx
      have c : decide ((x.length : Int) < 4) = false := decide_eq_false (by omega)
      refine Ev.step 1 (fun k => F60c2_eq k _ _) ?_
      simp only [bytes_size, c, Bool.false_eq_true, if_false]
      exact Ev.now _
    | succ m ih =>
      intro x hx
      have c : decide ((x.length : Int) < 4) = true := decide_eq_true (by omega)
      have hb : Nat.ble ([(48 : UInt8)].length + x.length) 9223372036854775807 = true := Nat.ble_eq_true_of_le (by simp; omega)
      refine Ev.step 1 (fun k => F60c2_eq k _ _) ?_
      have e : (⟨#[48]⟩ : ByteArray) = ⟨[(48 : UInt8)].toArray⟩ := rfl
      simp only [e, bytes_size, c, if_true, hb, bytes_append]
      have := ih ([48] ++ x) (by simp; omega)
      have e2 : Lib.repeatL [48] m ++ ([48] ++ x) = Lib.repeatL [48] (m + 1) ++ x := by
        rw [Lib.repeatL_add, Lib.repeatL_one, List.append_assoc]
      rw [e2] at this
      exact this
  have := key (4 - (Lib.itoa (n : Int)).length) (Lib.decDigits n) (by rw [itoa_nat] at hl ⊢; omega)
  unfold fig4
  rw [itoa_nat] at this ⊢
  exact this
theorem l1Figures_ev {l : List Int} (hr : InR l) (hl : l.length ≤ 1000000) : Ev (fun k => F39 k l) ((textL l, ()), ((), ())) := by
  refine Ev.step 2 (fun k => F39_eq k l) ?_
  rcases Nat.eq_zero_or_pos l.length with h0 | h0
  · obtain rfl := List.eq_nil_of_length_eq_zero h0
    exact Ev.now _
  · obtain ⟨n, hn⟩ : ∃ n, l.length = n + 1 := ⟨l.length - 1, by omega⟩
    have c : ((l.length : Int) == 0) = false := len0_false h0
    have hlt : n < l.length := by omega
    have rn := hr.at hlt
    obtain ⟨d, hd⟩ : ∃ d : Nat, l.getD n 0 = (d : Int) := ⟨(l.getD n 0).toNat, by omega⟩
    simp only [c, Bool.false_eq_true, if_false, pred_len hn (by omega), ge0, if_true, Int.toNat_natCast, getI_of hlt, Option.bind_some, hd]
    refine Ev.bind (l1Dec_ev d (by omega)) ?_
    have w : IntKind.i64.wrap ((l.length : Int) - 2) = (n : Int) - 1 := by rw [wrap64 (by omega) (by omega)]; omega
    rw [w, textL_pos (by intro e; subst e; simp at h0)]
    have key : ∀ m, m ≤ n → Ev (fun k => F39c5 k l ⟨(figs (l.drop m)).toArray⟩ ((m : Int) - 1)) ((⟨(figs l).toArray⟩, ()), ((), ())) := by
      intro m
      induction m with
      | zero =>
        intro _
        exact Ev.step 1 (fun k => F39c5_eq k _ _ _) (Ev.now _)
      | succ m ih =>
        intro hm
        have e : ((m + 1 : Nat) : Int) - 1 = (m : Int) := by omega
        have hge : decide ((m : Int) ≥ 0) = true := by simp
        have hml : m < l.length := by omega
        have h1 := figs_len (l := l.drop (m + 1)) (fun d hd => hr d (List.mem_of_mem_drop hd))
        have h2 := fig4_len (hr.at hml)
        have hb : Nat.ble ((figs (l.drop (m + 1))).length + (fig4 (l.getD m 0)).length) 9223372036854775807 = true := Nat.ble_eq_true_of_le (by rw [List.length_drop] at h1; omega)
        rw [e]
        refine Ev.step 1 (fun k => F39c5_eq k _ _ _) ?_
        simp only [hge, if_true, ge0, Int.toNat_natCast, getI_of hml, Option.bind_some]
        refine Ev.bind (l1Wide_ev (hr.at hml)) ?_
        simp only [bytes_size, hb, if_true, bytes_append, ← figs_drop (show m + 1 < l.length by omega)]
        rw [wrap64 (by omega) (by omega)]
        exact ih (by omega)
    have := key n (Nat.le_refl _)
    rw [figs_last hn, hd, itoa_nat] at this
    exact this
theorem text_ev {l : List Int} (hr : InR l) (hl : l.length ≤ 1000000) : Ev (fun k => F14 k l) ((textL l, ()), ((), ())) := by
  refine Ev.step 1 (fun k => F14_eq k l) ?_
  have : textR (l, ()) = some ((textL l, ()), ((), ())) := if_pos (limbsOk_of hr hl)
  rw [this]
  exact Ev.now _
theorem idx_ev (l : List Int) (h : l.length ≤ 1048576) : ∃ r, Ev (fun k => F19040 k l) r ∧ decide (r.1.1 ≥ (0 : Int)) = !rangeOk l := by
  obtain ⟨r, h1, h2⟩ := find_loop (L := fun k i => F19040c2 k l (l.length : Int) i) (n := l.length) (no := fun i => (((i : Int), ()), ((), (), ()))) (yes := (((-1 : Int), ()), ((), (), ()))) (c := fun i => within (l.getD i 0) 0 9999) (fun i hi hc => by
      refine Ev.step 1 (fun k => F19040c2_eq k l _ i) ?_
      simp only [lt_true hi, ge0, if_true, Int.toNat_natCast, getI_of hi, Option.bind_some]
      refine Ev.bind (Ev.step 2 (fun k => F18_eq k _) (Ev.bind (in_ev _ _ _) (Ev.now _))) ?_
      simp only [hc, Bool.not_false, if_true]
      exact Ev.now _) (fun i hi hc r hr => by
      refine Ev.step 1 (fun k => F19040c2_eq k l _ i) ?_
      simp only [lt_true hi, ge0, if_true, Int.toNat_natCast, getI_of hi, Option.bind_some]
      refine Ev.bind (Ev.step 2 (fun k => F18_eq k _) (Ev.bind (in_ev _ _ _) (Ev.now _))) ?_
      simp only [hc, Bool.not_true, Bool.false_eq_true, if_false]
      rw [wrap_succ (by omega)]
      exact hr) (by
      refine Ev.step 1 (fun k => F19040c2_eq k l _ l.length) ?_
      simp only [lt_false (Nat.le_refl l.length), Bool.false_eq_true, if_false]
      exact Ev.now _)
  refine ⟨r, Ev.step 2 (fun k => F19040_eq k l) h1, ?_⟩
  unfold rangeOk
  rcases h2 with ⟨h2, rfl⟩ | ⟨h2, i, _, rfl⟩
  · rw [h2]; rfl
  · rw [h2]; simp
theorem has_ev (l : List Int) (h : l.length ≤ 1048576) : Ev (fun k => F19017 k l) ((!rangeOk l, ()), ((), (), ())) := by
  obtain ⟨r, h1, h2⟩ := idx_ev l h
  refine Ev.step 2 (fun k => F19017_eq k l) (Ev.bind h1 ?_)
  simp only [h2]
  exact Ev.now _
theorem BigOk_ev (neg : Bool) (l : List Int) (h : l.length ≤ 1048576) : Ev (fun k => F7 k neg l) ((bOk neg l, ()), (((), (), ()), ())) := by
  refine Ev.step 2 (fun k => F7_eq k neg l) ?_
  unfold bOk lastOk
  by_cases h16 : l.length ≤ 16
  · have c16 : decide ((l.length : Int) ≤ 16) = true := decide_eq_true (by omega)
    rcases Nat.eq_zero_or_pos l.length with h0 | h0
    · have c0 : ((l.length : Int) == 0) = true := by simp [h0]
      have cg : decide ((l.length : Int) > 0) = false := by simp [h0]
      simp only [c16, h16, c0, cg, h0, decide_true, if_true, Bool.true_and]
      cases neg with
      | true =>
        simp only [Bool.not_true, Bool.false_eq_true, if_false, Bool.and_false]
        exact Ev.now _
      | false =>
        simp only [Bool.not_false, if_true, Bool.and_true]
        refine Ev.bind (has_ev l h) ?_
        simp only [Bool.not_not]
        exact Ev.now _
    · obtain ⟨n, hn⟩ : ∃ n, l.length = n + 1 := ⟨l.length - 1, by omega⟩
      have c0 : ((l.length : Int) == 0) = false := len0_false h0
      have hne : ¬ l.length = 0 := by omega
      have hlt : n < l.length := by omega
      have e : l.length - 1 = n := by omega
      simp only [c16, h16, c0, hne, e, gt_true h0, pred_len hn (by omega), ge0, decide_true, if_true, Bool.true_and, Bool.false_eq_true, if_false, Int.toNat_natCast, getI_of hlt, Option.bind_some]
      cases hz : (l.getD n 0 != 0) with
      | true =>
        simp only [if_true, Bool.and_true]
        refine Ev.bind (has_ev l h) ?_
        simp only [Bool.not_not]
        exact Ev.now _
      | false =>
        simp only [Bool.false_eq_true, if_false, Bool.and_false]
        exact Ev.now _
  · have c16 : decide ((l.length : Int) ≤ 16) = false := decide_eq_false (by omega)
    simp only [c16, h16, decide_false, Bool.false_and, Bool.false_eq_true, if_false]
    exact Ev.now _
theorem l1Ok_ev (neg : Bool) (l : List Int) (h : l.length ≤ 1048576) : Ev (fun k => F15 k neg l) ((bOk neg l, ()), (((), (), ()), ())) := by
  refine Ev.step 2 (fun k => F15_eq k neg l) ?_
  by_cases h16 : l.length ≤ 16
  · have c16 : decide ((l.length : Int) > 16) = false := decide_eq_false (by omega)
    have loop : ∀ {q : Bool}, (l.length = 0 → q = true) → (∀ n, l.length = n + 1 → q = (l.getD n 0 != 0)) → Ev (fun k => F15c4 k neg l 0) ((rangeOk l && q, ()), (((), (), ()), ())) := by
      intro q q0 q1
      have := all_loop' (L := fun k i => F15c4 k neg l i) (n := l.length) (c := fun i => within (l.getD i 0) 0 9999) (no := ((false, ()), (((), (), ()), ()))) (yes := ((q, ()), (((), (), ()), ()))) (fun i hi hc => by
        refine Ev.step 1 (fun k => F15c4_eq k _ _ _) ?_
        simp only [lt_true hi, ge0, if_true, Int.toNat_natCast, getI_of hi, Option.bind_some]
        refine Ev.bind (l1In_ev _ _ _) ?_
        simp only [hc, Bool.not_false, if_true]
        exact Ev.now _) (fun i hi hc r hr => by
        refine Ev.step 1 (fun k => F15c4_eq k _ _ _) ?_
        simp only [lt_true hi, ge0, if_true, Int.toNat_natCast, getI_of hi, Option.bind_some]
        refine Ev.bind (l1In_ev _ _ _) ?_
        simp only [hc, Bool.not_true, Bool.false_eq_true, if_false]
        rw [wrap_succ (by omega)]
        exact hr) (fun _ => by
        refine Ev.step 1 (fun k => F15c4_eq k _ _ _) ?_
        simp only [lt_false (Nat.le_refl l.length), Bool.false_eq_true, if_false]
        rcases Nat.eq_zero_or_pos l.length with h0 | h0
        · have c0 : ((l.length : Int) == 0) = true := by simp [h0]
          simp only [c0, if_true, q0 h0]
          exact Ev.now _
        · obtain ⟨n, hn⟩ : ∃ n, l.length = n + 1 := ⟨l.length - 1, by omega⟩
          have c0 : ((l.length : Int) == 0) = false := len0_false h0
          have hlt : n < l.length := by omega
          simp only [c0, Bool.false_eq_true, if_false, pred_len hn (by omega), ge0, if_true, Int.toNat_natCast, getI_of hlt, Option.bind_some, q1 n hn]
          exact Ev.now _)
      unfold rangeOk
      cases hall : (List.range l.length).all (fun i => within (l.getD i 0) 0 9999) with
      | true =>
        rw [hall] at this
        simpa using this
      | false =>
        rw [hall] at this
        simpa using this
    unfold bOk lastOk
    simp only [c16, h16, decide_true, Bool.true_and, Bool.false_eq_true, if_false]
    by_cases h0 : l.length = 0
    · have c0 : ((l.length : Int) == 0) = true := by simp [h0]
      cases neg with
      | true =>
        simp only [c0, h0, if_true, Bool.not_true, Bool.and_false]
        exact Ev.now _
      | false =>
        have := loop (q := true) (fun _ => rfl) (fun n hn => by omega)
        simpa only [h0, if_true, Bool.not_false, Bool.false_eq_true, if_false] using this
    · have c0 : ((l.length : Int) == 0) = false := len0_false (Nat.pos_of_ne_zero h0)
      have := loop (q := (l.getD (l.length - 1) 0 != 0)) (fun e => absurd e h0) (fun n hn => by rw [hn]; rfl)
      cases neg with
      | true => simpa only [c0, h0, if_true, Bool.false_eq_true, if_false] using this
      | false => simpa only [h0, Bool.false_eq_true, if_false] using this
  · have c16 : decide ((l.length : Int) > 16) = true := decide_eq_true (by omega)
    unfold bOk
    simp only [c16, h16, decide_false, Bool.false_and, if_true]
    exact Ev.now _
end Go.Proofs.YthbibdpbfgoghaaDoor.R
end

section
/-! Rf, decimals: compared; the law's helpers. -/
set_option autoImplicit false
namespace Go.Proofs.YthbibdpbfgoghaaDoor.R
open Go.Rf
/-- a decimal in order: its number -/
def num (l : List Int) : Nat := (VI l).toNat
theorem num_spec {l : List Int} (h : InR l) : VI l = (num l : Int) := by
  have := VI_nonneg h
  unfold num
  omega
theorem digs_num {l : List Int} (h : InR l) (t : Trim l) : digs (num l) = l := digs_VI h t
theorem num_pos {neg : Bool} {l : List Int} (h : bOk neg l = true) (hn : neg = true) : 0 < num l := by
  obtain ⟨_, hr, ht, h0⟩ := bOk_of h
  have := VI_pos hr ht (fun e => by have := h0 e; rw [hn] at this; cases this)
  have := num_spec hr
  omega
theorem num_lt {l : List Int} (h : InR l) (hl : l.length ≤ 16) : num l < 10000 ^ 16 := by
  have h1 : VI l < ((10000 ^ l.length : Nat) : Int) := by
    rw [Int.natCast_pow]
    exact VI_lt h
  have h2 := num_spec h
  have h3 : (10000 : Nat) ^ l.length ≤ 10000 ^ 16 := Nat.pow_le_pow_right (by omega) hl
  exact Nat.lt_of_lt_of_le (by omega) h3
theorem at_len {V m : Nat} (hV : V < 10000 ^ 16) (hm : m ≤ 24) : (digs (V * 10 ^ m)).length ≤ 40 := by
  refine digs_len_le ?_
  have h1 : 10 ^ m ≤ 10 ^ 24 := Nat.pow_le_pow_right (by omega) hm
  have h2 : V * 10 ^ m ≤ V * 10 ^ 24 := Nat.mul_le_mul_left V h1
  have h3 : V * 10 ^ 24 < 10000 ^ 16 * 10 ^ 24 := Nat.mul_lt_mul_of_pos_right hV (Nat.pow_pos (by omega))
  have h4 : 10000 ^ 16 * 10 ^ 24 ≤ 10000 ^ 40 := by decide
  omega
/-- a sum with signs -/
def sSum (na : Bool) (A : Nat) (nb : Bool) (B : Nat) : Bool × Nat := if na = nb then (na, A + B) else if B ≤ A then (na, A - B) else (nb, B - A)
theorem cmpI_ge {A B : Nat} : decide (cmpI A B ≥ 0) = decide (B ≤ A) := by
  unfold cmpI
  split
  · rw [decide_eq_false (by omega), decide_eq_false (by omega)]
  · split
    · rw [decide_eq_true (by omega), decide_eq_true (by omega)]
    · rw [decide_eq_true (by omega), decide_eq_true (by omega)]
theorem sAdd_ev {na nb : Bool} {A B : Nat} (la : (digs A).length ≤ 100000) (lb : (digs B).length ≤ 100000) : Ev (fun k => F26 k na (digs A) nb (digs B)) ((((sSum na A nb B).1, digs (sSum na A nb B).2, ()), ()), (((), (), ()), ((), (), ()), ())) := by
  obtain ⟨ra, ta, va⟩ := digs_spec A
  obtain ⟨rb, tb, vb⟩ := digs_spec B
  refine Ev.step 2 (fun k => F26_eq k _ _ _ _) ?_
  unfold sSum
  by_cases hn : na = nb
  · subst hn
    have hadd := add_ev ra rb la lb
    have e : (VI (digs A) + VI (digs B)).toNat = A + B := by rw [va, vb]; omega
    rw [e] at hadd
    simp only [beq_self_eq_true, if_true]
    exact Ev.bind hadd (Ev.now _)
  · have c : (na == nb) = false := by simp [hn]
    simp only [c, hn, Bool.false_eq_true, if_false]
    refine Ev.bind (cmp_ev ra rb ta tb va vb (by omega) (by omega)) ?_
    simp only [cmpI_ge]
    by_cases hle : B ≤ A
    · have hsub := sub_ev ra rb tb la (by rw [va, vb]; omega)
      have e : (VI (digs A) - VI (digs B)).toNat = A - B := by rw [va, vb]; omega
      rw [e] at hsub
      simp only [hle, decide_true, if_true]
      exact Ev.bind hsub (Ev.now _)
    · have hsub := sub_ev rb ra ta lb (by rw [va, vb]; omega)
      have e : (VI (digs B) - VI (digs A)).toNat = B - A := by rw [va, vb]; omega
      rw [e] at hsub
      simp only [hle, decide_false, Bool.false_eq_true, if_false]
      exact Ev.bind hsub (Ev.now _)
theorem sign_ev {neg : Bool} {A : Nat} : Ev (fun k => F28 k neg (digs A)) ((if A = 0 then 0 else if neg = true then -1 else 1, ()), (((), (), ()), ())) := by
  by_cases h : A = 0
  · subst h
    rw [digs_zero, if_pos rfl]
    exact Ev.step 2 (fun k => F28_eq k _ _) (Ev.now _)
  · refine Ev.step 2 (fun k => F28_eq k _ _) ?_
    have c : (((digs A).length : Int) == 0) = false := len0_false (Nat.pos_of_ne_zero (fun e => h (digs_nil.1 (List.eq_nil_of_length_eq_zero e))))
    simp only [c, h, Bool.false_eq_true, if_false]
    cases neg with
    | true => exact Ev.now _
    | false => exact Ev.now _
/-- numbers with signs compared -/
def sCmp (na : Bool) (A : Nat) (nb : Bool) (B : Nat) : Int := if na = nb then if na = true then cmpI B A else cmpI A B else if na = true then -1 else 1
theorem sSum_sCmp {na nb : Bool} {A B : Nat} (ha : na = true → 0 < A) (hb : nb = true → 0 < B) : (if (sSum na A (!nb) B).2 = 0 then 0 else if (sSum na A (!nb) B).1 = true then -1 else 1 : Int) = sCmp na A nb B := by
  unfold sSum sCmp
  cases na with
  | true =>
    have h1 := ha rfl
    cases nb with
    | true =>
      simp only [Bool.not_true, Bool.true_eq_false, if_false, if_true]
      rcases Nat.lt_trichotomy A B with h | h | h
      · rw [if_neg (show ¬ B ≤ A by omega), cmpI_gt h]
        simp only [Bool.false_eq_true, if_false]
        rw [if_neg (by omega)]
      · subst h
        simp [cmpI_eq]
      · rw [if_pos (show B ≤ A by omega), cmpI_lt h]
        simp only [if_true]
        rw [if_neg (by omega)]
    | false =>
      simp only [Bool.not_false, if_true, Bool.true_eq_false, if_false]
      rw [if_neg (by omega)]
  | false =>
    cases nb with
    | true =>
      have h2 := hb rfl
      simp only [Bool.not_true, if_true, Bool.false_eq_true, if_false]
      rw [if_neg (by omega)]
    | false =>
      simp only [Bool.not_false, Bool.false_eq_true, if_false, if_true]
      rcases Nat.lt_trichotomy A B with h | h | h
      · rw [if_neg (show ¬ B ≤ A by omega), cmpI_lt h]
        simp only [if_true]
        rw [if_neg (by omega)]
      · subst h
        simp [cmpI_eq]
      · rw [if_pos (show B ≤ A by omega), cmpI_gt h]
        simp only [Bool.false_eq_true, if_false]
        rw [if_neg (by omega)]
/-- how decimals in order compare -/
def dCmp (n1 : Bool) (l1 : List Int) (s1 : Nat) (n2 : Bool) (l2 : List Int) (s2 : Nat) : Int := sCmp n1 (num l1 * 10 ^ (max s1 s2 - s1)) n2 (num l2 * 10 ^ (max s1 s2 - s2))
section
variable {n1 n2 : Bool} {l1 l2 : List Int} {s1 s2 : Nat}
end
/-! ### the law's helpers -/
end Go.Proofs.YthbibdpbfgoghaaDoor.R
end

section
/-! Rf, decimals: added; fresh memory. -/
set_option autoImplicit false
set_option linter.unusedSimpArgs false
namespace Go.Proofs.YthbibdpbfgoghaaDoor.R
open Go.Rf
theorem VI_take_succ' {l : List Int} {i : Nat} : VI (l.take (i + 1)) = VI (l.take i) + l.getD i 0 * 10000 ^ i := by
  rcases Nat.lt_or_ge i l.length with h | h
  · exact VI_take_succ h
  · rw [List.take_of_length_le h, List.take_of_length_le (by omega), List.getD_eq_getElem?_getD, List.getElem?_eq_none h]
    simp
theorem getD0 {l : List Int} (h : InR l) (i : Nat) : 0 ≤ l.getD i 0 ∧ l.getD i 0 ≤ 9999 := by
  rcases Nat.lt_or_ge i l.length with h1 | h1
  · exact h.at h1
  · rw [List.getD_eq_getElem?_getD, List.getElem?_eq_none h1]
    exact ⟨Int.le_refl _, by decide⟩
theorem inrSnoc {l : List Int} {d : Int} (h : InR l) (hd : 0 ≤ d ∧ d ≤ 9999) : InR (l ++ [d]) := fun x hx => by
  rcases List.mem_append.1 hx with hx | hx
  · exact h x hx
  · rw [List.mem_singleton.1 hx]
    exact hd
theorem VI_snoc (l : List Int) (d : Int) : VI (l ++ [d]) = VI l + d * 10000 ^ l.length := by
  rw [VI_append]
  show VI l + 10000 ^ l.length * (d + 10000 * 0) = _
  grind
section
variable {a b : List Int}
end
def made (neg : Bool) (n : Nat) (s : Int) : (Bool × List Int × Int × Unit) × Int × Unit := if long (digs n) > 30 then ((false, [], 0, ()), 3, ()) else ((neg && decide (((digs n).length : Int) > 0), digs n, s, ()), 0, ())
theorem clone_int_ev (l : List Int) (h : l.length ≤ 1000000) : Ev (fun k => F43 k l) ((l, ()), ((), ())) := by
  have h1 : Ev (fun k => F63 k l) ((l, ()), ((), ())) := by
    refine Ev.step 2 (fun k => F63_eq k l) ?_
    have hc : decide (([] : List Int).length + l.length ≤ 17592186044416) = true := decide_eq_true (by simp; omega)
    simp only [hc, if_true, List.nil_append]
    cases l with
    | nil =>
      rw [bothK_same]
      exact Ev.now _
    | cons x l =>
      have : emptyL (x :: l) = false := rfl
      rw [this, bothK_false]
      exact Ev.now _
  have h2 : Ev (fun k => F62 k l) ((l, ()), ((), ())) := by
    refine Ev.step 2 (fun k => F62_eq k l) ?_
    simp only [beq_self_eq_true, Bool.and_self, if_true]
    exact Ev.now _
  exact Ev.step 2 (fun k => F43_eq k l) (Ev.bind h1 (Ev.bind h2 (Ev.now _)))
theorem figs_ge : ∀ {l : List Int}, InR l → l ≠ [] → 4 * l.length ≤ (figs l).length + 4
  | [], _, h => absurd rfl h
  | [d], _, _ => by simp
  | d :: e :: l, h, _ => by
    have h1 := figs_ge h.cons.2 (by simp)
    have h2 := fig4_len h.cons.1
    rw [figs, List.length_append, h2, List.length_cons]
    omega
theorem long_small {l : List Int} (h : InR l) (hl : ¬ long l > 30) : l.length ≤ 16 := by
  unfold long at hl
  by_cases h0 : l.length = 0
  · omega
  · rw [if_neg h0, textL_pos (fun e => h0 (by rw [e]; rfl)), bytes_size] at hl
    have := figs_ge h (fun e => h0 (by rw [e]; rfl))
    omega
theorem sSum_lt {na nb : Bool} {A B C : Nat} (ha : A < C) (hb : B < C) : (sSum na A nb B).2 < 2 * C := by
  unfold sSum
  split
  · show A + B < _
    omega
  · split
    · show A - B < _
      omega
    · show B - A < _
      omega
theorem at_lt {V m : Nat} (hV : V < 10000 ^ 16) (hm : m ≤ 24) : V * 10 ^ m < 10000 ^ 40 := by
  have h1 : 10 ^ m ≤ 10 ^ 24 := Nat.pow_le_pow_right (by omega) hm
  have h2 : V * 10 ^ m ≤ V * 10 ^ 24 := Nat.mul_le_mul_left V h1
  have h3 : V * 10 ^ 24 < 10000 ^ 16 * 10 ^ 24 := Nat.mul_lt_mul_of_pos_right hV (Nat.pow_pos (by omega))
  have h4 : 10000 ^ 16 * 10 ^ 24 ≤ 10000 ^ 40 := by decide
  omega
theorem sum_len {na nb : Bool} {A B : Nat} (ha : A < 10000 ^ 40) (hb : B < 10000 ^ 40) : (digs (sSum na A nb B).2).length ≤ 41 := by
  refine digs_len_le ?_
  have h1 := sSum_lt (na := na) (nb := nb) ha hb
  have h2 : 2 * 10000 ^ 40 ≤ 10000 ^ 41 := by
    rw [Nat.pow_succ]
    have : 0 < 10000 ^ 40 := Nat.pow_pos (by omega)
    omega
  omega
section
variable {n1 n2 : Bool} {l1 l2 : List Int} {s1 s2 : Nat}
end
/-! ### marks -/
def marks (b : Int) (l : List Int) : List Int := (List.range l.length).map fun (i : Nat) => b + (i : Int)
theorem marks_len (b : Int) (l : List Int) : (marks b l).length = l.length := by simp [marks]
theorem marks_at {b : Int} {l : List Int} {i : Nat} (h : i < l.length) : (marks b l).getD i 0 = b + i := by
  rw [List.getD_eq_getElem?_getD]
  unfold marks
  rw [List.getElem?_map, List.getElem?_range h]
  rfl
end Go.Proofs.YthbibdpbfgoghaaDoor.R
end

section
/-! Rf: division of limbs: both divisions come to the quotient and the rest. -/
set_option autoImplicit false
set_option linter.unusedSimpArgs false
set_option linter.unusedVariables false
namespace Go.Proofs.YthbibdpbfgoghaaDoor.R
open Go.Rf
theorem u64_small {x : Int} (h0 : 0 ≤ x) (h1 : x ≤ 9999) : IntKind.u64.wrap x = x := by
  unfold IntKind.wrap
  simp [IntKind.bits, IntKind.signed]
  omega
theorem mid_eq {lo hi : Nat} (h : hi ≤ 10000) (hl : lo ≤ 10000) : IntKind.i64.wrap ((IntKind.i64.wrap ((IntKind.i64.wrap ((lo : Int) + (hi : Int))) + (1 : Int))).tdiv (2 : Int)) = (((lo + hi + 1) / 2 : Nat) : Int) := by
  rw [wrap64 (n := (lo : Int) + (hi : Int)) (by omega) (by omega), wrap64 (n := (lo : Int) + (hi : Int) + 1) (by omega) (by omega), Int.tdiv_eq_ediv_of_nonneg (by omega), wrap64 (by omega) (by omega)]
  omega
theorem mid_eq0 {lo hi : Nat} (h : hi ≤ 10000) (hl : lo ≤ 10000) : IntKind.i64.wrap ((IntKind.i64.wrap ((lo : Int) + (hi : Int))).tdiv (2 : Int)) = (((lo + hi) / 2 : Nat) : Int) := by
  rw [wrap64 (n := (lo : Int) + (hi : Int)) (by omega) (by omega), Int.tdiv_eq_ediv_of_nonneg (by omega), wrap64 (by omega) (by omega)]
  omega
theorem digs_InR (n : Nat) : InR (digs n) := (digs_spec n).1
theorem digs_Trim (n : Nat) : Trim (digs n) := (digs_spec n).2.1
theorem InR.one {d : Int} (h : 0 ≤ d ∧ d ≤ 9999) : InR [d] := InR.mk h InR.nil
theorem VI_one (d : Int) : VI [d] = d := by
  show d + 10000 * 0 = d
  omega
theorem cmpI_le {a b : Nat} : decide (cmpI a b ≤ 0) = decide (a ≤ b) := by
  unfold cmpI
  split
  · rw [decide_eq_true (by omega), decide_eq_true (by omega)]
  · split
    · rw [decide_eq_true (by omega), decide_eq_true (by omega)]
    · rw [decide_eq_false (by omega), decide_eq_false (by omega)]
section
variable {b : List Int} {B X : Nat}
theorem BN_len (hb : InR b) (lb : b.length ≤ 1000) (hB : VI b = (B : Int)) {n : Nat} (hn : n ≤ 10000) : (digs (B * n)).length ≤ 1001 := by
  have h1 := VI_lt hb
  rw [hB] at h1
  have h2 : B < 10000 ^ b.length := by
    have : ((B : Nat) : Int) < ((10000 ^ b.length : Nat) : Int) := by rw [Int.natCast_pow]; exact h1
    omega
  have h3 : B * n < 10000 ^ (b.length + 1) := by
    rw [Nat.pow_succ]
    exact Nat.lt_of_le_of_lt (Nat.mul_le_mul_left B hn) (Nat.mul_lt_mul_of_pos_right h2 (by omega))
  have := digs_len_le h3
  omega
theorem cmpN (hb : InR b) (lb : b.length ≤ 1000) (hB : VI b = (B : Int)) (lX : (digs X).length ≤ 2000) {n : Nat} (hn : n ≤ 10000) : Ev (fun k => F46 k (digs (B * n)) (digs X)) ((cmpI (B * n) X, ()), ((), (), ())) :=
  cmp_ev (digs_InR _) (digs_InR _) (digs_Trim _) (digs_Trim _) (VI_digs _) (VI_digs _) (by have := BN_len hb lb hB hn; omega) (by omega)
theorem subN (hb : InR b) (lb : b.length ≤ 1000) (hB : VI b = (B : Int)) (lX : (digs X).length ≤ 2000) {n : Nat} (h : B * n ≤ X) : Ev (fun k => F47 k (digs X) (digs (B * n))) ((digs (X - B * n), ()), ((), (), ())) := by
  have := sub_ev (digs_InR X) (digs_InR (B * n)) (digs_Trim _) (by omega) (by rw [VI_digs, VI_digs]; omega)
  rw [VI_digs, VI_digs, show ((X : Int) - ((B * n : Nat) : Int)).toNat = X - B * n by omega] at this
  exact this
theorem quo_of {n : Nat} (h1 : B * n ≤ X) (h2 : X < B * (n + 1)) : n = X / B := by
  have hp : 0 < B := by
    rcases Nat.eq_zero_or_pos B with h | h
    · subst h; omega
    · exact h
  symm
  rw [Nat.div_eq_iff hp]
  constructor
  · rw [Nat.mul_comm]; omega
  · rw [Nat.mul_comm]
    have : B * (n + 1) = B * n + B := Nat.mul_succ B n
    omega
end
end Go.Proofs.YthbibdpbfgoghaaDoor.R
end

section
/-! Rf: quotients that are rounded; the least scale. -/
set_option autoImplicit false
set_option linter.unusedSimpArgs false
set_option linter.unusedVariables false
namespace Go.Proofs.YthbibdpbfgoghaaDoor.R
open Go.Rf
theorem len_gt (n : Nat) : decide (((digs n).length : Int) > 0) = decide (n ≠ 0) := by
  by_cases h : n = 0
  · subst h
    rw [digs_zero]; rfl
  · rw [digs_pos h]
    rw [decide_eq_true h, decide_eq_true (by simp)]
theorem len_is0 (n : Nat) : (((digs n).length : Int) == 0) = decide (n = 0) := by
  by_cases h : n = 0
  · subst h
    rw [digs_zero]; rfl
  · rw [digs_pos h, decide_eq_false h, beq_eq_false_iff_ne]
    simp; omega
theorem addN_ev {q : Nat} {c : List Int} {n : Nat} (hc : InR c) (lc : c.length ≤ 1000) (hn : VI c = (n : Int)) (lq : (digs q).length ≤ 1000) : Ev (fun k => F45 k (digs q) c) ((digs (q + n), ()), ((), (), ())) := by
  have := add_ev (digs_InR q) hc (by omega) (by omega)
  rw [VI_digs, hn, show ((q : Int) + (n : Int)).toNat = q + n by omega] at this
  exact this
/-- whether what is left is rounded away from nought -/
def rmore (mode : Int) (neg odd : Bool) (half : Int) : Bool := if mode = 1 then true else if mode = 2 then false else if mode = 3 then !neg else if mode = 4 then neg else if mode = 5 then decide (half ≥ 0) else if mode = 6 then decide (half > 0) else (decide (half > 0) || (half == 0 && odd))
/-- a quotient that is rounded -/
def rquo (neg : Bool) (V D : Nat) (mode : Int) : Nat := if V % D = 0 then V / D else if rmore mode neg (decide (V / D % 2 = 1)) (cmpI (V % D + V % D) D) = true then V / D + 1 else V / D
def trimN : Nat → Nat → Nat × Nat
  | V, 0 => (V, 0)
  | V, s + 1 => if V % 10 = 0 then trimN (V / 10) s else (V, s + 1)
theorem big_ev {neg : Bool} {n : Nat} (h16 : (digs n).length ≤ 16) : Ev (fun k => F22 k neg (digs n)) (((neg && decide (n ≠ 0), digs n, ()), true, ()), ((), (), ())) := by
  obtain ⟨hr, ht, hv⟩ := digs_spec n
  have htr := trim_ev hr (show (digs n).length ≤ 1000000 by omega)
  have e : digs (VI (digs n)).toNat = digs n := by rw [hv]; rfl
  rw [e] at htr
  have c16 : decide (((digs n).length : Int) > 16) = false := decide_eq_false (by omega)
  refine Ev.step 2 (fun k => F22_eq k _ _) (Ev.bind htr ?_)
  simp only [c16, Bool.false_eq_true, if_false, len_gt]
  cases neg with
  | true =>
    simp only [if_true, Bool.true_and]
    exact Ev.bind (clone_int_ev _ (by omega)) (Ev.now _)
  | false =>
    simp only [Bool.false_eq_true, if_false, Bool.false_and]
    exact Ev.bind (clone_int_ev _ (by omega)) (Ev.now _)
theorem div10_len {V : Nat} {m : Nat} (h : (digs V).length ≤ m) : (digs (V / 10)).length ≤ m := by
  have h1 := VI_lt (digs_InR V)
  rw [VI_digs] at h1
  have h2 : V < 10000 ^ (digs V).length := by
    have : ((V : Nat) : Int) < ((10000 ^ (digs V).length : Nat) : Int) := by rw [Int.natCast_pow]; exact h1
    omega
  have := digs_len_le (Nat.lt_of_le_of_lt (Nat.div_le_self V 10) h2)
  omega
/-- a decimal at its least scale -/
def dTrim (n : Bool) (l : List Int) (s : Int) : Bool × List Int × Int × Unit := if decOk n l s = true then (n, digs (trimN (num l) s.toNat).1, ((trimN (num l) s.toNat).2 : Int), ()) else (false, [], 0, ())
end Go.Proofs.YthbibdpbfgoghaaDoor.R
end

section
/-! Rf: rounding to a scale. -/
set_option autoImplicit false
set_option linter.unusedSimpArgs false
set_option linter.unusedVariables false
namespace Go.Proofs.YthbibdpbfgoghaaDoor.R
open Go.Rf
theorem made_len1 {neg : Bool} {n : Nat} {s : Int} (h : (digs n).length ≤ 1000) : (made neg n s).1.2.1.length ≤ 1000 := by
  unfold made
  split
  · show ([] : List Int).length ≤ 1000
    simp
  · exact h
theorem pow_len {V m : Nat} (hV : V < 10000 ^ 16) (hm : m ≤ 24) : (digs (V * 10 ^ m)).length ≤ 40 := digs_len_le (at_lt hV hm)
/-- what is not in order -/
def dForm : (Bool × List Int × Int × Unit) × Int × Unit := ((false, [], 0, ()), 1, ())
/-- a decimal rounded to a scale -/
def dRound (n : Bool) (l : List Int) (s sc mode : Int) : (Bool × List Int × Int × Unit) × Int × Unit := if decOk n l s = true ∧ within sc 0 12 = true ∧ within mode 1 7 = true then
  (if s.toNat ≤ sc.toNat then made n (num l * 10 ^ (sc.toNat - s.toNat)) sc else made n (rquo n (num l) (10 ^ (s.toNat - sc.toNat)) mode) sc) else dForm
end Go.Proofs.YthbibdpbfgoghaaDoor.R
end

section
/-! Rf: products and quotients of decimals. -/
set_option autoImplicit false
set_option linter.unusedSimpArgs false
set_option linter.unusedVariables false
namespace Go.Proofs.YthbibdpbfgoghaaDoor.R
open Go.Rf
theorem signed_ev (n : Bool) (l : List Int) : Ev (fun k => F25 k n l) (((n, l, ()), ()), (((), (), ()), ())) := Ev.step 2 (fun k => F25_eq k _ _) (Ev.now _)
theorem len_lt {V m : Nat} (h : V < 10000 ^ m) : (digs V).length ≤ m := digs_len_le h
theorem lt_mul {A B a b : Nat} (ha : A < 10000 ^ a) (hb : B < 10000 ^ b) : A * B < 10000 ^ (a + b) := by
  rw [Nat.pow_add]
  have h1 : A * B ≤ A * 10000 ^ b := Nat.mul_le_mul_left _ (Nat.le_of_lt hb)
  have h2 : A * 10000 ^ b < 10000 ^ a * 10000 ^ b := Nat.mul_lt_mul_of_pos_right ha (Nat.pow_pos (by omega))
  omega
theorem ten_lt {m : Nat} (hm : m ≤ 28) : 10 ^ m < 10000 ^ 8 := by
  have h : (10000 : Nat) ^ 8 = 10 ^ 32 := by decide
  rw [h]
  exact Nat.pow_lt_pow_right (by omega) (by omega)
theorem rquo_le (neg : Bool) (V D : Nat) (mode : Int) : rquo neg V D mode ≤ V / D + 1 := by
  unfold rquo
  split
  · omega
  · split <;> omega
theorem rquo_len {neg : Bool} {V D m : Nat} {mode : Int} (h : V < 10000 ^ m) : (digs (rquo neg V D mode)).length ≤ m + 1 := by
  refine digs_len_le ?_
  have h1 := rquo_le neg V D mode
  have h2 : V / D ≤ V := Nat.div_le_self V D
  have h3 : (10000 : Nat) ^ (m + 1) = 10000 ^ m * 10000 := Nat.pow_succ ..
  have h4 : 0 < 10000 ^ m := Nat.pow_pos (by omega)
  omega
theorem mulNum {l1 l2 : List Int} (ra : InR l1) (rb : InR l2) : (VI l1 * VI l2).toNat = num l1 * num l2 := by
  rw [num_spec ra, num_spec rb, ← Int.natCast_mul, Int.toNat_natCast]
theorem mulTen {l1 : List Int} (ra : InR l1) (m : Nat) : (VI l1 * VI (digs (10 ^ m))).toNat = num l1 * 10 ^ m := by
  rw [num_spec ra, VI_digs, ← Int.natCast_mul, Int.toNat_natCast]
theorem len_num {l : List Int} (h : InR l) (t : Trim l) : ((l.length : Int) == 0) = decide (num l = 0) := by
  rw [← len_is0, digs_num h t]
/-- a quotient of decimals -/
def dDiv (n1 : Bool) (l1 : List Int) (s1 : Int) (n2 : Bool) (l2 : List Int) (s2 sc mode : Int) : (Bool × List Int × Int × Unit) × Int × Unit :=
  if decOk n1 l1 s1 = true ∧ decOk n2 l2 s2 = true ∧ within sc 0 12 = true ∧ within mode 1 7 = true then
    (if num l2 = 0 then ((false, [], 0, ()), 2, ()) else made (!(n1 == n2)) (rquo (!(n1 == n2)) (num l1 * 10 ^ (s2.toNat + sc.toNat)) (num l2 * 10 ^ s1.toNat) mode) sc) else dForm
section
variable (n1 : Bool) (l1 : List Int) (s1 : Int) (n2 : Bool) (l2 : List Int) (s2 sc mode : Int)
end
end Go.Proofs.YthbibdpbfgoghaaDoor.R
end

section
/-! Rf: products of decimals. -/
set_option autoImplicit false
set_option linter.unusedSimpArgs false
set_option linter.unusedVariables false
namespace Go.Proofs.YthbibdpbfgoghaaDoor.R
open Go.Rf
def dMul (n1 : Bool) (l1 : List Int) (s1 : Int) (n2 : Bool) (l2 : List Int) (s2 : Int) : (Bool × List Int × Int × Unit) × Int × Unit := if decOk n1 l1 s1 = true ∧ decOk n2 l2 s2 = true then
  (if s1 + s2 > 12 then made (!(n1 == n2)) (rquo (!(n1 == n2)) (num l1 * num l2) (10 ^ (s1.toNat + s2.toNat - 12)) 7) 12 else made (!(n1 == n2)) (num l1 * num l2) (s1 + s2)) else dForm
section
variable (n1 : Bool) (l1 : List Int) (s1 : Int) (n2 : Bool) (l2 : List Int) (s2 : Int)
end
end Go.Proofs.YthbibdpbfgoghaaDoor.R
end

section
/-! Rf, decimals: sums and differences, on both sides. -/
set_option autoImplicit false
set_option linter.unusedSimpArgs false
namespace Go.Proofs.YthbibdpbfgoghaaDoor.R
open Go.Rf
theorem made_len {neg : Bool} {n : Nat} {s : Int} (h : (digs n).length ≤ 100) : (made neg n s).1.2.1.length ≤ 1000 := by
  unfold made
  split
  · show ([] : List Int).length ≤ 1000
    simp
  · show (digs n).length ≤ 1000
    omega
theorem sSum_zero {na nb : Bool} {A : Nat} : sSum na A nb 0 = (na, A) := by
  unfold sSum
  split
  · rfl
  · rw [if_pos (Nat.zero_le _)]
    rfl
section
variable (n1 : Bool) (l1 : List Int) (s1 : Int) (n2 : Bool) (l2 : List Int) (s2 : Int)
/-- the sum of decimals; nb: the second's sign (turned where they are taken from each other) -/
def dSum (n1 : Bool) (l1 : List Int) (s1 : Int) (n2 : Bool) (l2 : List Int) (s2 : Int) (nb : Bool) : (Bool × List Int × Int × Unit) × Int × Unit := if decOk n1 l1 s1 = true ∧ decOk n2 l2 s2 = true then
  made (sSum n1 (num l1 * 10 ^ (max s1.toNat s2.toNat - s1.toNat)) nb (num l2 * 10 ^ (max s1.toNat s2.toNat - s2.toNat))).1 (sSum n1 (num l1 * 10 ^ (max s1.toNat s2.toNat - s1.toNat)) nb (num l2 * 10 ^ (max s1.toNat s2.toNat - s2.toNat))).2 ((max s1.toNat s2.toNat : Nat) : Int) else ((false, [], 0, ()), 1, ())
end
end Go.Proofs.YthbibdpbfgoghaaDoor.R
end

section
/-! Rf: decimals as whole numbers with a scale. -/
set_option autoImplicit false
set_option linter.unusedSimpArgs false
set_option linter.unusedVariables false
namespace Go.Proofs.YthbibdpbfgoghaaDoor.R
open Go.Rf
/-! ### figures -/
theorem decDigits_le : ∀ (k u : Nat), (Lib.decDigits u).length ≤ k + 1 → u < 10 ^ (k + 1)
  | 0, u, h => by
    by_cases hu : u < 10
    · simpa using hu
    · rw [Lib.decDigits, dif_neg hu, List.length_append] at h
      have : 0 < (Lib.decDigits (u / 10)).length := by
        rw [Lib.decDigits]; split <;> simp
      simp only [List.length_singleton] at h; omega
  | k + 1, u, h => by
    by_cases hu : u < 10
    · have : (1 : Nat) ≤ 10 ^ (k + 1) := Nat.pow_pos (by omega)
      rw [Nat.pow_succ]; omega
    · rw [Lib.decDigits, dif_neg hu, List.length_append] at h
      have := decDigits_le k (u / 10) (by simpa using h)
      rw [Nat.pow_succ]; omega
theorem dd1 {n : Nat} (h : n < 10) : Lib.decDigits n = [UInt8.ofNat (48 + n)] := by rw [Lib.decDigits, dif_pos h]
theorem ddS {n : Nat} (h : ¬ n < 10) : Lib.decDigits n = Lib.decDigits (n / 10) ++ [UInt8.ofNat (48 + n % 10)] := by rw [Lib.decDigits, dif_neg h]
theorem fig4_nat {n : Nat} (h : n < 10000) : fig4 (n : Int) = [UInt8.ofNat (48 + n / 1000), UInt8.ofNat (48 + n / 100 % 10), UInt8.ofNat (48 + n / 10 % 10), UInt8.ofNat (48 + n % 10)] := by
  rw [fig4, itoa_nat]
  by_cases h1 : n < 10
  · rw [dd1 h1, show n / 1000 = 0 by omega, show n / 100 = 0 by omega, show n / 10 = 0 by omega, show n % 10 = n by omega]
    rfl
  · by_cases h2 : n < 100
    · rw [ddS h1, dd1 (show n / 10 < 10 by omega), show n / 1000 = 0 by omega, show n / 100 = 0 by omega, show n / 10 % 10 = n / 10 by omega]
      rfl
    · by_cases h3 : n < 1000
      · rw [ddS h1, ddS (show ¬ n / 10 < 10 by omega), dd1 (show n / 10 / 10 < 10 by omega), show n / 1000 = 0 by omega, show n / 10 / 10 = n / 100 by omega, show n / 100 % 10 = n / 100 by omega]
        rfl
      · rw [ddS h1, ddS (show ¬ n / 10 < 10 by omega), ddS (show ¬ n / 10 / 10 < 10 by omega), dd1 (show n / 10 / 10 / 10 < 10 by omega), show n / 10 / 10 / 10 = n / 1000 by omega, show n / 10 / 10 = n / 100 by omega]
        rfl
theorem dd4 {n : Nat} (h : 10000 ≤ n) : Lib.decDigits n = Lib.decDigits (n / 10000) ++ fig4 ((n % 10000 : Nat) : Int) := by
  rw [fig4_nat (Nat.mod_lt _ (by omega)), ddS (show ¬ n < 10 by omega), ddS (show ¬ n / 10 < 10 by omega), ddS (show ¬ n / 10 / 10 < 10 by omega), ddS (show ¬ n / 10 / 10 / 10 < 10 by omega)]
  rw [show n / 10 / 10 / 10 / 10 = n / 10000 by omega, show n / 10 / 10 / 10 % 10 = n % 10000 / 1000 by omega, show n / 10 / 10 % 10 = n % 10000 / 100 % 10 by omega, show n / 10 % 10 = n % 10000 / 10 % 10 by omega, show n % 10 = n % 10000 % 10 by omega]
  simp only [List.append_assoc, List.singleton_append, List.cons_append, List.nil_append]
theorem figs_digs (n : Nat) (h : 0 < n) : figs (digs n) = Lib.decDigits n := by
  induction n using Nat.strongRecOn with
  | _ n ih =>
    rw [digs_pos (by omega)]
    by_cases h2 : n / 10000 = 0
    · rw [h2, digs_zero]
      show Lib.itoa _ = _
      rw [itoa_nat, show n % 10000 = n by omega]
    · have := ih (n / 10000) (by omega) (by omega)
      rw [dd4 (by omega), ← this]
      rw [digs_pos h2]
      rfl
theorem textL_digs (n : Nat) : textL (digs n) = ⟨(Lib.decDigits n).toArray⟩ := by
  by_cases h : n = 0
  · subst h
    rw [digs_zero, dd1 (by omega)]
    rfl
  · rw [textL_pos (by rw [digs_pos h]; simp), figs_digs n (by omega)]
theorem long_digs (n : Nat) : long (digs n) = if n = 0 then 0 else ((Lib.decDigits n).length : Int) := by
  unfold long
  by_cases h : n = 0
  · subst h; rw [digs_zero]; rfl
  · rw [if_neg h, if_neg (by rw [digs_pos h]; simp), textL_digs]
    rfl
theorem long30 (n : Nat) : long (digs n) > 30 ↔ ¬ n < 10 ^ 30 := by
  rw [long_digs]
  have h1 := decDigits_le 29 n
  have h2 := decDigits_len 29 n
  have h3 : (0 : Nat) < 10 ^ 30 := Nat.pow_pos (by omega)
  split
  · subst_vars
    constructor
    · intro h; omega
    · intro h; omega
  · constructor
    · intro h h'
      have := h2 h'
      omega
    · intro h
      have : ¬ (Lib.decDigits n).length ≤ 29 + 1 := fun h' => h (h1 h')
      omega
theorem lt30_16 {n : Nat} (h : n < 10 ^ 30) : n < 10000 ^ 16 := by
  have : (10 : Nat) ^ 30 < 10000 ^ 16 := by decide
  omega
theorem len16 {n : Nat} (h : n < 10 ^ 30) : (digs n).length ≤ 16 := digs_len_le (lt30_16 h)
theorem num_digs (n : Nat) : num (digs n) = n := by unfold num; rw [VI_digs]; rfl
/-! ### decimals -/
def sg (n : Bool) (A : Nat) : Int := if n = true then -(A : Int) else A
def D (z : Int) (s : Nat) : Bool × List Int × Int × Unit := (decide (z < 0), digs z.natAbs, (s : Int), ())
def mk (z : Int) (s : Nat) : (Bool × List Int × Int × Unit) × Int × Unit := if z.natAbs < 10 ^ 30 then (D z s, 0, ()) else ((false, [], 0, ()), 3, ())
theorem D_zero : D 0 0 = (false, [], 0, ()) := by
  unfold D
  rw [show (0 : Int).natAbs = 0 from rfl, digs_zero]
  rfl
theorem bOk_digs (z : Int) (h : z.natAbs < 10000 ^ 16) : bOk (decide (z < 0)) (digs z.natAbs) = true := by
  unfold bOk lastOk
  have h1 := digs_len_le h
  have h2 := digs_spec z.natAbs
  simp only [Bool.and_eq_true, decide_eq_true_eq]
  refine ⟨⟨h1, rangeOk_iff.2 h2.1⟩, ?_⟩
  by_cases h0 : z = 0
  · subst h0; rw [show (0 : Int).natAbs = 0 from rfl, digs_zero]; rfl
  · have hne : digs z.natAbs ≠ [] := fun e => h0 (by rw [digs_nil] at e; omega)
    rw [if_neg (fun e => hne (List.length_eq_zero_iff.1 e))]
    rcases h2.2.1 with h3 | h3
    · exact absurd h3 hne
    · exact bne_iff_ne.2 h3
theorem decOk_D {z : Int} {s : Nat} (h : z.natAbs < 10 ^ 30) (hs : s ≤ 12) : decOk (decide (z < 0)) (digs z.natAbs) (s : Int) = true := by
  unfold decOk
  rw [bOk_digs z (lt30_16 h), Bool.true_and, Bool.and_eq_true, decide_eq_true_eq]
  refine ⟨?_, ?_⟩
  · have h5 : ¬ long (digs z.natAbs) > 30 := fun h' => (long30 z.natAbs).1 h' h
    omega
  · unfold within
    simp; omega
theorem bOk_ex {n : Bool} {l : List Int} (h : bOk n l = true) : ∃ z : Int, n = decide (z < 0) ∧ l = digs z.natAbs ∧ z.natAbs < 10000 ^ 16 := by
  obtain ⟨h16, hr, ht, h0⟩ := bOk_of h
  refine ⟨sg n (num l), ?_, ?_, ?_⟩
  · unfold sg
    cases n with
    | false => simp
    | true =>
      have : l ≠ [] := fun e => by have := h0 e; cases this
      have := VI_pos hr ht this
      have h3 := num_spec hr
      simp; omega
  · have : (sg n (num l)).natAbs = num l := by unfold sg; split <;> omega
    rw [this, digs_num hr ht]
  · have : (sg n (num l)).natAbs = num l := by unfold sg; split <;> omega
    rw [this]
    have h1 := VI_lt hr
    rw [num_spec hr] at h1
    have h2 : num l < 10000 ^ l.length := by
      have : ((num l : Nat) : Int) < ((10000 ^ l.length : Nat) : Int) := by rw [Int.natCast_pow]; exact h1
      omega
    have h3 : 10000 ^ l.length ≤ 10000 ^ 16 := Nat.pow_le_pow_right (by omega) h16
    omega
theorem decOk_ex {n : Bool} {l : List Int} {s : Int} (h : decOk n l s = true) : ∃ (z : Int) (t : Nat), n = decide (z < 0) ∧ l = digs z.natAbs ∧ s = (t : Int) ∧ z.natAbs < 10 ^ 30 ∧ t ≤ 12 := by
  obtain ⟨h1, h2, t, h3, h4⟩ := decOk_of h
  obtain ⟨z, rfl, rfl, _⟩ := bOk_ex h1
  refine ⟨z, t, rfl, rfl, h3, ?_, h4⟩
  have h5 : ¬ ¬ z.natAbs < 10 ^ 30 := fun h' => by have := (long30 z.natAbs).2 h'; omega
  exact Decidable.not_not.1 h5
theorem sg_abs (n : Bool) (A : Nat) : (sg n A).natAbs = A := by unfold sg; split <;> omega
theorem made_mk (n : Bool) (A s : Nat) : made n A (s : Int) = mk (sg n A) s := by
  unfold made mk
  rw [sg_abs]
  have h := long30 A
  by_cases hA : A < 10 ^ 30
  · rw [if_neg (fun h' => h.1 h' hA), if_pos hA]
    unfold D
    rw [sg_abs, len_gt]
    have : (n && decide (A ≠ 0)) = decide (sg n A < 0) := by
      unfold sg
      cases n with
      | false => simp
      | true =>
        simp only [Bool.true_and, if_true]
        congr 1
        exact propext ⟨fun h => by omega, fun h => by omega⟩
    rw [this]
  · rw [if_pos (h.2 hA), if_neg hA]
theorem sg_sum (na : Bool) (A : Nat) (nb : Bool) (B : Nat) : sg (sSum na A nb B).1 (sSum na A nb B).2 = sg na A + sg nb B := by
  unfold sSum
  split
  · subst_vars
    unfold sg
    split <;> simp <;> omega
  · split
    · rename_i h1 h2
      unfold sg
      cases na <;> cases nb <;> simp_all <;> omega
    · rename_i h1 h2
      unfold sg
      cases na <;> cases nb <;> simp_all <;> omega
theorem sg_D (z : Int) : sg (decide (z < 0)) z.natAbs = z := by
  unfold sg
  by_cases h : z < 0
  · rw [if_pos (decide_eq_true h)]; omega
  · rw [if_neg (by simpa using h)]; omega
theorem sg_Dn (z : Int) : sg (!decide (z < 0)) z.natAbs = -z := by
  unfold sg
  by_cases h : z < 0
  · rw [decide_eq_true h]; simp; omega
  · rw [decide_eq_false h]; simp; omega
theorem sg_mul (n : Bool) (A k : Nat) : sg n (A * k) = sg n A * k := by
  unfold sg
  split
  · rw [Int.natCast_mul, Int.neg_mul]
  · rw [Int.natCast_mul]
theorem dSum_D {z1 z2 : Int} {s1 s2 : Nat} (h1 : z1.natAbs < 10 ^ 30) (h2 : z2.natAbs < 10 ^ 30) (t1 : s1 ≤ 12) (t2 : s2 ≤ 12) :
    dSum (decide (z1 < 0)) (digs z1.natAbs) (s1 : Int) (decide (z2 < 0)) (digs z2.natAbs) (s2 : Int) (decide (z2 < 0)) = mk (z1 * 10 ^ (max s1 s2 - s1) + z2 * 10 ^ (max s1 s2 - s2)) (max s1 s2) := by
  unfold dSum
  rw [if_pos ⟨decOk_D h1 t1, decOk_D h2 t2⟩, Int.toNat_natCast, Int.toNat_natCast, made_mk, sg_sum, sg_mul, sg_mul, num_digs, num_digs, sg_D, sg_D]
  simp only [Int.natCast_pow]
  rfl
theorem dSub_D {z1 z2 : Int} {s1 s2 : Nat} (h1 : z1.natAbs < 10 ^ 30) (h2 : z2.natAbs < 10 ^ 30) (t1 : s1 ≤ 12) (t2 : s2 ≤ 12) :
    dSum (decide (z1 < 0)) (digs z1.natAbs) (s1 : Int) (decide (z2 < 0)) (digs z2.natAbs) (s2 : Int) (!decide (z2 < 0)) = mk (z1 * 10 ^ (max s1 s2 - s1) - z2 * 10 ^ (max s1 s2 - s2)) (max s1 s2) := by
  unfold dSum
  rw [if_pos ⟨decOk_D h1 t1, decOk_D h2 t2⟩, Int.toNat_natCast, Int.toNat_natCast, made_mk, sg_sum, sg_mul, sg_mul, num_digs, num_digs, sg_D, sg_Dn]
  simp only [Int.natCast_pow, Int.neg_mul]
  rfl
def cmpZ (x y : Int) : Int := if x < y then -1 else if x = y then 0 else 1
theorem sCmp_sg {na nb : Bool} {A B : Nat} (ha : na = true → 0 < A) (hb : nb = true → 0 < B) : sCmp na A nb B = cmpZ (sg na A) (sg nb B) := by
  unfold sCmp cmpZ sg cmpI
  cases na <;> cases nb <;> simp at ha hb ⊢ <;> (repeat' split) <;> omega
theorem pow10_pos (k : Nat) : (0 : Int) < 10 ^ k := Int.pow_pos (by omega)
theorem dCmp_D {z1 z2 : Int} {s1 s2 : Nat} : dCmp (decide (z1 < 0)) (digs z1.natAbs) s1 (decide (z2 < 0)) (digs z2.natAbs) s2 = cmpZ (z1 * 10 ^ (max s1 s2 - s1)) (z2 * 10 ^ (max s1 s2 - s2)) := by
  unfold dCmp
  rw [num_digs, num_digs, sCmp_sg, sg_mul, sg_mul, sg_D, sg_D]
  · simp only [Int.natCast_pow]; rfl
  · intro h
    have : z1 < 0 := by simpa using h
    exact Nat.mul_pos (by omega) (Nat.pow_pos (by omega))
  · intro h
    have : z2 < 0 := by simpa using h
    exact Nat.mul_pos (by omega) (Nat.pow_pos (by omega))
/-- a quotient that is rounded, with sign -/
def rdiv (mode : Int) (z : Int) (d : Nat) : Int := sg (decide (z < 0)) (rquo (decide (z < 0)) z.natAbs d mode)
theorem dRound_D {z : Int} {s sc : Nat} {mode : Int} (h : z.natAbs < 10 ^ 30) (t : s ≤ 12) (hc : sc ≤ 12) (hm : 1 ≤ mode ∧ mode ≤ 7) :
    dRound (decide (z < 0)) (digs z.natAbs) (s : Int) (sc : Int) mode = if s ≤ sc then mk (z * 10 ^ (sc - s)) sc else mk (rdiv mode z (10 ^ (s - sc))) sc := by
  unfold dRound
  rw [if_pos ⟨decOk_D h t, by unfold within; simp; omega, by unfold within; simp; omega⟩, Int.toNat_natCast, Int.toNat_natCast]
  split
  · rw [made_mk, sg_mul, num_digs, sg_D]
    simp only [Int.natCast_pow]; rfl
  · rw [made_mk, num_digs]
    rfl
theorem sg_neg_zero (n : Bool) : sg n 0 = 0 := by unfold sg; split <;> rfl
theorem rquo_zero (n : Bool) (d : Nat) (mode : Int) : rquo n 0 d mode = 0 := by unfold rquo; simp
theorem neg_mul_lt {x y : Int} (hx : x < 0) (hy : 0 < y) : x * y < 0 := Int.mul_neg_of_neg_of_pos hx hy
/-- the sign of a product -/
theorem mul_neg (x y : Int) (h : x * y ≠ 0) : (!(decide (x < 0) == decide (y < 0))) = decide (x * y < 0) := by
  have hx : x ≠ 0 := fun e => h (by rw [e]; simp)
  have hy : y ≠ 0 := fun e => h (by rw [e]; simp)
  by_cases h1 : x < 0 <;> by_cases h2 : y < 0
  · have := Int.mul_pos_of_neg_of_neg h1 h2
    simp [h1, h2]; omega
  · have := Int.mul_neg_of_neg_of_pos h1 (show 0 < y by omega)
    simp [h1, h2]; omega
  · have := Int.mul_neg_of_pos_of_neg (show 0 < x by omega) h2
    simp [h1, h2]; omega
  · have := Int.mul_pos (show 0 < x by omega) (show 0 < y by omega)
    simp [h1, h2]; omega
theorem sg_prod (x y : Int) : sg (!(decide (x < 0) == decide (y < 0))) (x.natAbs * y.natAbs) = x * y := by
  rw [← Int.natAbs_mul]
  by_cases h : x * y = 0
  · rw [h]; exact sg_neg_zero _
  · rw [mul_neg x y h, sg_D]
theorem rdiv_prod (x y : Int) (d : Nat) (mode : Int) : sg (!(decide (x < 0) == decide (y < 0))) (rquo (!(decide (x < 0) == decide (y < 0))) (x.natAbs * y.natAbs) d mode) = rdiv mode (x * y) d := by
  rw [← Int.natAbs_mul]
  by_cases h : x * y = 0
  · rw [h]
    unfold rdiv
    rw [show (0 : Int).natAbs = 0 from rfl, rquo_zero, rquo_zero, sg_neg_zero, sg_neg_zero]
  · rw [mul_neg x y h]
    rfl
theorem dMul_D {z1 z2 : Int} {s1 s2 : Nat} (h1 : z1.natAbs < 10 ^ 30) (h2 : z2.natAbs < 10 ^ 30) (t1 : s1 ≤ 12) (t2 : s2 ≤ 12) :
    dMul (decide (z1 < 0)) (digs z1.natAbs) (s1 : Int) (decide (z2 < 0)) (digs z2.natAbs) (s2 : Int) = if s1 + s2 > 12 then mk (rdiv 7 (z1 * z2) (10 ^ (s1 + s2 - 12))) 12 else mk (z1 * z2) (s1 + s2) := by
  unfold dMul
  rw [if_pos ⟨decOk_D h1 t1, decOk_D h2 t2⟩, Int.toNat_natCast, Int.toNat_natCast, num_digs, num_digs]
  by_cases h : s1 + s2 > 12
  · rw [if_pos (by omega), if_pos h, show (12 : Int) = ((12 : Nat) : Int) from rfl, made_mk, rdiv_prod]
  · rw [if_neg (by omega), if_neg h, ← Int.natCast_add, made_mk, sg_prod]
theorem trimN_spec : ∀ (s V : Nat), (trimN V s).2 ≤ s ∧ (trimN V s).1 * 10 ^ (s - (trimN V s).2) = V ∧ ((trimN V s).2 = 0 ∨ (trimN V s).1 % 10 ≠ 0)
  | 0, V => by simp [trimN]
  | s + 1, V => by
    rw [trimN]
    split
    · obtain ⟨h1, h2, h3⟩ := trimN_spec s (V / 10)
      refine ⟨by omega, ?_, h3⟩
      rw [show s + 1 - (trimN (V / 10) s).2 = (s - (trimN (V / 10) s).2) + 1 by omega, Nat.pow_succ, ← Nat.mul_assoc, h2]
      omega
    · exact ⟨Nat.le_refl _, by simp, .inr (by assumption)⟩
theorem trimN_same {s V : Nat} (h : s = 0 ∨ V % 10 ≠ 0) : trimN V s = (V, s) := by
  cases s with
  | zero => rfl
  | succ s =>
    rw [trimN, if_neg (by omega)]
theorem dTrim_D {z : Int} {s : Nat} (h : z.natAbs < 10 ^ 30) (t : s ≤ 12) : ∃ (y : Int) (r : Nat), dTrim (decide (z < 0)) (digs z.natAbs) (s : Int) = D y r ∧ y.natAbs < 10 ^ 30 ∧ r ≤ s ∧ y * 10 ^ (s - r) = z ∧ (r = 0 ∨ y % 10 ≠ 0) := by
  obtain ⟨h1, h2, h3⟩ := trimN_spec s z.natAbs
  refine ⟨sg (decide (z < 0)) (trimN z.natAbs s).1, (trimN z.natAbs s).2, ?_, ?_, h1, ?_, ?_⟩
  · unfold dTrim
    rw [if_pos (decOk_D h t), Int.toNat_natCast, num_digs]
    unfold D
    rw [sg_abs]
    refine Prod.ext ?_ rfl
    show decide (z < 0) = decide (sg _ _ < 0)
    unfold sg
    by_cases hz : z < 0
    · have : (trimN z.natAbs s).1 ≠ 0 := fun e => by rw [e, Nat.zero_mul] at h2; omega
      simp [hz]; omega
    · simp [hz]
  · rw [sg_abs]
    have : (trimN z.natAbs s).1 ≤ z.natAbs := by
      conv => rhs; rw [← h2]
      exact Nat.le_mul_of_pos_right _ (Nat.pow_pos (by omega))
    omega
  · have : sg (decide (z < 0)) ((trimN z.natAbs s).1 * 10 ^ (s - (trimN z.natAbs s).2)) = z := by rw [h2, sg_D]
    rw [sg_mul, Int.natCast_pow] at this
    exact this
  · rcases h3 with h3 | h3
    · exact .inl h3
    · right
      unfold sg
      split <;> omega
theorem dTrim_same {z : Int} {s : Nat} (h : z.natAbs < 10 ^ 30) (t : s ≤ 12) (h3 : s = 0 ∨ z % 10 ≠ 0) : dTrim (decide (z < 0)) (digs z.natAbs) (s : Int) = D z s := by
  unfold dTrim
  rw [if_pos (decOk_D h t), Int.toNat_natCast, num_digs, trimN_same (by rcases h3 with h3 | h3; exact .inl h3; right; omega)]
  rfl
end Go.Proofs.YthbibdpbfgoghaaDoor.R
end

section
/-! Rf: values in order, types in order. -/
set_option autoImplicit false
set_option linter.unusedSimpArgs false
set_option linter.unusedVariables false
namespace Go.Proofs.YthbibdpbfgoghaaDoor.R
open Go.Rf
def bAt (s : ByteArray) (i : Nat) : Int := match s[i]? with
  | some u => (u.toNat : Int)
  | none => 0
theorem byteAt {s : ByteArray} {i : Nat} (h : i < s.size) : ∃ u : UInt8, s[i]? = some u ∧ bAt s i = (u.toNat : Int) := by
  have : s[i]? = some s[i] := getElem?_pos s i h
  exact ⟨s[i], this, by unfold bAt; rw [this]⟩
def figOk (s : ByteArray) : Bool := (List.range s.size).all fun i => within (bAt s i) 32 126
def textOk (s : ByteArray) : Bool := decide ((s.size : Int) ≤ 12) && figOk s
def noText (s : ByteArray) : Bool := s.toList == (⟨#[]⟩ : ByteArray).toList
def decZ (n : Bool) (l : List Int) (s : Int) : Bool := !n && (((l.length : Int) == 0) && (s == 0))
def dayOk (d : Int) : Bool := within d 1 3652059
def spanOk (m d : Int) : Bool := within m (-120000) 120000 && within d (-4000000) 4000000
/-- nothing but what the kind bears -/
def bareOk (k : Int) (y n : Bool) (l : List Int) (s day mo da : Int) (t : ByteArray) : Bool := ((k == 1) || !y) && (((k == 2) || decZ n l s) && (((k == 3) || (day == 0)) && (((k == 4) || ((mo == 0) && (da == 0))) && ((k == 5) || noText t))))
def bodyOk (k : Int) (n : Bool) (l : List Int) (s day mo da : Int) (t : ByteArray) : Bool := if k = 2 then decOk n l s else if k = 3 then dayOk day else if k = 4 then spanOk mo da else if k = 5 then textOk t else true
def vOk (k : Int) (y n : Bool) (l : List Int) (s day mo da : Int) (t : ByteArray) : Bool := within k 0 5 && (bareOk k y n l s day mo da t && bodyOk k n l s day mo da t)
theorem noText_ok {t : ByteArray} (h : noText t = true) : textOk t = true := by
  have h2 : t.data.toList = [] := by
    have h1 := eq_of_beq h
    rw [Lib.toList_data, Lib.toList_data] at h1
    exact h1
  have h3 : t.size = 0 := by
    show t.data.size = 0
    rw [← Array.length_toList, h2]; rfl
  unfold textOk figOk
  rw [h3]
  rfl
section
variable (k0 : Int) (y n : Bool) (l : List Int) (s day mo da : Int) (t : ByteArray)
/-- what is left of a value: nothing -/
def restZ (y n : Bool) (l : List Int) (s day mo da : Int) (t : ByteArray) : Bool := !y && (decZ n l s && ((day == 0) && (((mo == 0) && (da == 0)) && noText t)))
end
end Go.Proofs.YthbibdpbfgoghaaDoor.R
end

section
/-! Rf: keys: bytes on both sides. -/
set_option autoImplicit false
set_option linter.unusedSimpArgs false
set_option linter.unusedVariables false
namespace Go.Proofs.YthbibdpbfgoghaaDoor.R
open Go.Rf
def ba (K : List UInt8) : ByteArray := ⟨K.toArray⟩
def ints (K : List UInt8) : List Int := K.map fun b => (b.toNat : Int)
def u8 (z : Int) : UInt8 := UInt8.ofNat (IntKind.u8.wrap z).toNat
theorem wrap8 (z : Int) : IntKind.u8.wrap z = z % 256 := by
  unfold IntKind.wrap IntKind.bits IntKind.signed
  simp
theorem u8w (z : Int) : IntKind.u8.wrap z = ((u8 z).toNat : Int) := by
  unfold u8
  rw [wrap8, UInt8.toNat_ofNat']
  have h1 : 0 ≤ z % 256 := by omega
  have h2 : z % 256 < 256 := by omega
  omega
theorem bytes_ints (K : List UInt8) : bytesOf (ints K) = ba K := by
  unfold bytesOf ints ba
  rw [List.map_map]
  congr 2
  refine (List.map_congr_left (fun b _ => ?_)).trans (List.map_id K)
  show UInt8.ofNat ((b.toNat : Int)).toNat = b
  rw [Int.toNat_natCast]
  simp
theorem ints_len (K : List UInt8) : (ints K).length = K.length := by unfold ints; simp
theorem ba_size (K : List UInt8) : (ba K).size = K.length := rfl
theorem ba_data (K : List UInt8) : (ba K).data.toList = K := rfl
theorem ints_app (K L : List UInt8) : ints K ++ ints L = ints (K ++ L) := by unfold ints; rw [List.map_append]
theorem ba_app (K L : List UInt8) : ba K ++ ba L = ba (K ++ L) := by
  have : ∀ x y : ByteArray, x.data.toList = y.data.toList → x = y := fun x y h => by
    rw [← Lib.mk_data x, ← Lib.mk_data y, h]
  refine this _ _ ?_
  simp [ba, ByteArray.data_append]
theorem ba_get (K : List UInt8) (i : Nat) : (ba K)[i]? = K[i]? := by
  rcases Nat.lt_or_ge i K.length with h | h
  · rw [List.getElem?_eq_getElem h, getElem?_pos (ba K) i h]
    rfl
  · rw [List.getElem?_eq_none h, getElem?_neg (ba K) i (by rw [ba_size]; omega)]
theorem ints_get (K : List UInt8) (i : Nat) : (ints K)[i]? = (K[i]?).map fun b => (b.toNat : Int) := by unfold ints; rw [List.getElem?_map]
theorem ints1 (z : Int) : [IntKind.u8.wrap z] = ints [u8 z] := by rw [u8w]; rfl
theorem of_data (t : ByteArray) : ba t.data.toList = t := Lib.mk_data t
def turn (b : UInt8) : UInt8 := u8 (255 - (b.toNat : Int))
def flip (K : List UInt8) : List UInt8 := K.map turn
theorem fill_set {g : List Int} {i : Nat} (h : i < g.length) : (g.take i ++ List.replicate (g.length - i) (0 : Int)).set i g[i] = g.take (i + 1) ++ List.replicate (g.length - (i + 1)) (0 : Int) := by
  have e : g.length - i = (g.length - (i + 1)) + 1 := by omega
  have hl : (g.take i).length = i := by rw [List.length_take]; omega
  rw [e, List.replicate_succ, List.set_append_right (h := by omega), hl, Nat.sub_self, List.set_cons_zero, List.take_add_one, List.getElem?_eq_getElem h, Option.toList_some, List.append_assoc, List.singleton_append]
theorem fill_len {g : List Int} {i : Nat} (h : i ≤ g.length) : (g.take i ++ List.replicate (g.length - i) (0 : Int)).length = g.length := by
  rw [List.length_append, List.length_take, List.length_replicate]; omega
theorem fill_get {g : List Int} {i : Nat} (h : i < g.length) : (g.take i ++ List.replicate (g.length - i) (0 : Int))[i]? = some 0 := by
  rw [List.getElem?_append_right (by rw [List.length_take]; omega), List.length_take, show i - min i g.length = 0 by omega]
  rw [List.getElem?_replicate, if_pos (by omega)]
theorem flip_len (K : List UInt8) : (flip K).length = K.length := by unfold flip; simp
theorem flip_get {K : List UInt8} {i : Nat} (h : i < K.length) : (ints (flip K))[i]'(by rw [ints_len, flip_len]; exact h) = IntKind.u8.wrap (255 - (K[i].toNat : Int)) := by
  rw [u8w]
  unfold ints flip turn
  simp
def k3 (z : Int) : List UInt8 := [u8 (z / 65536), u8 (z / 256), u8 z]
end Go.Proofs.YthbibdpbfgoghaaDoor.R
end

section
/-! Rf: keys of numbers. -/
set_option autoImplicit false
set_option linter.unusedSimpArgs false
set_option linter.unusedVariables false
namespace Go.Proofs.YthbibdpbfgoghaaDoor.R
open Go.Rf
def gb (b : UInt8) : UInt8 := u8 (IntKind.u8.wrap ((b.toNat : Int) - 48) + 1)
def dig (W : List UInt8) : List UInt8 := W.map gb ++ [0]
def nk (neg : Bool) (hdr : UInt8) (W : List UInt8) : List UInt8 := if neg = true then 127 :: flip (hdr :: dig W) else 129 :: (hdr :: dig W)
theorem dig_len (W : List UInt8) : (dig W).length = W.length + 1 := by unfold dig; simp
theorem trimB_zero (T : List UInt8) : Lib.trimRightB (T ++ [48]) 48 = Lib.trimRightB T 48 := by
  unfold Lib.trimRightB
  rw [List.reverse_append]
  simp
theorem trimB_keep (T : List UInt8) (b : UInt8) (h : b ≠ 48) : Lib.trimRightB (T ++ [b]) 48 = T ++ [b] := by
  unfold Lib.trimRightB
  rw [List.reverse_append]
  simp [h]
theorem trimB_len (T : List UInt8) : (Lib.trimRightB T 48).length ≤ T.length := by
  unfold Lib.trimRightB
  rw [List.length_reverse]
  have := (List.dropWhile_sublist (fun x => x == (48 : UInt8)) (l := T.reverse)).length_le
  rw [List.length_reverse] at this
  exact this
theorem dd_some : ∀ (n : Nat), 0 < n → ∃ b ∈ Lib.decDigits n, b ≠ 48 := by
  intro n
  induction n using Nat.strongRecOn with
  | _ n ih =>
    intro hn
    unfold Lib.decDigits
    by_cases h : n < 10
    · rw [dif_pos h]
      refine ⟨UInt8.ofNat (48 + n), List.mem_cons_self, fun e => ?_⟩
      have := congrArg UInt8.toNat e
      rw [UInt8.toNat_ofNat'] at this
      have h48 : (48 : UInt8).toNat = 48 := rfl
      omega
    · rw [dif_neg h]
      obtain ⟨b, hb, hb2⟩ := ih (n / 10) (by omega) (by omega)
      exact ⟨b, List.mem_append_left _ hb, hb2⟩
section
variable {n : Bool} {l : List Int} {s : Int}
end
/-- the key of a number in order -/
def numK (n : Bool) (V r : Nat) : List UInt8 := if V = 0 then [128] else nk n (u8 (64 + ((Lib.decDigits V).length : Int) - r)) (Lib.trimRightB (Lib.decDigits V) 48)
end Go.Proofs.YthbibdpbfgoghaaDoor.R
end

section
/-! Rf: how values compare. -/
set_option autoImplicit false
set_option linter.unusedSimpArgs false
set_option linter.unusedVariables false
namespace Go.Proofs.YthbibdpbfgoghaaDoor.R
open Go.Rf
def zc (x y : Int) : Int := if x < y then -1 else if x > y then 1 else 0
def tc (a b : ByteArray) : Int := Lib.compareBytes a.data.toList b.data.toList
theorem less_cmp : ∀ (a b : List UInt8), (Op.bytesLess a b = true ↔ Lib.compareBytes a b = -1) ∧ ((Lib.compareBytes a b = 0) ↔ a = b) ∧ (Lib.compareBytes a b = -1 ∨ Lib.compareBytes a b = 0 ∨ Lib.compareBytes a b = 1)
  | [], [] => by simp [Op.bytesLess, Lib.compareBytes]
  | [], _ :: _ => by simp [Op.bytesLess, Lib.compareBytes]
  | _ :: _, [] => by simp [Op.bytesLess, Lib.compareBytes]
  | x :: a, y :: b => by
    obtain ⟨h1, h2, h3⟩ := less_cmp a b
    unfold Op.bytesLess Lib.compareBytes
    by_cases hxy : x = y
    · subst hxy
      have hlt : ¬ x < x := UInt8.lt_irrefl x
      simp only [hlt, decide_false, beq_self_eq_true, Bool.false_or, Bool.true_and, if_false, List.cons.injEq, true_and]
      exact ⟨h1, h2, h3⟩
    · by_cases hlt : x < y
      · simp [hlt, hxy]
      · have hgt : y < x := UInt8.lt_of_le_of_ne (UInt8.not_lt.1 hlt) (Ne.symm hxy)
        simp [hlt, hgt, hxy]
def bit (b : Bool) : Int := if b then 1 else 0
theorem bit_sub (b c : Bool) : IntKind.i64.wrap (bit b - bit c) = zc (bit b) (bit c) := by cases b <;> cases c <;> decide
/-- how two values of one kind compare -/
def vc (k0 : Int) (y1 n1 : Bool) (l1 : List Int) (s1 d1 m1 a1 : Int) (t1 : ByteArray) (y2 n2 : Bool) (l2 : List Int) (s2 d2 m2 a2 : Int) (t2 : ByteArray) : Int :=
  if k0 = 1 then zc (bit y1) (bit y2) else if k0 = 2 then dCmp n1 l1 s1.toNat n2 l2 s2.toNat else if k0 = 3 then zc d1 d2 else if k0 = 4 then (if m1 = m2 then zc a1 a2 else zc m1 m2) else tc t1 t2
def vo (k1 : Int) (y1 n1 : Bool) (l1 : List Int) (s1 d1 m1 a1 : Int) (t1 : ByteArray) (k2 : Int) (y2 n2 : Bool) (l2 : List Int) (s2 d2 m2 a2 : Int) (t2 : ByteArray) : Int :=
  if k1 = k2 then vc k1 y1 n1 l1 s1 d1 m1 a1 t1 y2 n2 l2 s2 d2 m2 a2 t2 else zc k1 k2
theorem zc_zero {x y : Int} : zc x y = 0 ↔ x = y := by
  unfold zc
  split
  · constructor <;> intro h <;> omega
  · split <;> constructor <;> intro h <;> omega
section
variable (k0 : Int) (y1 n1 : Bool) (l1 : List Int) (s1 d1 m1 a1 : Int) (t1 : ByteArray) (y2 n2 : Bool) (l2 : List Int) (s2 d2 m2 a2 : Int) (t2 : ByteArray)
theorem vOk_kind {k0 : Int} {y n : Bool} {l : List Int} {s day mo da : Int} {t : ByteArray} (h : vOk k0 y n l s day mo da t = true) : 0 ≤ k0 ∧ k0 ≤ 5 := by
  unfold vOk within at h
  simp only [Bool.and_eq_true, decide_eq_true_iff] at h
  exact ⟨h.1.1, h.1.2⟩
theorem noText_nil {t : ByteArray} (h : noText t = true) : t.data.toList = [] := by
  have h1 := eq_of_beq h
  rw [Lib.toList_data, Lib.toList_data] at h1
  exact h1
theorem vOk_noText {k0 : Int} {y n : Bool} {l : List Int} {s day mo da : Int} {t : ByteArray} (h : vOk k0 y n l s day mo da t = true) (h5 : k0 ≠ 5) : t.data.toList = [] := by
  unfold vOk bareOk at h
  rw [beq_eq_false_iff_ne.2 h5] at h
  simp only [Bool.and_eq_true, Bool.false_or] at h
  exact noText_nil h.2.1.2.2.2.2
end
section
variable (k1 : Int) (y1 n1 : Bool) (l1 : List Int) (s1 d1 m1 a1 : Int) (t1 : ByteArray) (k2 : Int) (y2 n2 : Bool) (l2 : List Int) (s2 d2 m2 a2 : Int) (t2 : ByteArray)
/-- what ValueOrder hands back -/
def vOrd : Int := if vOk k1 y1 n1 l1 s1 d1 m1 a1 t1 && vOk k2 y2 n2 l2 s2 d2 m2 a2 t2 then vo k1 y1 n1 l1 s1 d1 m1 a1 t1 k2 y2 n2 l2 s2 d2 m2 a2 t2 else 2
/-- can ValueCmp tell? -/
def vCan : Bool := vOk k1 y1 n1 l1 s1 d1 m1 a1 t1 && vOk k2 y2 n2 l2 s2 d2 m2 a2 t2 && (k1 != 0 && k1 == k2)
def vCmp : Int := if vCan k1 y1 n1 l1 s1 d1 m1 a1 t1 k2 y2 n2 l2 s2 d2 m2 a2 t2 then vc k1 y1 n1 l1 s1 d1 m1 a1 t1 y2 n2 l2 s2 d2 m2 a2 t2 else 0
variable (z1 : l1.length ≤ 1048576) (x1 : t1.size ≤ 1048576) (z2 : l2.length ≤ 1048576) (x2 : t2.size ≤ 1048576)
include z1 x1 z2 x2
end
end Go.Proofs.YthbibdpbfgoghaaDoor.R
end

section
/-! Rf: no key begins another. -/
set_option autoImplicit false
set_option linter.unusedSimpArgs false
set_option linter.unusedVariables false
namespace Go.Proofs.YthbibdpbfgoghaaDoor.R
open Go.Rf
theorem ba_list (K : List UInt8) : (ba K).toList = K := by rw [Lib.toList_data]; rfl
theorem u8_nat (z : Int) : ((u8 z).toNat : Int) = z % 256 := by rw [← u8w, wrap8]
def NumS (K : List UInt8) : Prop := K = [128] ∨ ∃ (neg : Bool) (hdr : UInt8) (W : List UInt8), (∀ b ∈ W, 48 ≤ b.toNat ∧ b.toNat ≤ 57) ∧ K = nk neg hdr W
structure BodyS (k0 : Int) (B : List UInt8) : Prop where
  s0 : k0 = 0 → B = []
  s1 : k0 = 1 → B.length = 1
  s2 : k0 = 2 → NumS B
  s3 : k0 = 3 → B.length = 3
  s4 : k0 = 4 → B.length = 6
  s5 : k0 = 5 → ∃ T : List UInt8, (∀ b ∈ T, b ≠ 0) ∧ B = T ++ [0]
theorem term_free : ∀ {T1 T2 : List UInt8}, (∀ b ∈ T1, b ≠ 0) → (∀ b ∈ T2, b ≠ 0) → T1 ++ [0] <+: T2 ++ [0] → T1 = T2
  | [], [], _, _, _ => rfl
  | [], y :: T2, _, h2, h => by
    have h : (0 : UInt8) :: [] <+: y :: (T2 ++ [0]) := h
    rw [List.cons_prefix_cons] at h
    exact absurd h.1.symm (h2 y List.mem_cons_self)
  | x :: T1, [], h1, _, h => by
    have h : x :: (T1 ++ [0]) <+: (0 : UInt8) :: [] := h
    rw [List.cons_prefix_cons] at h
    exact absurd h.1 (h1 x List.mem_cons_self)
  | x :: T1, y :: T2, h1, h2, h => by
    have h : x :: (T1 ++ [0]) <+: y :: (T2 ++ [0]) := h
    rw [List.cons_prefix_cons] at h
    rw [h.1, term_free (fun b hb => h1 b (List.mem_cons_of_mem _ hb)) (fun b hb => h2 b (List.mem_cons_of_mem _ hb)) h.2]
theorem gb_ne {b : UInt8} (h : 48 ≤ b.toNat ∧ b.toNat ≤ 57) : gb b ≠ 0 := fun e => by
  have h1 := congrArg UInt8.toNat e
  have h2 := u8_nat (IntKind.u8.wrap ((b.toNat : Int) - 48) + 1)
  rw [wrap8] at h2
  have h0 : (0 : UInt8).toNat = 0 := rfl
  have h3 : (gb b).toNat = (u8 (IntKind.u8.wrap ((b.toNat : Int) - 48) + 1)).toNat := rfl
  rw [wrap8] at h3
  omega
theorem dig_free {W1 W2 : List UInt8} (h1 : ∀ b ∈ W1, 48 ≤ b.toNat ∧ b.toNat ≤ 57) (h2 : ∀ b ∈ W2, 48 ≤ b.toNat ∧ b.toNat ≤ 57) (h : dig W1 <+: dig W2) : dig W1 = dig W2 := by
  have hh : ∀ {W : List UInt8}, (∀ b ∈ W, 48 ≤ b.toNat ∧ b.toNat ≤ 57) → ∀ b ∈ W.map gb, b ≠ 0 := fun {W} hW b hb => by
    obtain ⟨c, hc, rfl⟩ := List.mem_map.1 hb
    exact gb_ne (hW c hc)
  unfold dig at h ⊢
  rw [term_free (hh h1) (hh h2) h]
theorem turn_turn (b : UInt8) : turn (turn b) = b := by
  refine UInt8.toNat.inj ?_
  unfold turn
  have h1 := u8_nat (255 - ((u8 (255 - (b.toNat : Int))).toNat : Int))
  have h2 := u8_nat (255 - (b.toNat : Int))
  have h3 : b.toNat < 256 := UInt8.toNat_lt b
  omega
theorem flip_flip (K : List UInt8) : flip (flip K) = K := by
  unfold flip
  rw [List.map_map]
  exact (List.map_congr_left (fun b _ => turn_turn b)).trans (List.map_id K)
theorem flip_pre {a b : List UInt8} (h : flip a <+: flip b) : a <+: b := by
  have h2 : flip (flip a) <+: flip (flip b) := List.IsPrefix.map turn h
  rwa [flip_flip, flip_flip] at h2
theorem num_free {B1 B2 : List UInt8} (h1 : NumS B1) (h2 : NumS B2) (h : B1 <+: B2) : B1 = B2 := by
  rcases h1 with rfl | ⟨n1, d1, W1, w1, rfl⟩
  · rcases h2 with rfl | ⟨n2, d2, W2, w2, rfl⟩
    · rfl
    · unfold nk at h
      cases n2
      · rw [if_neg (by simp), List.cons_prefix_cons] at h; exact absurd h.1 (by decide)
      · rw [if_pos rfl, List.cons_prefix_cons] at h; exact absurd h.1 (by decide)
  · rcases h2 with rfl | ⟨n2, d2, W2, w2, rfl⟩
    · unfold nk at h
      cases n1
      · rw [if_neg (by simp), List.cons_prefix_cons] at h; exact absurd h.1 (by decide)
      · rw [if_pos rfl, List.cons_prefix_cons] at h; exact absurd h.1 (by decide)
    · have same : d1 :: dig W1 <+: d2 :: dig W2 → d1 :: dig W1 = d2 :: dig W2 := fun h => by
        rw [List.cons_prefix_cons] at h
        rw [h.1, dig_free w1 w2 h.2]
      unfold nk at h ⊢
      cases n1 <;> cases n2
      · simp only [Bool.false_eq_true, if_false] at h ⊢
        rw [List.cons_prefix_cons] at h
        rw [same h.2]
      · simp only [Bool.false_eq_true, if_false, if_true] at h ⊢
        rw [List.cons_prefix_cons] at h
        exact absurd h.1 (by decide)
      · simp only [Bool.false_eq_true, if_false, if_true] at h ⊢
        rw [List.cons_prefix_cons] at h
        exact absurd h.1 (by decide)
      · simp only [if_true] at h ⊢
        rw [List.cons_prefix_cons] at h
        rw [same (flip_pre h.2)]
theorem pre_len {a b : List UInt8} (h : a <+: b) (e : a.length = b.length) : a = b := h.eq_of_length e
theorem body_free {k0 : Int} {B1 B2 : List UInt8} (hk : 0 ≤ k0 ∧ k0 ≤ 5) (S1 : BodyS k0 B1) (S2 : BodyS k0 B2) (h : B1 <+: B2) : B1 = B2 := by
  have : k0 = 0 ∨ k0 = 1 ∨ k0 = 2 ∨ k0 = 3 ∨ k0 = 4 ∨ k0 = 5 := by omega
  rcases this with e | e | e | e | e | e
  · rw [S1.s0 e, S2.s0 e]
  · exact pre_len h (by rw [S1.s1 e, S2.s1 e])
  · exact num_free (S1.s2 e) (S2.s2 e) h
  · exact pre_len h (by rw [S1.s3 e, S2.s3 e])
  · exact pre_len h (by rw [S1.s4 e, S2.s4 e])
  · obtain ⟨T1, h1, rfl⟩ := S1.s5 e
    obtain ⟨T2, h2, rfl⟩ := S2.s5 e
    rw [term_free h1 h2 h]
theorem dd_range : ∀ (n : Nat), ∀ b ∈ Lib.decDigits n, 48 ≤ b.toNat ∧ b.toNat ≤ 57 := by
  intro n
  induction n using Nat.strongRecOn with
  | _ n ih =>
    intro b hb
    unfold Lib.decDigits at hb
    by_cases h : n < 10
    · rw [dif_pos h, List.mem_singleton] at hb
      rw [hb, UInt8.toNat_ofNat']
      omega
    · rw [dif_neg h, List.mem_append, List.mem_singleton] at hb
      rcases hb with hb | hb
      · exact ih (n / 10) (by omega) b hb
      · rw [hb, UInt8.toNat_ofNat']
        omega
theorem trim_mem {T : List UInt8} {c b : UInt8} (h : b ∈ Lib.trimRightB T c) : b ∈ T := by
  unfold Lib.trimRightB at h
  rw [List.mem_reverse] at h
  exact List.mem_reverse.1 ((List.dropWhile_sublist _).subset h)
section
variable {k0 : Int} {y n : Bool} {l : List Int} {s day mo da : Int} {t : ByteArray}
end
/-- no key begins another -/
theorem key_free {k1 k2 : Int} {B1 B2 : List UInt8} (h1 : 0 ≤ k1 ∧ k1 ≤ 5) (h2 : 0 ≤ k2 ∧ k2 ≤ 5) (S1 : BodyS k1 B1) (S2 : BodyS k2 B2) (h : u8 (IntKind.i64.wrap (k1 + 1)) :: B1 <+: u8 (IntKind.i64.wrap (k2 + 1)) :: B2) :
    u8 (IntKind.i64.wrap (k1 + 1)) :: B1 = u8 (IntKind.i64.wrap (k2 + 1)) :: B2 := by
  rw [List.cons_prefix_cons] at h
  have hk : k1 = k2 := by
    have e := congrArg UInt8.toNat h.1
    have a1 := u8_nat (k1 + 1)
    have a2 := u8_nat (k2 + 1)
    rw [wrap64 (by omega) (by omega), wrap64 (by omega) (by omega)] at e
    omega
  subst hk
  rw [body_free h1 S1 S2 h.2]
end Go.Proofs.YthbibdpbfgoghaaDoor.R
end

section
/-! Rf: figures are read. -/
set_option autoImplicit false
set_option linter.unusedSimpArgs false
set_option linter.unusedVariables false
namespace Go.Proofs.YthbibdpbfgoghaaDoor.R
open Go.Rf
/-- what figures say -/
def dv (L : List UInt8) : Nat := L.foldl (fun n b => n * 10 + (b.toNat - 48)) 0
def Dig (L : List UInt8) : Prop := ∀ b ∈ L, 48 ≤ b.toNat ∧ b.toNat ≤ 57
theorem Dig.app {K L : List UInt8} (h : Dig K) (h' : Dig L) : Dig (K ++ L) := fun b hb => (List.mem_append.1 hb).elim (h b) (h' b)
theorem Dig.take {L : List UInt8} (h : Dig L) (n : Nat) : Dig (L.take n) := fun b hb => h b (List.mem_of_mem_take hb)
theorem Dig.drop {L : List UInt8} (h : Dig L) (n : Nat) : Dig (L.drop n) := fun b hb => h b (List.mem_of_mem_drop hb)
theorem dv_from : ∀ (L : List UInt8) (acc : Nat), L.foldl (fun n b => n * 10 + (b.toNat - 48)) acc = acc * 10 ^ L.length + dv L
  | [], acc => by simp [dv]
  | b :: L, acc => by
    have h1 := dv_from L (acc * 10 + (b.toNat - 48))
    have h2 := dv_from L (0 * 10 + (b.toNat - 48))
    rw [List.foldl_cons, h1]
    unfold dv
    rw [List.foldl_cons, h2, List.length_cons, Nat.pow_succ, Nat.add_mul, Nat.zero_mul, Nat.zero_add, Nat.mul_assoc, Nat.mul_comm 10]
    unfold dv
    omega
theorem dv_app (K L : List UInt8) : dv (K ++ L) = dv K * 10 ^ L.length + dv L := by
  conv => lhs; unfold dv
  rw [List.foldl_append, dv_from]
  rfl
theorem dv_one (b : UInt8) : dv [b] = b.toNat - 48 := by simp [dv]
theorem dv_nil : dv [] = 0 := rfl
theorem dv_lt : ∀ {L : List UInt8}, Dig L → dv L < 10 ^ L.length
  | [], _ => by simp [dv]
  | b :: L, h => by
    have h1 := dv_lt (L := L) (fun x hx => h x (List.mem_cons_of_mem _ hx))
    have hb := h b List.mem_cons_self
    have e : dv (b :: L) = (b.toNat - 48) * 10 ^ L.length + dv L := by
      rw [show b :: L = [b] ++ L from rfl, dv_app, dv_one]
    rw [e, List.length_cons, Nat.pow_succ]
    have h2 : (b.toNat - 48) * 10 ^ L.length ≤ 9 * 10 ^ L.length := Nat.mul_le_mul_right _ (by omega)
    omega
theorem decFrom_dig : ∀ {L : List UInt8} (acc : Nat), Dig L → Lib.decFrom acc L = some (L.foldl (fun n b => n * 10 + (b.toNat - 48)) acc)
  | [], _, _ => rfl
  | b :: L, acc, h => by
    have hb := h b List.mem_cons_self
    rw [Lib.decFrom, show Lib.digitVal b = some (b.toNat - 48) by unfold Lib.digitVal; rw [if_pos hb], List.foldl_cons]
    exact decFrom_dig _ fun x hx => h x (List.mem_cons_of_mem _ hx)
theorem atoi_dig {L : List UInt8} (h : Dig L) (hne : L ≠ []) : Lib.atoi L = some (dv L : Int) := by
  cases L with
  | nil => exact absurd rfl hne
  | cons b L =>
    have hb := h b List.mem_cons_self
    have e1 : (b == 45) = false := by rw [beq_eq_false_iff_ne]; intro e; subst e; exact absurd hb.1 (by decide)
    have e2 : (b == 43) = false := by rw [beq_eq_false_iff_ne]; intro e; subst e; exact absurd hb.1 (by decide)
    rw [Lib.atoi, e1, e2]
    simp only [Bool.false_eq_true, if_false]
    rw [Lib.decNat, if_neg (by simp), decFrom_dig 0 h]
    rfl
theorem dv_dd (n : Nat) : dv (Lib.decDigits n) = n := by
  induction n using Nat.strongRecOn with
  | _ n ih =>
    by_cases h : n < 10
    · rw [dd1 h, dv_one, UInt8.toNat_ofNat']
      omega
    · rw [ddS h, dv_app, ih (n / 10) (by omega), dv_one, UInt8.toNat_ofNat']
      simp only [List.length_singleton, Nat.pow_one]
      omega
theorem ba_extract (L : List UInt8) (a b : Nat) : (ba L).extract a b = ba ((L.take b).drop a) := by
  have e := List.take_drop (i := b - a) (j := a) (l := L)
  rw [← Lib.mk_data ((ba L).extract a b)]
  show ba ((ba L).extract a b).data.toList = _
  rw [ByteArray.data_extract, Array.toList_extract]
  congr 1
  show ((L.drop a).take (b - a)) = _
  rw [e]
  by_cases hab : a ≤ b
  · rw [show a + (b - a) = b by omega]
  · rw [List.drop_eq_nil_of_le (by rw [List.length_take]; omega), List.drop_eq_nil_of_le (by rw [List.length_take]; omega)]
theorem atoi_ev {L : List UInt8} (h : Dig L) (hne : L ≠ []) (hl : L.length ≤ 18) : Ev (fun k => F44 k (ba L)) (((dv L : Int), true, ()), ((), ())) := by
  refine Ev.step 1 (fun k => F44_eq k _) ?_
  have : atoiR (ba L, ()) = some (((dv L : Int), true, ()), ((), ())) := by
    unfold atoiR
    show (match Lib.atoi L with | some n => _ | none => _) = _
    rw [atoi_dig h hne]
    show (bif Nat.ble (ba L).size 18 then _ else _) = _
    rw [Nat.ble_eq_true_of_le (show (ba L).size ≤ 18 by rw [ba_size]; exact hl)]
    rfl
  rw [this]
  exact Ev.now _
/-- figures, four of them a limb -/
theorem read_ev {L : List UInt8} (hL : Dig L) (hl : L.length ≤ 400) : Ev (fun k => F23 k (ba L)) ((digs (dv L), ()), ((), ())) := by
  have done : ∀ (x : List Int) (z : Int), z ≤ 0 → InR x → x.length ≤ 1000 → VI x = (dv L : Int) → Ev (fun k => F23c3 k (ba L) x z) ((digs (dv L), ()), ((), ())) := by
    intro x z hz hx hxl hV
    refine Ev.step 1 (fun k => F23c3_eq k _ _ _) ?_
    simp only [decide_eq_false (show ¬ z > 0 by omega), Bool.false_eq_true, if_false]
    have ht := trim_ev hx (by omega)
    rw [hV, Int.toNat_natCast] at ht
    exact Ev.bind ht (Ev.now _)
  have key : ∀ (m i : Nat) (x : List Int), i ≤ m → i ≤ L.length → x.length * 4 = L.length - i → InR x → VI x = (dv (L.drop i) : Int) → Ev (fun k => F23c3 k (ba L) x (i : Int)) ((digs (dv L), ()), ((), ())) := by
    intro m
    induction m with
    | zero =>
      intro i x hi hil hx4 hx hV
      obtain rfl : i = 0 := by omega
      rw [List.drop_zero] at hV
      exact done x _ (by omega) hx (by omega) hV
    | succ m ih =>
      intro i x hi hil hx4 hx hV
      by_cases h0 : i = 0
      · subst h0
        rw [List.drop_zero] at hV
        exact done x _ (by omega) hx (by omega) hV
      have ew : IntKind.i64.wrap ((i : Int) - 4) = (i : Int) - 4 := wrap64 (by omega) (by omega)
      have ef : (if (i : Int) - 4 > 0 then (i : Int) - 4 else 0) = ((i - 4 : Nat) : Int) := by split <;> omega
      have hC : Dig ((L.take i).drop (i - 4)) := (hL.take i).drop _
      have hCl : ((L.take i).drop (i - 4)).length = i - (i - 4) := by rw [List.length_drop, List.length_take, Nat.min_eq_left hil]
      have hCn : (L.take i).drop (i - 4) ≠ [] := fun e => by rw [e] at hCl; simp at hCl; omega
      have hd := dv_lt hC
      have hd4 : dv ((L.take i).drop (i - 4)) < 10000 := by
        have : 10 ^ ((L.take i).drop (i - 4)).length ≤ 10 ^ 4 := Nat.pow_le_pow_right (by omega) (by rw [hCl]; omega)
        omega
      have hsplit : L.drop (i - 4) = (L.take i).drop (i - 4) ++ L.drop i := by
        conv => lhs; rw [← List.take_append_drop i L]
        rw [List.drop_append_of_le_length (by rw [List.length_take]; omega)]
      have hV2 : VI (x ++ [(dv ((L.take i).drop (i - 4)) : Int)]) = (dv (L.drop (i - 4)) : Int) := by
        have e4 : (10 : Nat) ^ (x.length * 4) = 10000 ^ x.length := by rw [Nat.mul_comm, Nat.pow_mul]
        rw [VI_snoc, hV, hsplit, dv_app, List.length_drop, ← hx4, e4]
        rw [Int.natCast_add, Int.natCast_mul, Int.natCast_pow, Int.add_comm]
        rfl
      have hx2 : InR (x ++ [(dv ((L.take i).drop (i - 4)) : Int)]) := inrSnoc hx (by omega)
      have next : Ev (fun k => F23c3 k (ba L) (x ++ [(dv ((L.take i).drop (i - 4)) : Int)]) ((i : Int) - 4)) ((digs (dv L), ()), ((), ())) := by
        by_cases h4 : 4 ≤ i
        · rw [show (i : Int) - 4 = ((i - 4 : Nat) : Int) by omega]
          exact ih (i - 4) _ (by omega) (by omega) (by rw [List.length_append]; simp; omega) hx2 hV2
        · refine done _ _ (by omega) hx2 (by rw [List.length_append]; simp; omega) ?_
          rw [hV2, show i - 4 = 0 by omega, List.drop_zero]
      refine Ev.step 1 (fun k => F23c3_eq k _ _ _) ?_
      have c1 : (decide (0 ≤ ((i - 4 : Nat) : Int)) && decide (((i - 4 : Nat) : Int) ≤ (i : Int)) && decide ((i : Int) ≤ ((ba L).size : Int))) = true := by
        rw [ba_size]; simp; omega
      have c2 : decide (x.length + [(dv ((L.take i).drop (i - 4)) : Int)].length ≤ 17592186044416) = true := decide_eq_true (by simp; omega)
      simp only [decide_eq_true (show (i : Int) > 0 by omega), if_true, ew, ef, c1, Int.toNat_natCast, ba_extract]
      refine Ev.bind (atoi_ev hC hCn (by rw [hCl]; omega)) ?_
      simp only [c2, if_true]
      exact next
  refine Ev.step 2 (fun k => F23_eq k _) ?_
  rw [ba_size]
  exact key L.length L.length [] (Nat.le_refl _) (Nat.le_refl _) (by simp) InR.nil (by rw [List.drop_length]; rfl)
end Go.Proofs.YthbibdpbfgoghaaDoor.R
end

section
/-! Rf: the program's own sums, products and comparisons of big numbers. -/
set_option autoImplicit false
set_option linter.unusedSimpArgs false
set_option linter.unusedVariables false
namespace Go.Proofs.YthbibdpbfgoghaaDoor.R
open Go.Rf
theorem bigs_ev {x y : Int} (hx : x.natAbs < 10000 ^ 16) (hy : y.natAbs < 10000 ^ 16) : Ev (fun k => F24 k (decide (x < 0)) (digs x.natAbs) (decide (y < 0)) (digs y.natAbs)) ((true, ()), (((), (), ()), ((), (), ()), ())) := by
  have l1 := digs_len_le hx
  have l2 := digs_len_le hy
  have o1 := BigOk_ev (decide (x < 0)) (digs x.natAbs) (by omega)
  have o2 := BigOk_ev (decide (y < 0)) (digs y.natAbs) (by omega)
  rw [bOk_digs x hx] at o1
  rw [bOk_digs y hy] at o2
  refine Ev.step 2 (fun k => F24_eq k _ _ _ _) (Ev.bind o1 ?_)
  simp only [if_true]
  exact Ev.bind o2 (Ev.now _)
theorem bigZ {n : Bool} {A : Nat} {z : Int} (e : sg n A = z) (hz : z.natAbs < 10000 ^ 16) : Ev (fun k => F22 k n (digs A)) (((decide (z < 0), digs z.natAbs, ()), true, ()), ((), (), ())) := by
  have ea : z.natAbs = A := by rw [← e, sg_abs]
  have hl : (digs A).length ≤ 16 := by rw [← ea]; exact digs_len_le hz
  have := big_ev (neg := n) hl
  have en : (n && decide (A ≠ 0)) = decide (z < 0) := by
    rw [← e]
    unfold sg
    cases n
    · rw [Bool.false_and, if_neg (by simp)]
      exact (decide_eq_false (by omega)).symm
    · rw [Bool.true_and, if_pos rfl, decide_eq_decide]
      omega
  rw [en] at this
  rw [ea]
  exact this
theorem bigCmpZ {x y : Int} (hx : x.natAbs < 10000 ^ 16) (hy : y.natAbs < 10000 ^ 16) : Ev (fun k => F10 k (decide (x < 0)) (digs x.natAbs) (decide (y < 0)) (digs y.natAbs)) ((cmpZ x y, ()), (((), (), ()), ((), (), ()), ())) := by
  have l1 := digs_len_le hx
  have l2 := digs_len_le hy
  have m := sAdd_ev (na := decide (x < 0)) (nb := !decide (y < 0)) (A := x.natAbs) (B := y.natAbs) (by omega) (by omega)
  have e : sg (sSum (decide (x < 0)) x.natAbs (!decide (y < 0)) y.natAbs).1 (sSum (decide (x < 0)) x.natAbs (!decide (y < 0)) y.natAbs).2 = x - y := by rw [sg_sum, sg_D, sg_Dn]; omega
  have s := sign_ev (neg := (sSum (decide (x < 0)) x.natAbs (!decide (y < 0)) y.natAbs).1) (A := (sSum (decide (x < 0)) x.natAbs (!decide (y < 0)) y.natAbs).2)
  have es : (if (sSum (decide (x < 0)) x.natAbs (!decide (y < 0)) y.natAbs).2 = 0 then 0 else if (sSum (decide (x < 0)) x.natAbs (!decide (y < 0)) y.natAbs).1 = true then -1 else 1 : Int) = cmpZ x y := by
    generalize sSum (decide (x < 0)) x.natAbs (!decide (y < 0)) y.natAbs = p at e
    obtain ⟨n, A⟩ := p
    unfold sg at e
    unfold cmpZ
    cases n
    · simp at e ⊢
      by_cases h : A = 0
      · rw [if_pos h, if_neg (by omega), if_pos (by omega)]
      · rw [if_neg h, if_neg (by omega), if_neg (by omega)]
    · simp at e ⊢
      by_cases h : A = 0
      · rw [if_pos h, if_neg (by omega), if_pos (by omega)]
      · rw [if_neg h, if_pos (by omega)]
  rw [es] at s
  refine Ev.step 2 (fun k => F10_eq k _ _ _ _) (Ev.bind (bigs_ev hx hy) ?_)
  simp only [Bool.not_true, Bool.false_eq_true, if_false]
  exact Ev.bind (signed_ev _ _) (Ev.bind (signed_ev _ _) (Ev.bind (Ev.step 2 (fun k => F27_eq k _ _) (Ev.now _)) (Ev.bind m (Ev.bind s (Ev.now _)))))
theorem natNeg (n : Nat) : decide ((n : Int) < 0) = false := decide_eq_false (by omega)
theorem rquo_off {neg : Bool} {V d : Nat} {m : Int} (hd : 0 < d) : ((V : Int) - (rquo neg V d m : Nat) * d).natAbs < d ∧ (5 ≤ m → m ≤ 7 → 2 * ((V : Int) - (rquo neg V d m : Nat) * d).natAbs ≤ d) := by
  have h1 := Nat.div_add_mod V d
  have h2 := Nat.mod_lt V hd
  have hc : (V : Int) = (V / d : Nat) * d + (V % d : Nat) := by
    rw [← Int.natCast_mul, ← Int.natCast_add, Nat.mul_comm, h1]
  unfold rquo
  by_cases h0 : V % d = 0
  · rw [if_pos h0, hc, h0]
    constructor
    · rw [show ((V / d : Nat) : Int) * d + ((0 : Nat) : Int) - (V / d : Nat) * d = 0 by omega]; exact hd
    · intro _ _
      rw [show ((V / d : Nat) : Int) * d + ((0 : Nat) : Int) - (V / d : Nat) * d = 0 by omega]; exact Nat.zero_le _
  rw [if_neg h0]
  by_cases hr : rmore m neg (decide (V / d % 2 = 1)) (cmpI (V % d + V % d) d) = true
  · rw [if_pos hr]
    have e : ((V : Int) - ((V / d + 1 : Nat) : Int) * d).natAbs = d - V % d := by
      rw [hc, Int.natCast_add, Int.add_mul]
      omega
    rw [e]
    refine ⟨by omega, fun h5 h7 => ?_⟩
    have hh : d ≤ V % d + V % d := by
      refine Decidable.by_contra fun hn => ?_
      have hl : cmpI (V % d + V % d) d = -1 := by unfold cmpI; rw [if_pos (by omega)]
      rw [hl] at hr
      unfold rmore at hr
      rw [if_neg (by omega), if_neg (by omega), if_neg (by omega), if_neg (by omega)] at hr
      by_cases c5 : m = 5
      · rw [if_pos c5] at hr; simp at hr
      by_cases c6 : m = 6
      · rw [if_neg c5, if_pos c6] at hr; simp at hr
      · rw [if_neg c5, if_neg c6] at hr; simp at hr
    omega
  · rw [if_neg hr]
    have e : ((V : Int) - ((V / d : Nat) : Int) * d).natAbs = V % d := by
      rw [hc]
      omega
    rw [e]
    refine ⟨h2, fun h5 h7 => ?_⟩
    refine Decidable.by_contra fun hn => hr ?_
    have hl : cmpI (V % d + V % d) d = 1 := by unfold cmpI; rw [if_neg (by omega), if_neg (by omega)]
    rw [hl]
    unfold rmore
    rw [if_neg (by omega), if_neg (by omega), if_neg (by omega), if_neg (by omega)]
    by_cases c5 : m = 5
    · rw [if_pos c5]; simp
    by_cases c6 : m = 6
    · rw [if_neg c5, if_pos c6]; simp
    · rw [if_neg c5, if_neg c6]; simp
end Go.Proofs.YthbibdpbfgoghaaDoor.R
end

section
/-! Rf: what the laws draw: numbers and decimals. -/
set_option autoImplicit false
set_option linter.unusedSimpArgs false
set_option linter.unusedVariables false
namespace Go.Proofs.YthbibdpbfgoghaaDoor.R
open Go.Rf
/-- a reader's bytes -/
structure Rd (bs : List Int) : Prop where
  len : bs.length ≤ 2000
  b8 : ∀ y ∈ bs, 0 ≤ y ∧ y ≤ 255
theorem xor_small {a b : Int} (ha : 0 ≤ a) (ha2 : a < 4611686018427387904) (hb : 0 ≤ b) (hb2 : b < 4611686018427387904) : 0 ≤ IntKind.i64.wrap (((BitVec.ofInt IntKind.i64.bits a ^^^ BitVec.ofInt IntKind.i64.bits b).toNat : Nat) : Int) := by
  have e : IntKind.i64.bits = 64 := rfl
  have h1 : (BitVec.ofInt IntKind.i64.bits a).toNat < 2 ^ 62 := by
    rw [BitVec.toNat_ofInt, e]
    omega
  have h2 : (BitVec.ofInt IntKind.i64.bits b).toNat < 2 ^ 62 := by
    rw [BitVec.toNat_ofInt, e]
    omega
  have h3 : (BitVec.ofInt IntKind.i64.bits a ^^^ BitVec.ofInt IntKind.i64.bits b).toNat < 2 ^ 62 := by
    rw [BitVec.toNat_xor]
    exact Nat.xor_lt_two_pow h1 h2
  rw [wrap64 (by omega) (by omega)]
  omega
theorem tmod_range {x n : Int} (hx : 0 ≤ x) (hn : 1 ≤ n) : 0 ≤ x.tmod n ∧ x.tmod n < n := by
  rw [Int.tmod_eq_emod_of_nonneg hx]
  exact ⟨Int.emod_nonneg _ (by omega), Int.emod_lt_of_pos _ (by omega)⟩
theorem pick_ev {bs : List Int} (hb : Rd bs) {p : Nat} (hp : p ≤ 1000000000) (n : Int) : ∃ v : Int, (0 ≤ v ∧ (1 ≤ n → v < n) ∧ (n < 1 → v = 0)) ∧ Ev (fun k => F31 k bs (p : Int) n) ((v, ()), ((bs, ((p + 1 : Nat) : Int), ()), (), ())) := by
  have e1 : IntKind.i64.wrap ((p : Int) + 1) = ((p + 1 : Nat) : Int) := wrap_succ (by omega)
  have e2 : IntKind.i64.wrap (((p + 1 : Nat) : Int) - 1) = (p : Int) := by rw [wrap64 (by omega) (by omega)]; omega
  have st : ∀ {r}, Ev (fun _ => if (decide (n < (1 : Int))) = true then some (((0 : Int), ()), ((bs, ((p + 1 : Nat) : Int), ()), (), ())) else if ((bs.length : Int) == (0 : Int)) = true then some (((0 : Int), ()), ((bs, ((p + 1 : Nat) : Int), ()), (), ())) else if (decide ((p : Int) < (bs.length : Int))) = true then if (decide (0 ≤ (p : Int))) = true then (bs[((p : Int)).toNat]?).bind fun y1 => if (!(n == 0)) = true then some ((((IntKind.i64.wrap y1).tmod n), ()), ((bs, ((p + 1 : Nat) : Int), ()), (), ())) else none else none else if (!((bs.length : Int) == 0)) = true then if (decide (0 ≤ ((p : Int).tmod (bs.length : Int)))) = true then (bs[((p : Int).tmod (bs.length : Int)).toNat]?).bind fun y2 => if (!((bs.length : Int) == 0)) = true then if (decide (0 ≤ ((IntKind.i64.wrap ((IntKind.i64.wrap ((p : Int) * (7 : Int))) + (3 : Int))).tmod (bs.length : Int)))) = true then (bs[((IntKind.i64.wrap ((IntKind.i64.wrap ((p : Int) * (7 : Int))) + (3 : Int))).tmod (bs.length : Int)).toNat]?).bind fun y3 => if (!((bs.length : Int) == 0)) = true then if (!(n == 0)) = true then some ((((IntKind.i64.wrap (((BitVec.ofInt IntKind.i64.bits (IntKind.i64.wrap ((IntKind.i64.wrap ((IntKind.i64.wrap ((IntKind.i64.wrap ((IntKind.i64.wrap y2) * (131 : Int))) + (IntKind.i64.wrap ((IntKind.i64.wrap y3) * (1117 : Int))))) + (IntKind.i64.wrap ((p : Int) * (29 : Int))))) + (IntKind.i64.wrap ((IntKind.i64.wrap ((p : Int).tdiv (bs.length : Int))) * (53 : Int))))) ^^^ BitVec.ofInt IntKind.i64.bits (IntKind.i64.wrap ((IntKind.i64.wrap ((IntKind.i64.wrap ((IntKind.i64.wrap ((IntKind.i64.wrap ((IntKind.i64.wrap y2) * (131 : Int))) + (IntKind.i64.wrap ((IntKind.i64.wrap y3) * (1117 : Int))))) + (IntKind.i64.wrap ((p : Int) * (29 : Int))))) + (IntKind.i64.wrap ((IntKind.i64.wrap ((p : Int).tdiv (bs.length : Int))) * (53 : Int))))).tdiv (64 : Int)))).toNat : Int))).tmod n), ()), ((bs, ((p + 1 : Nat) : Int), ()), (), ())) else none else none else none else none else none else none) r → Ev (fun k => F31 k bs (p : Int) n) r := by
    intro r h
    refine Ev.step 2 (fun k => F31_eq k _ _ _) ?_
    simp only [e1, e2]
    exact h
  by_cases h1 : n < 1
  · refine ⟨0, ⟨Int.le_refl _, fun h => by omega, fun _ => rfl⟩, st ?_⟩
    simp only [decide_eq_true h1, if_true]
    exact Ev.now _
  · have hn : (!(n == 0)) = true := by simp; omega
    by_cases h2 : bs.length = 0
    · refine ⟨0, ⟨Int.le_refl _, fun h => by omega, fun _ => rfl⟩, st ?_⟩
      simp only [decide_eq_false h1, Bool.false_eq_true, if_false, h2, Int.ofNat_zero, beq_self_eq_true, if_true]
      exact Ev.now _
    · have hl0 : ((bs.length : Int) == 0) = false := by rw [beq_eq_false_iff_ne]; omega
      by_cases h3 : p < bs.length
      · obtain ⟨y, hy⟩ : ∃ y, bs[p]? = some y := ⟨_, List.getElem?_eq_getElem h3⟩
        have hy8 := hb.b8 y (List.mem_of_getElem? hy)
        have hr := tmod_range (n := n) hy8.1 (by omega)
        refine ⟨y.tmod n, ⟨hr.1, fun _ => hr.2, fun h => by omega⟩, st ?_⟩
        have ey : IntKind.i64.wrap y = y := wrap64 (by omega) (by omega)
        simp only [decide_eq_false h1, Bool.false_eq_true, if_false, hl0, lt_true h3, ge0, if_true, Int.toNat_natCast, hy, Option.bind_some, hn, ey]
        exact Ev.now _
      · have hpos : (0 : Int) < (bs.length : Int) := by omega
        have t1 := tmod_range (x := (p : Int)) (n := (bs.length : Int)) (by omega) (by omega)
        have w7 : IntKind.i64.wrap ((p : Int) * 7) = (p : Int) * 7 := wrap64 (by omega) (by omega)
        have w73 : IntKind.i64.wrap ((p : Int) * 7 + 3) = (p : Int) * 7 + 3 := wrap64 (by omega) (by omega)
        have t2 := tmod_range (x := (p : Int) * 7 + 3) (n := (bs.length : Int)) (by omega) (by omega)
        obtain ⟨y, hy⟩ : ∃ y, bs[((p : Int).tmod (bs.length : Int)).toNat]? = some y := ⟨_, List.getElem?_eq_getElem (by omega)⟩
        obtain ⟨z, hz⟩ : ∃ z, bs[((((p : Int) * 7 + 3)).tmod (bs.length : Int)).toNat]? = some z := ⟨_, List.getElem?_eq_getElem (by omega)⟩
        have hy8 := hb.b8 y (List.mem_of_getElem? hy)
        have hz8 := hb.b8 z (List.mem_of_getElem? hz)
        have ey : IntKind.i64.wrap y = y := wrap64 (by omega) (by omega)
        have ez : IntKind.i64.wrap z = z := wrap64 (by omega) (by omega)
        have d0 : 0 ≤ (p : Int).tdiv (bs.length : Int) ∧ (p : Int).tdiv (bs.length : Int) ≤ (p : Int) := by
          rw [Int.tdiv_eq_ediv_of_nonneg (by omega)]
          exact ⟨Int.ediv_nonneg (by omega) (by omega), Int.ediv_le_self _ (by omega)⟩
        obtain ⟨d, hd⟩ : ∃ d, d = (p : Int).tdiv (bs.length : Int) := ⟨_, rfl⟩
        rw [← hd] at d0
        have w1 : IntKind.i64.wrap (y * 131) = y * 131 := wrap64 (by omega) (by omega)
        have w2 : IntKind.i64.wrap (z * 1117) = z * 1117 := wrap64 (by omega) (by omega)
        have w3 : IntKind.i64.wrap (y * 131 + z * 1117) = y * 131 + z * 1117 := wrap64 (by omega) (by omega)
        have w4 : IntKind.i64.wrap ((p : Int) * 29) = (p : Int) * 29 := wrap64 (by omega) (by omega)
        have w5 : IntKind.i64.wrap (y * 131 + z * 1117 + (p : Int) * 29) = y * 131 + z * 1117 + (p : Int) * 29 := wrap64 (by omega) (by omega)
        have w6 : IntKind.i64.wrap d = d := wrap64 (by omega) (by omega)
        have w8 : IntKind.i64.wrap (d * 53) = d * 53 := wrap64 (by omega) (by omega)
        obtain ⟨X, hX⟩ : ∃ X, X = y * 131 + z * 1117 + (p : Int) * 29 + d * 53 := ⟨_, rfl⟩
        have hX0 : 0 ≤ X ∧ X ≤ 1000000000000 := by omega
        have w9 : IntKind.i64.wrap X = X := wrap64 (by omega) (by omega)
        have q0 : 0 ≤ X.tdiv 64 ∧ X.tdiv 64 ≤ X := by
          rw [Int.tdiv_eq_ediv_of_nonneg (by omega)]
          omega
        have w10 : IntKind.i64.wrap (X.tdiv 64) = X.tdiv 64 := wrap64 (by omega) (by omega)
        have hx := xor_small (a := X) (b := X.tdiv 64) (by omega) (by omega) (by omega) (by omega)
        have hr := tmod_range (n := n) hx (by omega)
        refine ⟨_, ⟨hr.1, fun _ => hr.2, fun h => by omega⟩, st ?_⟩
        simp only [decide_eq_false h1, Bool.false_eq_true, if_false, hl0, lt_false (show bs.length ≤ p by omega), Bool.not_false, if_true, decide_eq_true t1.1, hy, Option.bind_some, w7, w73, decide_eq_true t2.1, hz, hn, ey, ez, w1, w2, w3, w4, w5, ← hd, w6, w8, ← hX, w9, w10]
        exact Ev.now _
theorem one_ev {bs : List Int} (hb : Rd bs) {p : Nat} (hp : p ≤ 1000000000) (l : List Int) (hl : 0 < l.length) : ∃ v ∈ l, Ev (fun k => F32 k bs (p : Int) l) ((v, ()), ((bs, ((p + 1 : Nat) : Int), ()), (), ())) := by
  obtain ⟨v, ⟨h0, h1, _⟩, h2⟩ := pick_ev hb hp (l.length : Int)
  have h1 := h1 (by omega)
  obtain ⟨y, hy⟩ : ∃ y, l[v.toNat]? = some y := ⟨_, List.getElem?_eq_getElem (by omega)⟩
  refine ⟨y, List.mem_of_getElem? hy, Ev.step 2 (fun k => F32_eq k _ _ _) (Ev.bind h2 ?_)⟩
  simp only [decide_eq_true h0, decide_eq_true h1, Bool.and_self, if_true, hy, Option.bind_some]
  exact Ev.now _
/-! ### figures -/
def Fig (s : ByteArray) : Prop := ∀ b ∈ s.data.toList, 48 ≤ b.toNat ∧ b.toNat ≤ 57
theorem Fig.app {s t : ByteArray} (hs : Fig s) (ht : Fig t) : Fig (s ++ t) := by
  intro b hb
  rw [ByteArray.data_append, Array.toList_append, List.mem_append] at hb
  rcases hb with hb | hb
  · exact hs b hb
  · exact ht b hb
theorem fig1 {d : Nat} (h : d < 10) : Fig ⟨[UInt8.ofNat (48 + d)].toArray⟩ := by
  intro b hb
  have hb : b ∈ [UInt8.ofNat (48 + d)] := hb
  rw [List.mem_singleton.1 hb, UInt8.toNat_ofNat']
  omega
theorem size_app (s t : ByteArray) : (s ++ t).size = s.size + t.size := ByteArray.size_append ..
section
variable {bs : List Int} (hb : Rd bs)
include hb
theorem figsI {n : Nat} (hn : n ≤ 64) : ∀ (m p : Nat) (s : ByteArray), s.size + m = max n s.size → p + 2 * m ≤ 1000000 → Fig s → s.size ≤ 64 → ∃ (t : ByteArray) (q : Nat), q ≤ p + 2 * m ∧ Fig t ∧ t.size ≤ 64 ∧ 0 < s.size + t.size + 1 ∧ s.size ≤ t.size ∧
    Ev (fun k => F48c4 k bs (p : Int) (n : Int) s) ((t, ()), ((bs, (q : Int), ()), (), ())) := by
  intro m
  induction m with
  | zero =>
    intro p s hs hp hf h64
    refine ⟨s, p, by omega, hf, h64, by omega, Nat.le_refl _, Ev.step 1 (fun k => F48c4_eq k _ _ _ _) ?_⟩
    simp only [lt_false (show n ≤ s.size by omega), Bool.false_eq_true, if_false]
    exact Ev.now _
  | succ m ih =>
    intro p s hs hp hf h64
    obtain ⟨v1, ⟨a0, a1, _⟩, h1⟩ := pick_ev hb (show p ≤ 1000000000 by omega) 10
    have a1 := a1 (by omega)
    obtain ⟨v2, hm, h2⟩ := one_ev hb (show p + 1 ≤ 1000000000 by omega) [0, 0, 9, 9, 5, 1, v1] (by simp)
    have hv : 0 ≤ v2 ∧ v2 < 10 := by
      simp only [List.mem_cons, List.not_mem_nil, or_false] at hm
      omega
    obtain ⟨d, rfl⟩ : ∃ d : Nat, v2 = (d : Int) := ⟨v2.toNat, by omega⟩
    have hd : d < 10 := by omega
    have hsz : (⟨[UInt8.ofNat (48 + d)].toArray⟩ : ByteArray).size = 1 := rfl
    have hs2 : (s ++ (⟨[UInt8.ofNat (48 + d)].toArray⟩ : ByteArray)).size = s.size + 1 := by rw [size_app, hsz]
    obtain ⟨t, q, hq, ht, ht64, _, hle, hE⟩ := ih (p + 1 + 1) (s ++ (⟨[UInt8.ofNat (48 + d)].toArray⟩ : ByteArray)) (by rw [hs2]; omega) (by omega) (hf.app (fig1 hd)) (by rw [hs2]; omega)
    refine ⟨t, q, by omega, ht, ht64, by omega, by omega, Ev.step 1 (fun k => F48c4_eq k _ _ _ _) ?_⟩
    simp only [lt_true (show s.size < n by omega), if_true]
    refine Ev.bind h1 (Ev.bind h2 ?_)
    simp only [bytesOf_digit hd, hsz]
    have hble : Nat.ble (s.size + 1) 9223372036854775807 = true := Nat.ble_eq_true_of_le (by omega)
    simp only [hble, if_true]
    exact hE
theorem figs_ev {n : Int} (h0 : 0 ≤ n) (hn : n ≤ 64) {p : Nat} (hp : p + 200 ≤ 1000000) : ∃ (t : ByteArray) (q : Nat), q ≤ p + 200 ∧ Fig t ∧ t.size ≤ 64 ∧ Ev (fun k => F48 k bs (p : Int) n) ((t, ()), ((bs, (q : Int), ()), (), ())) := by
  obtain ⟨m, rfl⟩ : ∃ m : Nat, n = (m : Int) := ⟨n.toNat, by omega⟩
  by_cases h1 : m < 1
  · refine ⟨⟨#[48]⟩, p, by omega, fig1 (d := 0) (by omega), by decide, Ev.step 2 (fun k => F48_eq k _ _ _) ?_⟩
    simp only [decide_eq_true (show (m : Int) < 1 by omega), if_true]
    exact Ev.now _
  · obtain ⟨v, ⟨a0, a1, _⟩, h2⟩ := pick_ev hb (show p ≤ 1000000000 by omega) 9
    have a1 := a1 (by omega)
    obtain ⟨d, rfl⟩ : ∃ d : Nat, v = (d : Int) := ⟨v.toNat, by omega⟩
    have e : (49 : Int) + (d : Int) = 48 + ((d + 1 : Nat) : Int) := by omega
    obtain ⟨t, q, hq, ht, ht64, _, _, hE⟩ := figsI hb (n := m) (by omega) (m - 1) (p + 1) ⟨[UInt8.ofNat (48 + (d + 1))].toArray⟩ (by show 1 + (m - 1) = max m 1; omega) (by omega) (fig1 (by omega)) (by show 1 ≤ 64; omega)
    refine ⟨t, q, by omega, ht, ht64, Ev.step 2 (fun k => F48_eq k _ _ _) ?_⟩
    simp only [decide_eq_false (show ¬ (m : Int) < 1 by omega), Bool.false_eq_true, if_false]
    refine Ev.bind h2 ?_
    simp only [e, bytesOf_digit (show d + 1 < 10 by omega)]
    exact hE
end
theorem many_ev {a : ByteArray} (ha : Fig a) (h1 : a.size = 1) : ∀ (m : Nat) (s : ByteArray), Fig s → s.size + m ≤ 64 → ∃ t : ByteArray, Fig t ∧ t.size = s.size + m ∧ Ev (fun k => F49c2 k a (m : Int) s) ((t, ()), ((), (), ())) := by
  intro m
  induction m with
  | zero =>
    intro s hs hm
    refine ⟨s, hs, rfl, Ev.step 1 (fun k => F49c2_eq k _ _ _) ?_⟩
    simp only [show decide (((0 : Nat) : Int) > 0) = false from by decide, Bool.false_eq_true, if_false]
    exact Ev.now _
  | succ m ih =>
    intro s hs hm
    have hsz : (s ++ a).size = s.size + 1 := by rw [size_app, h1]
    obtain ⟨t, ht, ht2, hE⟩ := ih (s ++ a) (hs.app ha) (by omega)
    have e : IntKind.i64.wrap (((m + 1 : Nat) : Int) - 1) = (m : Int) := by rw [wrap64 (by omega) (by omega)]; omega
    have hble : Nat.ble (s.size + a.size) 9223372036854775807 = true := Nat.ble_eq_true_of_le (by omega)
    refine ⟨t, ht, by omega, Ev.step 1 (fun k => F49c2_eq k _ _ _) ?_⟩
    simp only [decide_eq_true (show ((m + 1 : Nat) : Int) > 0 by omega), if_true, hble, e]
    exact hE
theorem l1Many_ev {a : ByteArray} (ha : Fig a) (h1 : a.size = 1) {n : Int} (hn : n ≤ 64) (h0 : -10 ≤ n) : ∃ t : ByteArray, Fig t ∧ t.size = n.toNat ∧ Ev (fun k => F49 k a n) ((t, ()), ((), (), ())) := by
  by_cases h : 0 ≤ n
  · obtain ⟨m, rfl⟩ : ∃ m : Nat, n = (m : Int) := ⟨n.toNat, by omega⟩
    obtain ⟨t, h2, h3, h4⟩ := many_ev ha h1 m ⟨#[]⟩ (fun b hb => by simp at hb) (by show 0 + m ≤ 64; omega)
    exact ⟨t, h2, by rw [h3]; show 0 + m = _; omega, Ev.step 2 (fun k => F49_eq k _ _) h4⟩
  · refine ⟨⟨#[]⟩, fun b hb => by simp at hb, by show 0 = _; omega, Ev.step 2 (fun k => F49_eq k _ _) (Ev.step 1 (fun k => F49c2_eq k _ _ _) ?_)⟩
    simp only [decide_eq_false (show ¬ n > 0 by omega), Bool.false_eq_true, if_false]
    exact Ev.now _
end Go.Proofs.YthbibdpbfgoghaaDoor.R
end

section
/-! Rf: what the laws draw: big integers. -/
set_option autoImplicit false
set_option linter.unusedSimpArgs false
set_option linter.unusedVariables false
namespace Go.Proofs.YthbibdpbfgoghaaDoor.R
open Go.Rf
theorem trimD {l : List Int} (hr : InR l) (hl : l.length ≤ 1000000) : ∃ N : Nat, (digs N).length ≤ l.length ∧ Ev (fun k => F67 k l) ((digs N, ()), ((), ())) := by
  refine ⟨(VI l).toNat, digs_len_le ?_, l1Trim_ev hr hl⟩
  have h1 := VI_lt hr
  have h2 := VI_nonneg hr
  have h3 : ((10000 ^ l.length : Nat) : Int) = 10000 ^ l.length := Int.natCast_pow ..
  omega
theorem byte_at {s : ByteArray} {i : Nat} (h : i < s.size) : s[i]? = some s[i] := by
  exact getElem?_pos s i h
theorem fig_at {s : ByteArray} (hs : Fig s) {i : Nat} (h : i < s.size) : 48 ≤ s[i].toNat ∧ s[i].toNat ≤ 57 := by
  refine hs _ ?_
  show s.data[i] ∈ s.data.toList
  rw [← Array.getElem_toList]
  exact List.getElem_mem _
theorem fig_extract {s : ByteArray} (hs : Fig s) (n : Nat) : Fig (s.extract 0 n) := by
  intro b hb
  rw [ByteArray.data_extract, Array.toList_extract] at hb
  exact hs b (List.mem_of_mem_drop (List.mem_of_mem_take hb))
theorem figVal {u : UInt8} (h : 48 ≤ u.toNat ∧ u.toNat ≤ 57) : IntKind.i64.wrap (IntKind.u8.wrap ((u.toNat : Int) - 48)) = ((u.toNat - 48 : Nat) : Int) := by
  rw [u8_small (by omega) (by omega), wrap64 (by omega) (by omega)]
  omega
theorem ffC : ∀ (m : Nat) (s : ByteArray) (x3 : List Int), s.size ≤ m → Fig s → InR x3 → x3.length + s.size ≤ 1000 → ∃ N : Nat, (digs N).length ≤ 1000 ∧ Ev (fun k => F51c2 k s x3) ((digs N, ()), ((), ())) := by
  intro m
  induction m using Nat.strongRecOn with
  | _ m ih =>
    intro s x3 hm hs hx hl
    by_cases h0 : s.size = 0
    · obtain ⟨N, hN1, h1⟩ := trimD hx (by omega)
      refine ⟨N, by omega, Ev.step 1 (fun k => F51c2_eq k _ _) ?_⟩
      simp only [h0, show decide (((0 : Nat) : Int) > 0) = false from by decide, Bool.false_eq_true, if_false]
      exact Ev.bind h1 (Ev.now _)
    · have hp : decide ((s.size : Int) > 0) = true := decide_eq_true (by omega)
      have key : ∀ f : Nat, f < s.size → s.size ≤ f + 4 → ∃ N : Nat, (digs N).length ≤ 1000 ∧ Ev (fun k => F51c6 k s x3 (f : Int)) ((digs N, ()), ((), ())) := by
        intro f hf hf4
        have hsz : (s.extract 0 f).size = f := by simp; omega
        have hN : ∀ d : Nat, d ≤ 9999 → ∃ N : Nat, (digs N).length ≤ 1000 ∧ Ev (fun k => F51c2 k (s.extract 0 f) (x3 ++ [(d : Int)])) ((digs N, ()), ((), ())) := fun d hd =>
          ih f (by omega) (s.extract 0 f) (x3 ++ [(d : Int)]) (by omega) (fig_extract hs f) (inrSnoc hx (by omega)) (by simp; omega)
        -- which limb it is
        have hd : ∃ d : Nat, d ≤ 9999 ∧ ∀ R, (Ev (fun k => if (decide (x3.length + [(d : Int)].length ≤ 17592186044416)) = true then if (decide (0 ≤ (f : Int)) && decide ((f : Int) ≤ (s.size : Int))) = true then F51c2 k (s.extract 0 ((f : Int)).toNat) (x3 ++ [(d : Int)]) else none else none) R) → Ev (fun k => F51c6 k s x3 (f : Int)) R := by
          have walk : ∀ (m i d : Nat), i + m = s.size → f ≤ i → d < 10 ^ (i - f) → ∃ d' : Nat, d' ≤ 9999 ∧ ∀ R, (Ev (fun k => if (decide (x3.length + [(d' : Int)].length ≤ 17592186044416)) = true then if (decide (0 ≤ (f : Int)) && decide ((f : Int) ≤ (s.size : Int))) = true then F51c2 k (s.extract 0 ((f : Int)).toNat) (x3 ++ [(d' : Int)]) else none else none) R) → Ev (fun k => F51c8 k s x3 (f : Int) (d : Int) (i : Int)) R := by
            intro m
            induction m with
            | zero =>
              intro i d hi hfi hd
              have : 10 ^ (i - f) ≤ 10 ^ 4 := Nat.pow_le_pow_right (by omega) (by omega)
              refine ⟨d, by omega, fun R hR => Ev.step 1 (fun k => F51c8_eq k _ _ _ _ _) ?_⟩
              simp only [lt_false (show s.size ≤ i by omega), Bool.false_eq_true, if_false]
              exact hR
            | succ m ihm =>
              intro i d hi hfi hd
              have hlt : i < s.size := by omega
              have hfa := fig_at hs hlt
              have h4 : 10 ^ (i - f) ≤ 10 ^ 3 := Nat.pow_le_pow_right (by omega) (by omega)
              have e1 : IntKind.i64.wrap ((d : Int) * 10) = ((d * 10 : Nat) : Int) := by rw [wrap64 (by omega) (by omega)]; omega
              have e2 : IntKind.i64.wrap (((d * 10 : Nat) : Int) + ((s[i].toNat - 48 : Nat) : Int)) = ((d * 10 + (s[i].toNat - 48) : Nat) : Int) := by rw [wrap64 (by omega) (by omega)]; omega
              obtain ⟨d', h1, h2⟩ := ihm (i + 1) (d * 10 + (s[i].toNat - 48)) (by omega) (by omega) (by
                rw [show i + 1 - f = (i - f) + 1 by omega, Nat.pow_succ]
                omega)
              refine ⟨d', h1, fun R hR => Ev.step 1 (fun k => F51c8_eq k _ _ _ _ _) ?_⟩
              simp only [lt_true hlt, ge0, if_true, Int.toNat_natCast, byte_at hlt, Option.bind_some, figVal hfa, e1, e2, wrap_succ (show i < 9223372036854775807 by omega)]
              exact h2 R hR
          obtain ⟨d, h1, h2⟩ := walk (s.size - f) f 0 (by omega) (Nat.le_refl _) (by rw [Nat.sub_self]; decide)
          exact ⟨d, h1, fun R hR => Ev.step 1 (fun k => F51c6_eq k _ _ _) (h2 R hR)⟩
        obtain ⟨d, hd1, hd2⟩ := hd
        obtain ⟨N, hN1, hN⟩ := hN d hd1
        refine ⟨N, hN1, hd2 _ ?_⟩
        simp only [decide_eq_true (show x3.length + [(d : Int)].length ≤ 17592186044416 by simp; omega), if_true, ge0, le_true (Nat.le_of_lt hf), Bool.and_self, Int.toNat_natCast]
        exact hN
      have e4 : IntKind.i64.wrap ((s.size : Int) - 4) = (s.size : Int) - 4 := wrap64 (by omega) (by omega)
      by_cases h4 : s.size < 4
      · obtain ⟨N, hN1, hN⟩ := key 0 (by omega) (by omega)
        refine ⟨N, hN1, Ev.step 1 (fun k => F51c2_eq k _ _) ?_⟩
        simp only [hp, if_true, e4, decide_eq_true (show (s.size : Int) - 4 < 0 by omega)]
        exact hN
      · obtain ⟨N, hN1, hN⟩ := key (s.size - 4) (by omega) (by omega)
        refine ⟨N, hN1, Ev.step 1 (fun k => F51c2_eq k _ _) ?_⟩
        simp only [hp, if_true, e4, decide_eq_false (show ¬ (s.size : Int) - 4 < 0 by omega), Bool.false_eq_true, if_false]
        rw [show (s.size : Int) - 4 = ((s.size - 4 : Nat) : Int) by omega]
        exact hN
theorem ff_ev {s : ByteArray} (hs : Fig s) (hl : s.size ≤ 900) : ∃ N : Nat, (digs N).length ≤ 1000 ∧ Ev (fun k => F51 k s) ((digs N, ()), ((), ())) := by
  obtain ⟨N, h1, h⟩ := ffC s.size s [] (Nat.le_refl _) hs InR.nil (by simp; omega)
  exact ⟨N, h1, Ev.step 2 (fun k => F51_eq k _) h⟩
/-- a big integer in order, out of its number -/
theorem l1Big_any (neg : Bool) (N : Nat) (hl : (digs N).length ≤ 1000) : ∃ (z : Int) (ok : Bool), z.natAbs < 10000 ^ 16 ∧ Ev (fun k => F50 k neg (digs N)) (((decide (z < 0), digs z.natAbs, ()), ok, ()), ((), (), ())) := by
  have ht := l1Trim_ev (digs_InR N) (by omega)
  rw [VI_digs, Int.toNat_natCast] at ht
  by_cases h16 : (digs N).length > 16
  · refine ⟨0, false, by decide, Ev.step 2 (fun k => F50_eq k _ _) (Ev.bind ht ?_)⟩
    simp only [decide_eq_true (show ((digs N).length : Int) > 16 by omega), if_true]
    rw [show (0 : Int).natAbs = 0 from rfl, digs_zero]
    exact Ev.now _
  · have hN : N < 10000 ^ 16 := by
      have h1 := VI_lt (digs_InR N)
      rw [VI_digs] at h1
      have h2 : N < 10000 ^ (digs N).length := by
        have : ((N : Nat) : Int) < ((10000 ^ (digs N).length : Nat) : Int) := by rw [Int.natCast_pow]; exact h1
        omega
      have h3 : 10000 ^ (digs N).length ≤ 10000 ^ 16 := Nat.pow_le_pow_right (by omega) (by omega)
      omega
    refine ⟨sg neg N, true, by rw [sg_abs]; exact hN, Ev.step 2 (fun k => F50_eq k _ _) (Ev.bind ht ?_)⟩
    rw [sg_abs]
    simp only [decide_eq_false (show ¬ ((digs N).length : Int) > 16 by omega), Bool.false_eq_true, if_false, len_gt]
    cases neg with
    | true =>
      have e : decide (sg true N < 0) = decide (N ≠ 0) := by
        unfold sg
        simp only [if_true]
        congr 1
        exact propext ⟨fun h => by omega, fun h => by omega⟩
      simp only [if_true, e]
      exact Ev.now _
    | false =>
      have e : decide (sg false N < 0) = false := by unfold sg; simp
      simp only [Bool.false_eq_true, if_false, e]
      exact Ev.now _
/-! ### the reference's number of a whole number -/
theorem tmod_abs (x : Int) : (x.tmod 10000 < 0 → 0 - x.tmod 10000 = ((x.natAbs % 10000 : Nat) : Int)) ∧ (¬ x.tmod 10000 < 0 → x.tmod 10000 = ((x.natAbs % 10000 : Nat) : Int)) ∧ (x.tdiv 10000).natAbs = x.natAbs / 10000 ∧ -10000 < x.tmod 10000 ∧ x.tmod 10000 < 10000 := by
  rcases Int.natAbs_eq x with h | h
  · have h1 : x.tmod 10000 = ((x.natAbs % 10000 : Nat) : Int) := by
      rw [Int.tmod_eq_emod_of_nonneg (by omega)]; omega
    have h2 : x.tdiv 10000 = ((x.natAbs / 10000 : Nat) : Int) := by
      rw [Int.tdiv_eq_ediv_of_nonneg (by omega)]; omega
    rw [h1, h2]
    omega
  · have h1 : x.tmod 10000 = -((x.natAbs % 10000 : Nat) : Int) := by
      conv => lhs; rw [h]
      rw [Int.neg_tmod, Int.tmod_eq_emod_of_nonneg (by omega)]; omega
    have h2 : x.tdiv 10000 = -((x.natAbs / 10000 : Nat) : Int) := by
      conv => lhs; rw [h]
      rw [Int.neg_tdiv, Int.tdiv_eq_ediv_of_nonneg (by omega)]; omega
    rw [h1, h2]
    omega
section
variable {bs : List Int} (hb : Rd bs)
include hb
theorem bigC9 {p : Nat} (hp : p + 10 ≤ 1000000) {b : Bool} {l : List Int} {s : ByteArray} (hs : Fig s) (h64 : s.size ≤ 64) : ∃ (z : Int) (q : Nat), z.natAbs < 10000 ^ 16 ∧ q ≤ p + 10 ∧ Ev (fun k => F30c9 k bs (p : Int) b l s) (((decide (z < 0), digs z.natAbs, ()), ()), ((bs, (q : Int), ()), (), ())) := by
  obtain ⟨v, _, h1⟩ := pick_ev hb (show p ≤ 1000000000 by omega) 3
  obtain ⟨N, hN, h2⟩ := ff_ev hs (by omega)
  obtain ⟨z, ok, hz, h3⟩ := l1Big_any (v == 0) N hN
  refine ⟨z, p + 1, hz, by omega, Ev.step 1 (fun k => F30c9_eq k _ _ _ _ _) (Ev.bind h1 (Ev.bind h2 (Ev.bind h3 (Ev.now _))))⟩
theorem bigC7 {p : Nat} (hp : p + 20 ≤ 1000000) {b : Bool} {l : List Int} {n : Int} (h0 : 0 ≤ n) (hn : n ≤ 64) {s : ByteArray} (hs : Fig s) (h64 : s.size ≤ 64) : ∃ (z : Int) (q : Nat), z.natAbs < 10000 ^ 16 ∧ q ≤ p + 20 ∧ Ev (fun k => F30c7 k bs (p : Int) b l n s) (((decide (z < 0), digs z.natAbs, ()), ()), ((bs, (q : Int), ()), (), ())) := by
  obtain ⟨v, _, h1⟩ := pick_ev hb (show p ≤ 1000000000 by omega) 6
  cases hv : (v == (0 : Int)) with
  | true =>
    obtain ⟨t, ht, ht2, h2⟩ := l1Many_ev (a := ⟨#[57]⟩) (fig1 (d := 9) (by omega)) rfl (n := n) (by omega) (by omega)
    obtain ⟨z, q, hz, hq, h3⟩ := bigC9 (p := p + 1) hb (by omega) (b := b) (l := l) ht (by omega)
    refine ⟨z, q, hz, by omega, Ev.step 1 (fun k => F30c7_eq k _ _ _ _ _ _) (Ev.bind h1 ?_)⟩
    simp only [hv, if_true]
    exact Ev.bind h2 h3
  | false =>
    obtain ⟨z, q, hz, hq, h3⟩ := bigC9 (p := p + 1) hb (by omega) (b := b) (l := l) hs h64
    refine ⟨z, q, hz, by omega, Ev.step 1 (fun k => F30c7_eq k _ _ _ _ _ _) (Ev.bind h1 ?_)⟩
    simp only [hv, Bool.false_eq_true, if_false]
    exact h3
theorem bigC4 {p : Nat} (hp : p + 300 ≤ 1000000) {b : Bool} {l : List Int} {n : Int} (h0 : 0 ≤ n) (hn : n ≤ 64) : ∃ (z : Int) (q : Nat), z.natAbs < 10000 ^ 16 ∧ q ≤ p + 300 ∧ Ev (fun k => F30c4 k bs (p : Int) b l n) (((decide (z < 0), digs z.natAbs, ()), ()), ((bs, (q : Int), ()), (), ())) := by
  obtain ⟨t, q, hq, ht, ht64, h1⟩ := figs_ev hb h0 hn (p := p) (by omega)
  obtain ⟨v, _, h2⟩ := pick_ev hb (show q ≤ 1000000000 by omega) 6
  cases hv : (v == (0 : Int)) with
  | true =>
    have e : IntKind.i64.wrap (n - 1) = n - 1 := wrap64 (by omega) (by omega)
    obtain ⟨u, hu, hu2, h3⟩ := l1Many_ev (a := ⟨#[48]⟩) (fig1 (d := 0) (by omega)) rfl (n := n - 1) (by omega) (by omega)
    have hsz : ((⟨#[49]⟩ : ByteArray) ++ u).size = 1 + u.size := by rw [size_app]; rfl
    obtain ⟨z, q2, hz, hq2, h4⟩ := bigC7 (p := q + 1) hb (by omega) (b := b) (l := l) h0 hn (s := (⟨#[49]⟩ : ByteArray) ++ u) (Fig.app (fig1 (d := 1) (by omega)) hu) (by rw [hsz]; omega)
    refine ⟨z, q2, hz, by omega, Ev.step 1 (fun k => F30c4_eq k _ _ _ _ _) (Ev.bind h1 (Ev.bind h2 ?_))⟩
    have hble : Nat.ble ((⟨#[49]⟩ : ByteArray).size + u.size) 9223372036854775807 = true := Nat.ble_eq_true_of_le (by show 1 + u.size ≤ _; omega)
    simp only [hv, if_true, e]
    refine Ev.bind h3 ?_
    simp only [hble, if_true]
    exact h4
  | false =>
    obtain ⟨z, q2, hz, hq2, h4⟩ := bigC7 (p := q + 1) hb (by omega) (b := b) (l := l) h0 hn ht ht64
    refine ⟨z, q2, hz, by omega, Ev.step 1 (fun k => F30c4_eq k _ _ _ _ _) (Ev.bind h1 (Ev.bind h2 ?_))⟩
    simp only [hv, Bool.false_eq_true, if_false]
    exact h4
theorem l14Big_ev {p : Nat} (hp : p + 400 ≤ 1000000) {most : Int} (hm : 1 ≤ most) (hm2 : most ≤ 64) : ∃ (z : Int) (q : Nat), z.natAbs < 10000 ^ 16 ∧ q ≤ p + 400 ∧ Ev (fun k => F30 k bs (p : Int) most) (((decide (z < 0), digs z.natAbs, ()), ()), ((bs, (q : Int), ()), (), ())) := by
  obtain ⟨v, ⟨a0, a1, _⟩, h1⟩ := pick_ev hb (show p ≤ 1000000000 by omega) 64
  have a1 := a1 (by omega)
  have e1 : IntKind.i64.wrap (1 + v) = 1 + v := wrap64 (by omega) (by omega)
  obtain ⟨n, hn, h2⟩ := one_ev hb (show p + 1 ≤ 1000000000 by omega) [0, 1, 1, 2, 3, 4, 5, 8, 9, 12, 17, 29, 30, 31, 33, 63, 64, 1 + v] (by simp)
  have hn2 : 0 ≤ n ∧ n ≤ 64 := by
    simp only [List.mem_cons, List.not_mem_nil, or_false] at hn
    omega
  by_cases hg : n > most
  · obtain ⟨u, ⟨b0, b1, _⟩, h3⟩ := pick_ev hb (show p + 1 + 1 ≤ 1000000000 by omega) most
    have b1 := b1 hm
    have e2 : IntKind.i64.wrap (1 + u) = 1 + u := wrap64 (by omega) (by omega)
    obtain ⟨z, q, hz, hq, h4⟩ := bigC4 (p := p + 1 + 1 + 1) hb (by omega) (b := false) (l := []) (n := 1 + u) (by omega) (by omega)
    refine ⟨z, q, hz, by omega, Ev.step 2 (fun k => F30_eq k _ _ _) (Ev.bind h1 ?_)⟩
    simp only [e1]
    refine Ev.bind h2 ?_
    simp only [decide_eq_true hg, if_true]
    refine Ev.bind h3 ?_
    simp only [e2]
    exact h4
  · obtain ⟨z, q, hz, hq, h4⟩ := bigC4 (p := p + 1 + 1) hb (by omega) (b := false) (l := []) (n := n) (by omega) (by omega)
    refine ⟨z, q, hz, by omega, Ev.step 2 (fun k => F30_eq k _ _ _) (Ev.bind h1 ?_)⟩
    simp only [e1]
    refine Ev.bind h2 ?_
    simp only [decide_eq_false hg, Bool.false_eq_true, if_false]
    exact h4
end
end Go.Proofs.YthbibdpbfgoghaaDoor.R
end

section
/-! Rf: what the laws draw: decimals. -/
set_option autoImplicit false
set_option linter.unusedSimpArgs false
set_option linter.unusedVariables false
namespace Go.Proofs.YthbibdpbfgoghaaDoor.R
open Go.Rf
theorem Rd.of {code : List Int} (h : code.length ≤ 2000) (w : ∀ y ∈ code, 0 ≤ y ∧ y ≤ 255) : Rd code := ⟨h, w⟩
theorem open_ev (code : List Int) (w : ∀ y ∈ code, 0 ≤ y ∧ y ≤ 255) : ∃ bs, Rd bs ∧ Ev (fun k => F13 k code) (((bs, 0, ()), ()), ((), ())) := by
  by_cases h : code.length > 2000
  · refine ⟨code.take 2000, ⟨by simp; omega, fun y hy => w y (List.mem_of_mem_take hy)⟩, Ev.step 2 (fun k => F13_eq k _) ?_⟩
    simp only [decide_eq_true (show (code.length : Int) > 2000 by omega), if_true, show decide ((0 : Int) ≤ 2000) = true from rfl, decide_eq_true (show (2000 : Int) ≤ code.length by omega), Bool.and_self, slices0]
    exact Ev.step 1 (fun k => F13c3_eq k _) (Ev.now _)
  · refine ⟨code, ⟨by omega, w⟩, Ev.step 2 (fun k => F13_eq k _) ?_⟩
    simp only [decide_eq_false (show ¬ (code.length : Int) > 2000 by omega), Bool.false_eq_true, if_false]
    exact Ev.step 1 (fun k => F13c3_eq k _) (Ev.now _)
theorem z16 {z : Int} (h : z.natAbs < 10000 ^ 16) : (digs z.natAbs).length ≤ 16 := digs_len_le h
theorem anyC10 {bs : List Int} {p : Nat} {b1 b2 : Bool} {l1 : List Int} : ∀ (m : Nat) (l : List Int), l.length + m = max 17 l.length → l.length ≤ 17 → ∃ l' : List Int, l'.length ≤ 20 ∧ Ev (fun k => F12c10 k bs (p : Int) b1 l1 b2 l) (((b2, l', ()), ()), ((bs, (p : Int), ()), ())) := by
  intro m
  induction m with
  | zero =>
    intro l hm h17
    refine ⟨l, by omega, Ev.step 1 (fun k => F12c10_eq k _ _ _ _ _ _) ?_⟩
    simp only [decide_eq_false (show ¬ (l.length : Int) < 17 by omega), Bool.false_eq_true, if_false]
    exact Ev.step 1 (fun k => F12c12_eq k _ _ _ _ _ _) (Ev.now _)
  | succ m ih =>
    intro l hm h17
    have hl : (l ++ [(1 : Int)]).length = l.length + 1 := by simp
    obtain ⟨l', h1, h2⟩ := ih (l ++ [1]) (by omega) (by omega)
    refine ⟨l', h1, Ev.step 1 (fun k => F12c10_eq k _ _ _ _ _ _) ?_⟩
    simp only [decide_eq_true (show (l.length : Int) < 17 by omega), if_true, decide_eq_true (show l.length + [(1 : Int)].length ≤ 17592186044416 by simp; omega)]
    exact h2
section
variable {bs : List Int} (hb : Rd bs)
include hb
theorem anyBig_ev {p : Nat} (hp : p + 500 ≤ 1000000) : ∃ (n : Bool) (l : List Int) (q : Nat), l.length ≤ 100 ∧ q ≤ p + 500 ∧ Ev (fun k => F12 k bs (p : Int)) (((n, l, ()), ()), ((bs, (q : Int), ()), ())) := by
  obtain ⟨z, q, hz, hq, h1⟩ := l14Big_ev hb (p := p) (by omega) (most := 64) (by omega) (by omega)
  have hz := z16 hz
  obtain ⟨v, ⟨a0, a1, _⟩, h2⟩ := pick_ev hb (show q ≤ 1000000000 by omega) 30
  have st : ∀ {r}, Ev (fun k => if (v == (0 : Int)) = true then if (decide ((digs z.natAbs).length + [(0 : Int)].length ≤ 17592186044416)) = true then F12c12 k bs ((q + 1 : Nat) : Int) false ([] : List Int) (decide (z < 0)) (digs z.natAbs ++ [(0 : Int)]) else none else if (v == (1 : Int)) = true then (F32 k bs ((q + 1 : Nat) : Int) [(10000 : Int), (-1 : Int)]).bind fun r3 => if (decide ((digs z.natAbs).length + [r3.1.1].length ≤ 17592186044416)) = true then F12c12 k r3.2.1.1 r3.2.1.2.1 false ([] : List Int) (decide (z < 0)) (digs z.natAbs ++ [r3.1.1]) else none else if (v == (2 : Int)) = true then some (((true, ([] : List Int), ()), ()), ((bs, ((q + 1 : Nat) : Int), ()), ())) else if (v == (3 : Int)) = true then F12c10 k bs ((q + 1 : Nat) : Int) false ([] : List Int) (decide (z < 0)) (digs z.natAbs) else F12c12 k bs ((q + 1 : Nat) : Int) false ([] : List Int) (decide (z < 0)) (digs z.natAbs)) r → Ev (fun k => F12 k bs (p : Int)) r := fun h => Ev.step 2 (fun k => F12_eq k _ _) (Ev.bind h1 (Ev.bind h2 h))
  have c12 : ∀ {q' : Nat} {l : List Int}, Ev (fun k => F12c12 k bs (q' : Int) false ([] : List Int) (decide (z < 0)) l) (((decide (z < 0), l, ()), ()), ((bs, (q' : Int), ()), ())) := fun {q' l} => Ev.step 1 (fun k => F12c12_eq k _ _ _ _ _ _) (Ev.now _)
  cases c0 : (v == (0 : Int)) with
  | true =>
    refine ⟨decide (z < 0), digs z.natAbs ++ [0], q + 1, by simp; omega, by omega, st ?_⟩
    simp only [c0, if_true, decide_eq_true (show (digs z.natAbs).length + [(0 : Int)].length ≤ 17592186044416 by simp; omega)]
    exact c12
  | false =>
    cases c1 : (v == (1 : Int)) with
    | true =>
      obtain ⟨u, _, h3⟩ := one_ev hb (show q + 1 ≤ 1000000000 by omega) [10000, -1] (by simp)
      refine ⟨decide (z < 0), digs z.natAbs ++ [u], q + 1 + 1, by simp; omega, by omega, st ?_⟩
      simp only [c0, c1, Bool.false_eq_true, if_false, if_true]
      refine Ev.bind h3 ?_
      simp only [decide_eq_true (show (digs z.natAbs).length + [u].length ≤ 17592186044416 by simp; omega), if_true]
      exact c12
    | false =>
      cases c2 : (v == (2 : Int)) with
      | true =>
        refine ⟨true, [], q + 1, by simp, by omega, st ?_⟩
        simp only [c0, c1, c2, Bool.false_eq_true, if_false, if_true]
        exact Ev.now _
      | false =>
        cases c3 : (v == (3 : Int)) with
        | true =>
          obtain ⟨l', hl', h3⟩ := anyC10 (bs := bs) (p := q + 1) (b1 := false) (b2 := decide (z < 0)) (l1 := []) (17 - (digs z.natAbs).length) (digs z.natAbs) (by omega) (by omega)
          refine ⟨decide (z < 0), l', q + 1, by omega, by omega, st ?_⟩
          simp only [c0, c1, c2, c3, Bool.false_eq_true, if_false, if_true]
          exact h3
        | false =>
          refine ⟨decide (z < 0), digs z.natAbs, q + 1, by omega, by omega, st ?_⟩
          simp only [c0, c1, c2, c3, Bool.false_eq_true, if_false]
          exact c12
end
end Go.Proofs.YthbibdpbfgoghaaDoor.R
end

section
/-! Rf: decimals in order, as whole numbers with a scale: what the functions answer. -/
set_option autoImplicit false
set_option linter.unusedSimpArgs false
set_option linter.unusedVariables false
namespace Go.Proofs.YthbibdpbfgoghaaDoor.R
open Go.Rf
theorem jtIntsI {a b : List Int} (h : a.length = b.length) (hl : a.length ≤ 1000000) : ∀ (m i : Nat), i + m = a.length → (∀ j, j < i → a.getD j 0 = b.getD j 0) → Ev (fun k => F29c4 k a b (i : Int)) ((decide (a = b), ()), ((), (), ())) := by
  intro m
  induction m with
  | zero =>
    intro i hi hj
    have e : a = b := ext_getD h (fun j hjl => hj j (by omega))
    refine Ev.step 1 (fun k => F29c4_eq k _ _ _) ?_
    simp only [lt_false (show a.length ≤ i by omega), Bool.false_eq_true, if_false, decide_eq_true e]
    exact Ev.now _
  | succ m ih =>
    intro i hi hj
    have hlt : i < a.length := by omega
    refine Ev.step 1 (fun k => F29c4_eq k _ _ _) ?_
    simp only [lt_true hlt, ge0, if_true, Int.toNat_natCast, getI_of hlt, getI_of (show i < b.length by omega), Option.bind_some]
    by_cases e : a.getD i 0 = b.getD i 0
    · simp only [e, bne_self_eq_false, Bool.false_eq_true, if_false, wrap_succ (show i < 9223372036854775807 by omega)]
      refine ih (i + 1) (by omega) (fun j hj' => ?_)
      rcases Nat.lt_or_ge j i with h1 | h1
      · exact hj j h1
      · rw [show j = i by omega]; exact e
    · have hne : a ≠ b := fun h' => e (by rw [h'])
      simp only [bne_iff_ne.2 e, if_true]
      rw [decide_eq_false hne]
      exact Ev.now _
theorem jtInts_ev (a b : List Int) (hl : a.length ≤ 1000000) : Ev (fun k => F29 k a b) ((decide (a = b), ()), ((), (), ())) := by
  refine Ev.step 2 (fun k => F29_eq k _ _) ?_
  by_cases h : a.length = b.length
  · simp only [h, bne_self_eq_false, Bool.false_eq_true, if_false]
    exact jtIntsI h hl a.length 0 (by omega) (fun j hj => by omega)
  · have h2 : ((a.length : Int) != (b.length : Int)) = true := by rw [bne_iff_ne]; omega
    simp only [h2, if_true]
    rw [decide_eq_false (fun e => h (by rw [e]))]
    exact Ev.now _
/-- are two decimals written alike? -/
def alike (n1 : Bool) (l1 : List Int) (s1 : Int) (n2 : Bool) (l2 : List Int) (s2 : Int) : Bool := (s1 == s2) && ((n1 == n2) && decide (l1 = l2))
theorem alike_self (n : Bool) (l : List Int) (s : Int) : alike n l s n l s = true := by simp [alike]
theorem digs_inj {a b : Nat} (h : digs a = digs b) : a = b := by
  have h1 := VI_digs a
  have h2 := VI_digs b
  rw [h] at h1
  omega
theorem alike_D {z1 z2 : Int} {s1 s2 : Nat} : alike (decide (z1 < 0)) (digs z1.natAbs) (s1 : Int) (decide (z2 < 0)) (digs z2.natAbs) (s2 : Int) = decide (z1 = z2 ∧ s1 = s2) := by
  unfold alike
  by_cases h : z1 = z2 ∧ s1 = s2
  · obtain ⟨rfl, rfl⟩ := h
    simp
  · rw [decide_eq_false h]
    by_cases hs : s1 = s2
    · have hz : z1 ≠ z2 := fun e => h ⟨e, hs⟩
      have : ¬ (decide (z1 < 0) = decide (z2 < 0) ∧ digs z1.natAbs = digs z2.natAbs) := by
        rintro ⟨h1, h2⟩
        have h3 := digs_inj h2
        have h4 : (z1 < 0) ↔ (z2 < 0) := by simpa using h1
        omega
      by_cases hd : decide (z1 < 0) = decide (z2 < 0)
      · simp only [hd, beq_self_eq_true, Bool.true_and, decide_eq_false (fun e => this ⟨hd, e⟩), Bool.and_false]
      · rw [beq_eq_false_iff_ne.2 hd, Bool.false_and, Bool.and_false]
    · have : ((s1 : Int) == (s2 : Int)) = false := by rw [beq_eq_false_iff_ne]; omega
      rw [this, Bool.false_and]
section
variable (n1 : Bool) (l1 : List Int) (s1 : Int) (n2 : Bool) (l2 : List Int) (s2 : Int)
end
section
variable {z1 z2 : Int} {s1 s2 : Nat} (h1 : z1.natAbs < 10 ^ 30) (h2 : z2.natAbs < 10 ^ 30) (t1 : s1 ≤ 12) (t2 : s2 ≤ 12)
include h1 h2 t1 t2
end
theorem mk_fine {z : Int} {s : Nat} (h : z.natAbs < 10 ^ 30) : mk z s = (D z s, 0, ()) := if_pos h
theorem mk_over {z : Int} {s : Nat} (h : ¬ z.natAbs < 10 ^ 30) : mk z s = ((false, [], 0, ()), 3, ()) := if_neg h
theorem u8_of {y : Int} (h : wfT (.int .u8) y) : 0 ≤ y ∧ y ≤ 255 := by
  have h : (Lit.int .u8 y).wf = true := h
  simp [Lit.wf, IntKind.min, IntKind.max, IntKind.bits, IntKind.signed] at h
  omega
theorem cmpZ_eq (x : Int) : cmpZ x x = 0 := by unfold cmpZ; rw [if_neg (by omega), if_pos rfl]
theorem cmpZ_zero {x y : Int} : cmpZ x y = 0 ↔ x = y := by
  unfold cmpZ
  constructor
  · intro h
    split at h
    · omega
    · split at h
      · assumption
      · omega
  · rintro rfl
    rw [if_neg (by omega), if_pos rfl]
theorem cmpZ_swap (x y : Int) : cmpZ y x = -cmpZ x y := by
  unfold cmpZ
  (repeat' split) <;> omega
theorem cmpZ_range (x y : Int) : cmpZ x y = -1 ∨ cmpZ x y = 0 ∨ cmpZ x y = 1 := by
  unfold cmpZ
  (repeat' split) <;> simp
end Go.Proofs.YthbibdpbfgoghaaDoor.R
end
