/- A part of the proof that the law FnExactNodeGet answers true for every input: contracts of functions that it reaches, or its plain law. -/
import Derived.Lib.LaidTab
import Derived.Shelf.Strconv.Itoa3
import Derived.Lib.ItoaNum
import Derived.Lib.CutLaws
import Derived.Lib.AtoiAll
import Derived.Test.YtcolgghllacloaaDoorProg
import Derived.KernelRfl
import Derived.Shelf.Strings.Builder1
import Derived.Shelf.Strings.BuilderF
import Derived.Shelf.Strconv.Atoi
import Derived.Shelf.Strconv.Itoa0
import Derived.Shelf.Strconv.Itoa1
import Derived.Shelf.LaysM
import Derived.Shelf.Strconv.Itoa2
import Derived.Shelf.Strconv.AtoiErrFast
import Derived.Shelf.Strconv.ParseIntEmpty
import Derived.Shelf.Strconv.AtoiFail
import Derived.Shelf.Strconv.Clone
import Derived.Shelf.Strconv.SyntaxError
import Derived.Shelf.LaysC
import Derived.Shelf.Strconv.ToError
import Derived.Shelf.Strconv.AtoiErr
import Derived.Shelf.Strconv.Lower
import Derived.Shelf.Strconv.ParseUint10
import Derived.Shelf.Strconv.ParseUint10Empty
import Derived.Shelf.Strconv.ParseUint10Any
import Derived.Shelf.Strconv.ParseInt10
import Derived.Shelf.Strconv.AtoiLong
import Derived.Shelf.Strconv.AtoiInnerAll
import Derived.Shelf.Strconv.RangeError
import Derived.Shelf.Strconv.ToErrorRange
import Derived.Shelf.Strconv.AtoiAll
import Derived.Shelf.Strconv.ErrVarAll
import Derived.Shelf.Strings.Search1
import Derived.Shelf.Strings.Search2
import Derived.Shelf.Strings.Cut
import Derived.Shelf.Strings.Shaped
import Derived.Ground.Names2Prog
import Derived.Shelf.Slices.Clone
import Derived.Ground.SlgnProg
import Derived.Shelf.SlicesE.Clone
import Derived.RangeFuncNested
import Derived.RangeFuncBound
import Derived.RangeFuncCalls
import Derived.RangeFuncLeaves
import Derived.Shelf.Abstract
import Derived.Shelf.RegionOpen
import Derived.WalkKit
import Derived.OwnWalkIn
import Derived.TacticsInMore
import Derived.LoopNIn
import Derived.LoopIn
import Derived.Lib.FrozenHead2
import Derived.Lib.OthersKept
import Derived.Deep.RegionHeld3
import Derived.Deep.LoopGhost
import Derived.Lib.AppendIntMem
import Derived.Lib.ItoaLen
import Derived.Test.YtcolgghllacloaaDoorRows
import Derived.ProofKit
import Derived.OpenShut
import Derived.ShutString
import Derived.ChangeOld
import Derived.Below
import Derived.SizedLaws
import Derived.Carry
import Derived.Test.YtcolgghllacloaaDoorCards
import Derived.Test.YtcolgghllacloaaDoorTie
import Derived.LaidMore
import Derived.Stop.Joined
import Derived.Stop.LaidErr
import Derived.SevenTiedAt
import Derived.OpenVars
import Derived.ChangeVars
import Derived.Lib.Strings
import Derived.Lib.TrimByte
import Derived.Lib.Bytealg
import Derived.Test.YtcolgghllacloaaDoorCFnExactNodeGetx0
import Derived.Test.YtcolgghllacloaaDoorCFnExactNodeGetx1
import Derived.Test.YtcolgghllacloaaDoorCFnExactNodeGetx2
import Derived.Test.YtcolgghllacloaaDoorCFnExactNodeGetx3
namespace Go.Proofs.YtcolgghllacloaaDoor.Q
end Go.Proofs.YtcolgghllacloaaDoor.Q
namespace Go.Proofs.YtcolgghllacloaaDoor.R
end Go.Proofs.YtcolgghllacloaaDoor.R
namespace Go.Proofs.YtcolgghllacloaaDoorW.PrintLast
end Go.Proofs.YtcolgghllacloaaDoorW.PrintLast
namespace Go.Proofs.YtcolgghllacloaaDoorW.PrintMore
end Go.Proofs.YtcolgghllacloaaDoorW.PrintMore
namespace Go.Proofs.YtcolgghllacloaaDoorW.PrintWords
end Go.Proofs.YtcolgghllacloaaDoorW.PrintWords
section
/-! Rf: the seat's tables. -/
set_option autoImplicit false
namespace Go.Proofs.YtcolgghllacloaaDoor.R
open Go.Rf
noncomputable def tabs : Tabs where
  ty := [(3, ⟨false, [.int .i64], [], 8⟩),
    (4, ⟨false, [.bool], [], 1⟩),
    (5, ⟨false, [.int .u8], [], 1⟩),
    (9, ⟨false, [.str], [], 16⟩),
    (22, ⟨false, [.sl .str], [], 24⟩),
    (23, ⟨false, [.sl (.int .i64)], [], 24⟩),
    (28, ⟨true, [.bool, .sl .str, .sl .str, .sl (.int .i64)], [(0, 1, false), (1, 1, false), (2, 1, false), (3, 1, false)], 80⟩),
    (43, ⟨false, [.sl (.int .u8)], [], 24⟩),
    (47, ⟨false, [.err], [], 16⟩)]
  el := [(22, 9), (23, 3), (43, 5)]
  ifcs := [47]
  known := [4, 8, 9, 10, 11, 12, 13, 17, 26, 27, 28, 29, 30, 31, 32, 33, 34, 35, 36, 37, 38, 39, 40, 41, 49, 50, 51, 55, 56, 57, 58, 59]
  spec := [(4, ⟨[.c (.v .str)], [.c (.v .bool)]⟩),
    (8, ⟨[.agg [.v .bool, .v (.sl .str), .v (.sl .str), .v (.sl (.int .i64))]], [.c (.v .str)]⟩),
    (9, ⟨[.agg [.v .bool, .v (.sl .str), .v (.sl .str), .v (.sl (.int .i64))], .agg [.v .bool, .v (.sl .str), .v (.sl .str), .v (.sl (.int .i64))]], [.c (.v .bool)]⟩),
    (10, ⟨[.c (.v .str)], [.agg [.v .bool, .v (.sl .str), .v (.sl .str), .v (.sl (.int .i64))], .c (.v .bool)]⟩),
    (11, ⟨[.c (.v .str)], [.agg [.v .bool, .o .str 9 true, .o .str 9 true, .o (.int .i64) 3 true], .c (.v .bool)]⟩),
    (12, ⟨[.agg [.v .bool, .o .str 9 true, .o .str 9 true, .o (.int .i64) 3 true], .c (.v (.int .i64))], [.c (.v (.int .i64))]⟩),
    (13, ⟨[.agg [.v .bool, .v (.sl .str), .v (.sl .str), .v (.sl (.int .i64))], .c (.v (.int .i64))], [.c (.v (.int .i64))]⟩),
    (17, ⟨[.agg [.v .bool, .v (.sl .str), .v (.sl .str), .v (.sl (.int .i64))]], [.c (.v .bool)]⟩),
    (26, ⟨[.c (.v (.sl .str)), .c (.v (.sl .str))], [.c (.v .bool)]⟩),
    (27, ⟨[.c (.v (.sl (.int .i64))), .c (.v (.sl (.int .i64)))], [.c (.v .bool)]⟩),
    (28, ⟨[.c (.v .str)], [.agg [.v .bool, .v (.sl .str), .v (.sl .str), .v (.sl (.int .i64))], .c (.v .bool)]⟩),
    (29, ⟨[.c (.v .str)], [.agg [.v .bool, .v (.sl .str), .v (.sl .str), .v (.sl (.int .i64))], .c (.v .bool)]⟩),
    (30, ⟨[.c (.v .str), .c (.v .str)], [.c (.v .str), .c (.v .str), .c (.v .bool)]⟩),
    (31, ⟨[.c (.v .str)], [.c (.v (.int .i64)), .c (.v .err)]⟩),
    (32, ⟨[.c (.v .str)], [.c (.v .str), .c (.v (.int .i64)), .c (.v .str), .c (.v .bool)]⟩),
    (33, ⟨[.c (.v (.int .i64)), .c (.v (.int .i64)), .c (.v (.int .i64))], [.c (.v .bool)]⟩),
    (34, ⟨[.c (.v (.sl .str))], [.c (.o .str 9 true)]⟩),
    (35, ⟨[.c (.v (.sl (.int .i64)))], [.c (.o (.int .i64) 3 true)]⟩),
    (36, ⟨[.c (.o .str 9 true), .c (.v (.int .i64))], [.c (.v (.int .i64))]⟩),
    (37, ⟨[.c (.o (.int .i64) 3 true), .c (.v (.int .i64))], [.c (.v (.int .i64))]⟩),
    (38, ⟨[.c (.v (.sl .str)), .c (.v (.int .i64))], [.c (.v (.int .i64))]⟩),
    (39, ⟨[.c (.v (.sl (.int .i64))), .c (.v (.int .i64))], [.c (.v (.int .i64))]⟩),
    (40, ⟨[.c (.v (.sl .str))], [.c (.v .bool)]⟩),
    (41, ⟨[.c (.v (.int .i64)), .c (.v (.int .i64)), .c (.v (.int .i64))], [.c (.v .bool)]⟩),
    (49, ⟨[.c (.v .str)], [.c (.v (.int .i64)), .c (.v (.int .i64)), .c (.v (.int .i64))]⟩),
    (50, ⟨[.c (.v .str), .c (.v (.int .u8)), .c (.v (.int .i64))], [.c (.v (.sl .str))]⟩),
    (51, ⟨[.c (.v .str)], [.c (.v (.int .i64))]⟩),
    (55, ⟨[.c (.o .str 9 false)], [.c (.o .str 9 true)]⟩),
    (56, ⟨[.c (.v (.sl .str))], [.c (.o .str 9 true)]⟩),
    (57, ⟨[.c (.o (.int .i64) 3 false)], [.c (.o (.int .i64) 3 true)]⟩),
    (58, ⟨[.c (.v (.sl (.int .i64)))], [.c (.o (.int .i64) 3 true)]⟩),
    (59, ⟨[.c (.v (.int .i64))], [.c (.v .str)]⟩)]
  cut := [(10, [(7, [(0, .c (.v .str)), (2, .box [.v .bool, .v (.sl .str), .v (.sl .str), .v (.sl (.int .i64))]), (4, .box [.v .bool, .v (.sl .str), .v (.sl .str), .v (.sl (.int .i64))]), (5, .c (.v .bool))]), (9, [(2, .box [.v .bool, .v (.sl .str), .v (.sl .str), .v (.sl (.int .i64))]), (4, .box [.v .bool, .v (.sl .str), .v (.sl .str), .v (.sl (.int .i64))]), (5, .c (.v .bool))])]),
    (11, [(11, [(0, .c (.v .str)), (2, .box [.v .bool, .v (.sl .str), .v (.sl .str), .v (.sl (.int .i64))]), (4, .box [.v .bool, .o .str 9 true, .o .str 9 true, .o (.int .i64) 3 true]), (5, .c (.v .str))])]),
    (17, [(5, [(1, .box [.v .bool, .v (.sl .str), .v (.sl .str), .v (.sl (.int .i64))]), (3, .c (.v (.int .i64)))]), (11, [(1, .box [.v .bool, .v (.sl .str), .v (.sl .str), .v (.sl (.int .i64))]), (4, .c (.v (.int .i64)))])]),
    (26, [(4, [(0, .c (.v (.sl .str))), (1, .c (.v (.sl .str))), (5, .c (.v (.int .i64)))])]),
    (27, [(4, [(0, .c (.v (.sl (.int .i64)))), (1, .c (.v (.sl (.int .i64)))), (5, .c (.v (.int .i64)))])]),
    (28, [(2, [(0, .c (.v .str)), (2, .box [.v .bool, .v (.sl .str), .v (.sl .str), .v (.sl (.int .i64))]), (4, .box [.v .bool, .o .str 9 true, .o .str 9 true, .v (.sl (.int .i64))])])]),
    (29, [(6, [(0, .c (.v .str)), (2, .box [.v .bool, .v (.sl .str), .v (.sl .str), .v (.sl (.int .i64))]), (5, .box [.v .bool, .o .str 9 true, .v (.sl .str), .o (.int .i64) 3 true])])]),
    (36, [(2, [(0, .c (.o .str 9 true)), (1, .c (.v (.int .i64))), (5, .c (.v (.int .i64)))])]),
    (37, [(2, [(0, .c (.o (.int .i64) 3 true)), (1, .c (.v (.int .i64))), (5, .c (.v (.int .i64)))])]),
    (38, [(2, [(0, .c (.v (.sl .str))), (1, .c (.v (.int .i64))), (5, .c (.v (.int .i64)))])]),
    (39, [(2, [(0, .c (.v (.sl (.int .i64)))), (1, .c (.v (.int .i64))), (5, .c (.v (.int .i64)))])]),
    (40, [(2, [(0, .c (.v (.sl .str))), (3, .c (.v (.int .i64)))])]),
    (50, [(4, [(0, .c (.v .str)), (1, .c (.v (.int .u8))), (2, .c (.v (.int .i64))), (7, .c (.o .str 9 true)), (8, .c (.v (.int .i64))), (9, .c (.v (.int .i64)))]), (5, [(0, .c (.v .str)), (1, .c (.v (.int .u8))), (2, .c (.v (.int .i64))), (7, .c (.o .str 9 true)), (8, .c (.v (.int .i64))), (9, .c (.v (.int .i64))), (17, .c (.v (.int .i64))), (18, .c (.v (.int .i64))), (19, .c (.v .bool))])]),
    (51, [(3, [(0, .c (.v .str)), (3, .c (.v (.int .i64))), (4, .c (.v (.int .i64)))])]),
    (59, [(4, [(0, .c (.v (.int .i64))), (3, .c (.v .str))])])]
  eqs := []
theorem tabs_ok : tabs.ok Tryd.prog = true := by kernel_rfl
def npWithin (n lo hi : Int) : Bool := decide (n ≥ lo) && decide (n ≤ hi)
def npKeyOk (l : List ByteArray) (i : Nat) : Bool := npWithin ((l.getD i ByteArray.empty).size : Int) 1 96 && (i == 0 || Op.bytesLess (l.getD (i - 1) ByteArray.empty).toList (l.getD i ByteArray.empty).toList)
def npKeysOk (l : List ByteArray) : Bool := (List.range l.length).all (npKeyOk l)
def npValsOk (l : List ByteArray) : Bool := (List.range l.length).all fun i => !decide (((l.getD i ByteArray.empty).size : Int) > 140)
def npKidsOk (l : List Int) : Bool := (List.range l.length).all fun i => npWithin (l.getD i 0) 0 18
/-- a node that is ok -/
def npOk (n : Bool × List ByteArray × List ByteArray × List Int × Unit) : Bool := npKeysOk n.2.1 && decide ((n.2.1.length : Int) ≤ 4) && (if n.1 = true then npValsOk n.2.2.1 && ((n.2.2.1.length : Int) == (n.2.1.length : Int)) && ((n.2.2.2.1.length : Int) == 0)
  else npKidsOk n.2.2.2.1 && ((n.2.2.1.length : Int) == 0) && decide ((n.2.1.length : Int) > 0) && ((n.2.2.2.1.length : Int) == (n.2.1.length : Int) + 1))
def npZero (n : Bool × List ByteArray × List ByteArray × List Int × Unit) : Bool := !n.1 && ((n.2.1.length : Int) == 0) && ((n.2.2.1.length : Int) == 0) && ((n.2.2.2.1.length : Int) == 0)
def npEntL (x y : ByteArray) : List UInt8 := Lib.itoa x.size ++ [44] ++ Lib.itoa y.size ++ [58] ++ x.data.toList ++ y.data.toList
def npEntN (x : ByteArray) (y : Int) : List UInt8 := Lib.itoa x.size ++ [44] ++ Lib.itoa y ++ [58] ++ x.data.toList
def npL (K V : List ByteArray) (i : Nat) : List UInt8 := [76] ++ (List.range i).flatMap fun j => npEntL (K.getD j ByteArray.empty) (V.getD j ByteArray.empty)
def npN (K : List ByteArray) (I : List Int) (i : Nat) : List UInt8 := ([78] ++ Lib.itoa (I.getD 0 0) ++ [58]) ++ (List.range i).flatMap fun j => npEntN (K.getD j ByteArray.empty) (I.getD (j + 1) 0)
/-- a node as it is written -/
def npText (n : Bool × List ByteArray × List ByteArray × List Int × Unit) : ByteArray := if npZero n = true ∨ npOk n = false then ⟨#[]⟩ else if n.1 = true then ⟨(npL n.2.1 n.2.2.1 n.2.1.length).toArray⟩ else ⟨(npN n.2.1 n.2.2.2.1 n.2.1.length).toArray⟩
noncomputable def nodeputR (x : (Bool × List ByteArray × List ByteArray × List Int × Unit) × Unit) : Option ((ByteArray × Unit) × ((Unit × Unit × Unit × Unit × Unit) × Unit)) :=
  bif Nat.ble x.1.2.1.length 1048576 && Nat.ble x.1.2.2.1.length 1048576 && Nat.ble x.1.2.2.2.1.length 1048576 then some ((npText x.1, ()), (((), (), (), (), ()), ())) else none
noncomputable def cutR (x : ByteArray × ByteArray × Unit) : Option ((ByteArray × ByteArray × Bool × Unit) × (Unit × Unit × Unit)) := bif Nat.ble (x.1.size + 1) 4294967281 then some ((⟨(Lib.cut x.1.data.toList x.2.1.data.toList).1.toArray⟩, ⟨(Lib.cut x.1.data.toList x.2.1.data.toList).2.1.toArray⟩, (Lib.cut x.1.data.toList x.2.1.data.toList).2.2, ()), ((), (), ())) else none
noncomputable def atoiaR (x : ByteArray × Unit) : Option ((Int × Bool × Unit) × (Unit × Unit)) := bif Nat.ble x.1.size 281474976710656 then match Lib.atoiAll x.1.data.toList with
  | .ok v => some ((v, true, ()), ((), ()))
  | .range => some ((Lib.atoiSat x.1.data.toList, false, ()), ((), ()))
  | _ => some ((0, false, ()), ((), ()))
  else none
noncomputable def extR : (f : Nat) → Option ((specOf tabs.spec f).In → Option (specOf tabs.spec f).Out) := fun f => match f with
  | 8 => some nodeputR
  | 30 => some cutR
  | 31 => some atoiaR
  | _ => none
/-- the variable that holds strconv's powers of ten, and its cells -/
def powG : Nat := 3
def powCells : Array Value := (Lib.pow10Tab.map fun z => Value.int .u64 z).toArray
/-- a variable that holds some number -/
def maxG : Nat := 0
/-- variables that hold an error -/
def synG : Nat := 1
def ranG : Nat := 2
def objsR : Nat → Option (Array Value → Prop) := fun g => if g = powG then some (fun cs => cs = powCells) else if g = maxG then some (fun cs => ∃ m, cs[0]? = some (.int .i64 m)) else if g = synG then some (fun cs => ∃ ev, cs[0]? = some ev ∧ (ev = .nilIface ∨ ∃ te pe, ev = .iface te pe)) else if g = ranG then some (fun cs => ∃ ev, cs[0]? = some ev ∧ (ev = .nilIface ∨ ∃ te pe, ev = .iface te pe)) else none

noncomputable def cx : Go.Rf.Cx := tabs.cx Tryd.prog extR (fun _ => none) objsR
theorem good : Go.Rf.Good cx := Go.Rf.Tabs.good tabs_ok
end Go.Proofs.YtcolgghllacloaaDoor.R
end

section
/-! Rf: the functions, and what each answers. -/
set_option autoImplicit false
set_option linter.unusedVariables false
namespace Go.Proofs.YtcolgghllacloaaDoor.R
open Go.Rf
/-! loop.example/jetton/laws.FnExactNodeGet -/
noncomputable def F4 (k : Nat) (a0 : ByteArray) : Option ((Bool × Unit) × (Unit × Unit)) := callF cx k 4 (a0, ())
/-! loop.example/jetton/impl.NodePut -/
noncomputable def F8 (k : Nat) (a0_0 : Bool) (a0_1 : List ByteArray) (a0_2 : List ByteArray) (a0_3 : List Int) : Option ((ByteArray × Unit) × ((Unit × Unit × Unit × Unit × Unit) × Unit)) := callF cx k 8 ((a0_0, a0_1, a0_2, a0_3, ()), ())
/-! loop.example/jetton/laws.eqNode -/
noncomputable def F9 (k : Nat) (a0_0 : Bool) (a0_1 : List ByteArray) (a0_2 : List ByteArray) (a0_3 : List Int) (a1_0 : Bool) (a1_1 : List ByteArray) (a1_2 : List ByteArray) (a1_3 : List Int) : Option ((Bool × Unit) × ((Unit × Unit × Unit × Unit × Unit) × (Unit × Unit × Unit × Unit × Unit) × Unit)) := callF cx k 9 ((a0_0, a0_1, a0_2, a0_3, ()), (a1_0, a1_1, a1_2, a1_3, ()), ())
/-! loop.example/jetton/spec.NodeGet -/
noncomputable def F10 (k : Nat) (a0 : ByteArray) : Option (((Bool × (List ByteArray) × (List ByteArray) × (List Int) × Unit) × Bool × Unit) × (Unit × Unit)) := callF cx k 10 (a0, ())
noncomputable def F10c7 (k : Nat) (x0 : ByteArray) (x2_0 : Bool) (x2_1 : List ByteArray) (x2_2 : List ByteArray) (x2_3 : List Int) (x4_0 : Bool) (x4_1 : List ByteArray) (x4_2 : List ByteArray) (x4_3 : List Int) (x5 : Bool) : Option (((Bool × (List ByteArray) × (List ByteArray) × (List Int) × Unit) × Bool × Unit) × (Unit × Unit)) := cutF cx 10 7 Tryd.f10 k (x0, (x2_0, x2_1, x2_2, x2_3, ()), (x4_0, x4_1, x4_2, x4_3, ()), x5, ())
noncomputable def F10c9 (k : Nat) (x2_0 : Bool) (x2_1 : List ByteArray) (x2_2 : List ByteArray) (x2_3 : List Int) (x4_0 : Bool) (x4_1 : List ByteArray) (x4_2 : List ByteArray) (x4_3 : List Int) (x5 : Bool) : Option (((Bool × (List ByteArray) × (List ByteArray) × (List Int) × Unit) × Bool × Unit) × (Unit × Unit)) := cutF cx 10 9 Tryd.f10 k ((x2_0, x2_1, x2_2, x2_3, ()), (x4_0, x4_1, x4_2, x4_3, ()), x5, ())
/-! loop.example/jetton/impl.NodeGet -/
noncomputable def F11 (k : Nat) (a0 : ByteArray) : Option (((Bool × (List ByteArray) × (List ByteArray) × (List Int) × Unit) × Bool × Unit) × (Unit × Unit)) := callF cx k 11 (a0, ())
noncomputable def F11c11 (k : Nat) (x0 : ByteArray) (x2_0 : Bool) (x2_1 : List ByteArray) (x2_2 : List ByteArray) (x2_3 : List Int) (x4_0 : Bool) (x4_1 : List ByteArray) (x4_2 : List ByteArray) (x4_3 : List Int) (x5 : ByteArray) : Option (((Bool × (List ByteArray) × (List ByteArray) × (List Int) × Unit) × Bool × Unit) × (Unit × Unit)) := cutF cx 11 11 Tryd.f11 k (x0, (x2_0, x2_1, x2_2, x2_3, ()), (x4_0, x4_1, x4_2, x4_3, ()), x5, ())
/-! loop.example/jetton/laws.markNode -/
noncomputable def F12 (k : Nat) (a0_0 : Bool) (a0_1 : List ByteArray) (a0_2 : List ByteArray) (a0_3 : List Int) (a1 : Int) : Option ((Int × Unit) × ((Unit × (List ByteArray) × (List ByteArray) × (List Int) × Unit) × Unit × Unit)) := callF cx k 12 ((a0_0, a0_1, a0_2, a0_3, ()), a1, ())
/-! loop.example/jetton/laws.heldNode -/
noncomputable def F13 (k : Nat) (a0_0 : Bool) (a0_1 : List ByteArray) (a0_2 : List ByteArray) (a0_3 : List Int) (a1 : Int) : Option ((Int × Unit) × ((Unit × Unit × Unit × Unit × Unit) × Unit × Unit)) := callF cx k 13 ((a0_0, a0_1, a0_2, a0_3, ()), a1, ())
/-! loop.example/jetton/spec.l9NodeOk -/
noncomputable def F17 (k : Nat) (a0_0 : Bool) (a0_1 : List ByteArray) (a0_2 : List ByteArray) (a0_3 : List Int) : Option ((Bool × Unit) × ((Unit × Unit × Unit × Unit × Unit) × Unit)) := callF cx k 17 ((a0_0, a0_1, a0_2, a0_3, ()), ())
noncomputable def F17c5 (k : Nat) (x1_0 : Bool) (x1_1 : List ByteArray) (x1_2 : List ByteArray) (x1_3 : List Int) (x3 : Int) : Option ((Bool × Unit) × ((Unit × Unit × Unit × Unit × Unit) × Unit)) := cutF cx 17 5 Tryd.f17 k ((x1_0, x1_1, x1_2, x1_3, ()), x3, ())
noncomputable def F17c11 (k : Nat) (x1_0 : Bool) (x1_1 : List ByteArray) (x1_2 : List ByteArray) (x1_3 : List Int) (x4 : Int) : Option ((Bool × Unit) × ((Unit × Unit × Unit × Unit × Unit) × Unit)) := cutF cx 17 11 Tryd.f17 k ((x1_0, x1_1, x1_2, x1_3, ()), x4, ())
/-! loop.example/jetton/laws.eqStringS -/
noncomputable def F26 (k : Nat) (a0 : List ByteArray) (a1 : List ByteArray) : Option ((Bool × Unit) × (Unit × Unit × Unit)) := callF cx k 26 (a0, a1, ())
noncomputable def F26c4 (k : Nat) (x0 : List ByteArray) (x1 : List ByteArray) (x5 : Int) : Option ((Bool × Unit) × (Unit × Unit × Unit)) := cutF cx 26 4 Tryd.f26 k (x0, x1, x5, ())
/-! loop.example/jetton/laws.eqIntS -/
noncomputable def F27 (k : Nat) (a0 : List Int) (a1 : List Int) : Option ((Bool × Unit) × (Unit × Unit × Unit)) := callF cx k 27 (a0, a1, ())
noncomputable def F27c4 (k : Nat) (x0 : List Int) (x1 : List Int) (x5 : Int) : Option ((Bool × Unit) × (Unit × Unit × Unit)) := cutF cx 27 4 Tryd.f27 k (x0, x1, x5, ())
/-! loop.example/jetton/spec.l9LeafGet -/
noncomputable def F28 (k : Nat) (a0 : ByteArray) : Option (((Bool × (List ByteArray) × (List ByteArray) × (List Int) × Unit) × Bool × Unit) × (Unit × Unit)) := callF cx k 28 (a0, ())
noncomputable def F28c2 (k : Nat) (x0 : ByteArray) (x2_0 : Bool) (x2_1 : List ByteArray) (x2_2 : List ByteArray) (x2_3 : List Int) (x4_0 : Bool) (x4_1 : List ByteArray) (x4_2 : List ByteArray) (x4_3 : List Int) : Option (((Bool × (List ByteArray) × (List ByteArray) × (List Int) × Unit) × Bool × Unit) × (Unit × Unit)) := cutF cx 28 2 Tryd.f28 k (x0, (x2_0, x2_1, x2_2, x2_3, ()), (x4_0, x4_1, x4_2, x4_3, ()), ())
/-! loop.example/jetton/spec.l9InnerGet -/
noncomputable def F29 (k : Nat) (a0 : ByteArray) : Option (((Bool × (List ByteArray) × (List ByteArray) × (List Int) × Unit) × Bool × Unit) × (Unit × Unit)) := callF cx k 29 (a0, ())
noncomputable def F29c6 (k : Nat) (x0 : ByteArray) (x2_0 : Bool) (x2_1 : List ByteArray) (x2_2 : List ByteArray) (x2_3 : List Int) (x5_0 : Bool) (x5_1 : List ByteArray) (x5_2 : List ByteArray) (x5_3 : List Int) : Option (((Bool × (List ByteArray) × (List ByteArray) × (List Int) × Unit) × Bool × Unit) × (Unit × Unit)) := cutF cx 29 6 Tryd.f29 k (x0, (x2_0, x2_1, x2_2, x2_3, ()), (x5_0, x5_1, x5_2, x5_3, ()), ())
/-! strings.Cut -/
noncomputable def F30 (k : Nat) (a0 : ByteArray) (a1 : ByteArray) : Option ((ByteArray × ByteArray × Bool × Unit) × (Unit × Unit × Unit)) := callF cx k 30 (a0, a1, ())
/-! strconv.Atoi -/
noncomputable def F31 (k : Nat) (a0 : ByteArray) : Option ((Int × Bool × Unit) × (Unit × Unit)) := callF cx k 31 (a0, ())
/-! loop.example/jetton/impl.entry -/
noncomputable def F32 (k : Nat) (a0 : ByteArray) : Option ((ByteArray × Int × ByteArray × Bool × Unit) × (Unit × Unit)) := callF cx k 32 (a0, ())
/-! loop.example/jetton/impl.in -/
noncomputable def F33 (k : Nat) (a0 : Int) (a1 : Int) (a2 : Int) : Option ((Bool × Unit) × (Unit × Unit × Unit × Unit)) := callF cx k 33 (a0, a1, a2, ())
/-! loop.example/jetton/impl.clone[string] -/
noncomputable def F34 (k : Nat) (a0 : List ByteArray) : Option (((List ByteArray) × Unit) × (Unit × Unit)) := callF cx k 34 (a0, ())
/-! loop.example/jetton/impl.clone[int] -/
noncomputable def F35 (k : Nat) (a0 : List Int) : Option (((List Int) × Unit) × (Unit × Unit)) := callF cx k 35 (a0, ())
/-! loop.example/jetton/laws.markStringS -/
noncomputable def F36 (k : Nat) (a0 : List ByteArray) (a1 : Int) : Option ((Int × Unit) × ((List ByteArray) × Unit × Unit)) := callF cx k 36 (a0, a1, ())
noncomputable def F36c2 (k : Nat) (x0 : List ByteArray) (x1 : Int) (x5 : Int) : Option ((Int × Unit) × ((List ByteArray) × Unit × Unit)) := cutF cx 36 2 Tryd.f36 k (x0, x1, x5, ())
/-! loop.example/jetton/laws.markIntS -/
noncomputable def F37 (k : Nat) (a0 : List Int) (a1 : Int) : Option ((Int × Unit) × ((List Int) × Unit × Unit)) := callF cx k 37 (a0, a1, ())
noncomputable def F37c2 (k : Nat) (x0 : List Int) (x1 : Int) (x5 : Int) : Option ((Int × Unit) × ((List Int) × Unit × Unit)) := cutF cx 37 2 Tryd.f37 k (x0, x1, x5, ())
/-! loop.example/jetton/laws.heldStringS -/
noncomputable def F38 (k : Nat) (a0 : List ByteArray) (a1 : Int) : Option ((Int × Unit) × (Unit × Unit × Unit)) := callF cx k 38 (a0, a1, ())
noncomputable def F38c2 (k : Nat) (x0 : List ByteArray) (x1 : Int) (x5 : Int) : Option ((Int × Unit) × (Unit × Unit × Unit)) := cutF cx 38 2 Tryd.f38 k (x0, x1, x5, ())
/-! loop.example/jetton/laws.heldIntS -/
noncomputable def F39 (k : Nat) (a0 : List Int) (a1 : Int) : Option ((Int × Unit) × (Unit × Unit × Unit)) := callF cx k 39 (a0, a1, ())
noncomputable def F39c2 (k : Nat) (x0 : List Int) (x1 : Int) (x5 : Int) : Option ((Int × Unit) × (Unit × Unit × Unit)) := cutF cx 39 2 Tryd.f39 k (x0, x1, x5, ())
/-! loop.example/jetton/spec.l9KeysOk -/
noncomputable def F40 (k : Nat) (a0 : List ByteArray) : Option ((Bool × Unit) × (Unit × Unit)) := callF cx k 40 (a0, ())
noncomputable def F40c2 (k : Nat) (x0 : List ByteArray) (x3 : Int) : Option ((Bool × Unit) × (Unit × Unit)) := cutF cx 40 2 Tryd.f40 k (x0, x3, ())
/-! loop.example/jetton/spec.l1In -/
noncomputable def F41 (k : Nat) (a0 : Int) (a1 : Int) (a2 : Int) : Option ((Bool × Unit) × (Unit × Unit × Unit × Unit)) := callF cx k 41 (a0, a1, a2, ())
/-! loop.example/jetton/spec.l9Two -/
noncomputable def F49 (k : Nat) (a0 : ByteArray) : Option ((Int × Int × Int × Unit) × (Unit × Unit)) := callF cx k 49 (a0, ())
/-! loop.example/jetton/spec.l1Cut -/
noncomputable def F50 (k : Nat) (a0 : ByteArray) (a1 : Int) (a2 : Int) : Option (((List ByteArray) × Unit) × (Unit × Unit × Unit × Unit)) := callF cx k 50 (a0, a1, a2, ())
noncomputable def F50c4 (k : Nat) (x0 : ByteArray) (x1 : Int) (x2 : Int) (x7 : List ByteArray) (x8 : Int) (x9 : Int) : Option (((List ByteArray) × Unit) × (Unit × Unit × Unit × Unit)) := cutF cx 50 4 Tryd.f50 k (x0, x1, x2, x7, x8, x9, ())
noncomputable def F50c5 (k : Nat) (x0 : ByteArray) (x1 : Int) (x2 : Int) (x7 : List ByteArray) (x8 : Int) (x9 : Int) (x17 : Int) (x18 : Int) (x19 : Bool) : Option (((List ByteArray) × Unit) × (Unit × Unit × Unit × Unit)) := cutF cx 50 5 Tryd.f50 k (x0, x1, x2, x7, x8, x9, x17, x18, x19, ())
/-! loop.example/jetton/spec.l1Num -/
noncomputable def F51 (k : Nat) (a0 : ByteArray) : Option ((Int × Unit) × (Unit × Unit)) := callF cx k 51 (a0, ())
noncomputable def F51c3 (k : Nat) (x0 : ByteArray) (x3 : Int) (x4 : Int) : Option ((Int × Unit) × (Unit × Unit)) := cutF cx 51 3 Tryd.f51 k (x0, x3, x4, ())
/-! slices.Clip[[]string,string] -/
noncomputable def F55 (k : Nat) (a0 : List ByteArray) : Option (((List ByteArray) × Unit) × (Unit × Unit)) := callF cx k 55 (a0, ())
/-! slices.Clone[[]string,string] -/
noncomputable def F56 (k : Nat) (a0 : List ByteArray) : Option (((List ByteArray) × Unit) × (Unit × Unit)) := callF cx k 56 (a0, ())
/-! slices.Clip[[]int,int] -/
noncomputable def F57 (k : Nat) (a0 : List Int) : Option (((List Int) × Unit) × (Unit × Unit)) := callF cx k 57 (a0, ())
/-! slices.Clone[[]int,int] -/
noncomputable def F58 (k : Nat) (a0 : List Int) : Option (((List Int) × Unit) × (Unit × Unit)) := callF cx k 58 (a0, ())
/-! loop.example/jetton/laws.markText -/
noncomputable def F59 (k : Nat) (a0 : Int) : Option ((ByteArray × Unit) × (Unit × Unit)) := callF cx k 59 (a0, ())
noncomputable def F59c4 (k : Nat) (x0 : Int) (x3 : ByteArray) : Option ((ByteArray × Unit) × (Unit × Unit)) := cutF cx 59 4 Tryd.f59 k (x0, x3, ())
theorem F4_eq (k : Nat) (a0 : ByteArray) : F4 (k + 2) a0 =
    if (decide ((a0.size : Int) > (1048576 : Int))) = true then some ((true, ()), ((), ())) else (F10 k a0).bind fun r1 => (F11 k a0).bind fun r2 => (F9 k r2.1.1.1 r2.1.1.2.1 r2.1.1.2.2.1 r2.1.1.2.2.2.1 r1.1.1.1 r1.1.1.2.1 r1.1.1.2.2.1 r1.1.1.2.2.2.1).bind fun r3 => if (!r3.1.1) = true then some ((false, ()), ((), ())) else if (!(r2.1.2.1 == r1.1.2.1)) = true then some ((false, ()), ((), ())) else (F12 k r2.1.1.1 r2.1.1.2.1 r2.1.1.2.2.1 r2.1.1.2.2.2.1 (1 : Int)).bind fun r4 => (F13 k r2.1.1.1 r4.2.1.2.1 r4.2.1.2.2.1 r4.2.1.2.2.2.1 (1 : Int)).bind fun r5 => if (decide (r5.1.1 < (0 : Int))) = true then some ((false, ()), ((), ())) else if (r5.1.1 != r4.1.1) = true then some ((false, ()), ((), ())) else (F11 k a0).bind fun r6 => (F9 k r6.1.1.1 r6.1.1.2.1 r6.1.1.2.2.1 r6.1.1.2.2.2.1 r1.1.1.1 r1.1.1.2.1 r1.1.1.2.2.1 r1.1.1.2.2.2.1).bind fun r7 => if (!r7.1.1) = true then some ((false, ()), ((), ())) else if (!(r6.1.2.1 == r1.1.2.1)) = true then some ((false, ()), ((), ())) else (F13 k r2.1.1.1 r4.2.1.2.1 r4.2.1.2.2.1 r4.2.1.2.2.2.1 (1 : Int)).bind fun r8 => if (decide (r8.1.1 < (0 : Int))) = true then some ((false, ()), ((), ())) else if (r8.1.1 != r4.1.1) = true then some ((false, ()), ((), ())) else some ((true, ()), ((), ())) := by kernel_rfl
theorem F8_eq (k : Nat) (a0_0 : Bool) (a0_1 : List ByteArray) (a0_2 : List ByteArray) (a0_3 : List Int) : F8 (k + 1) a0_0 a0_1 a0_2 a0_3 = nodeputR ((a0_0, a0_1, a0_2, a0_3, ()), ()) := by kernel_rfl
theorem F9_eq (k : Nat) (a0_0 : Bool) (a0_1 : List ByteArray) (a0_2 : List ByteArray) (a0_3 : List Int) (a1_0 : Bool) (a1_1 : List ByteArray) (a1_2 : List ByteArray) (a1_3 : List Int) : F9 (k + 2) a0_0 a0_1 a0_2 a0_3 a1_0 a1_1 a1_2 a1_3 =
    if (!(a0_0 == a1_0)) = true then some ((false, ()), (((), (), (), (), ()), ((), (), (), (), ()), ())) else (F26 k a0_1 a1_1).bind fun r1 => if (!r1.1.1) = true then some ((false, ()), (((), (), (), (), ()), ((), (), (), (), ()), ())) else (F26 k a0_2 a1_2).bind fun r2 => if (!r2.1.1) = true then some ((false, ()), (((), (), (), (), ()), ((), (), (), (), ()), ())) else (F27 k a0_3 a1_3).bind fun r3 => if (!r3.1.1) = true then some ((false, ()), (((), (), (), (), ()), ((), (), (), (), ()), ())) else some ((true, ()), (((), (), (), (), ()), ((), (), (), (), ()), ())) := by kernel_rfl
theorem F10_eq (k : Nat) (a0 : ByteArray) : F10 (k + 2) a0 =
    if (a0.toList == (⟨#[]⟩ : ByteArray).toList) = true then some (((false, ([] : List ByteArray), ([] : List ByteArray), ([] : List Int), ()), true, ()), ((), ())) else (a0[0]?).bind fun u1 => if ((u1.toNat : Int) == (76 : Int)) = true then if (decide (0 ≤ (1 : Int)) && decide ((1 : Int) ≤ (a0.size : Int))) = true then (F28 k (a0.extract 1 a0.size)).bind fun r2 => F10c7 k a0 false ([] : List ByteArray) ([] : List ByteArray) ([] : List Int) r2.1.1.1 r2.1.1.2.1 r2.1.1.2.2.1 r2.1.1.2.2.2.1 r2.1.2.1 else none else F10c7 k a0 false ([] : List ByteArray) ([] : List ByteArray) ([] : List Int) false ([] : List ByteArray) ([] : List ByteArray) ([] : List Int) false := by kernel_rfl
theorem F10c7_eq (k : Nat) (x0 : ByteArray) (x2_0 : Bool) (x2_1 : List ByteArray) (x2_2 : List ByteArray) (x2_3 : List Int) (x4_0 : Bool) (x4_1 : List ByteArray) (x4_2 : List ByteArray) (x4_3 : List Int) (x5 : Bool) : F10c7 (k + 1) x0 x2_0 x2_1 x2_2 x2_3 x4_0 x4_1 x4_2 x4_3 x5 =
    (x0[0]?).bind fun u3 => if ((u3.toNat : Int) == (78 : Int)) = true then if (decide (0 ≤ (1 : Int)) && decide ((1 : Int) ≤ (x0.size : Int))) = true then (F29 k (x0.extract 1 x0.size)).bind fun r4 => F10c9 k x2_0 x2_1 x2_2 x2_3 r4.1.1.1 r4.1.1.2.1 r4.1.1.2.2.1 r4.1.1.2.2.2.1 r4.1.2.1 else none else F10c9 k x2_0 x2_1 x2_2 x2_3 x4_0 x4_1 x4_2 x4_3 x5 := by kernel_rfl
theorem F10c9_eq (k : Nat) (x2_0 : Bool) (x2_1 : List ByteArray) (x2_2 : List ByteArray) (x2_3 : List Int) (x4_0 : Bool) (x4_1 : List ByteArray) (x4_2 : List ByteArray) (x4_3 : List Int) (x5 : Bool) : F10c9 (k + 1) x2_0 x2_1 x2_2 x2_3 x4_0 x4_1 x4_2 x4_3 x5 =
    if (!x5) = true then some (((false, ([] : List ByteArray), ([] : List ByteArray), ([] : List Int), ()), false, ()), ((), ())) else (F17 k x4_0 x4_1 x4_2 x4_3).bind fun r5 => if (!r5.1.1) = true then some (((false, ([] : List ByteArray), ([] : List ByteArray), ([] : List Int), ()), false, ()), ((), ())) else some (((x4_0, x4_1, x4_2, x4_3, ()), true, ()), ((), ())) := by kernel_rfl
theorem F11_eq (k : Nat) (a0 : ByteArray) : F11 (k + 2) a0 =
    if (a0.toList == (⟨#[]⟩ : ByteArray).toList) = true then some (((false, ([] : List ByteArray), ([] : List ByteArray), ([] : List Int), ()), true, ()), ((), ())) else (a0[0]?).bind fun u1 => if (decide (0 ≤ (1 : Int)) && decide ((1 : Int) ≤ (a0.size : Int))) = true then if (!((u1.toNat : Int) == (76 : Int))) = true then (F30 k (a0.extract 1 a0.size) (⟨#[58]⟩ : ByteArray)).bind fun r2 => (F31 k r2.1.1).bind fun r3 => if (!r3.1.2.1) = true then some (((false, ([] : List ByteArray), ([] : List ByteArray), ([] : List Int), ()), false, ()), ((), ())) else if (decide ([r3.1.1].length ≤ 17592186044416)) = true then F11c11 k a0 false ([] : List ByteArray) ([] : List ByteArray) ([] : List Int) ((u1.toNat : Int) == (76 : Int)) ([] : List ByteArray) ([] : List ByteArray) [r3.1.1] r2.1.2.1 else none else F11c11 k a0 false ([] : List ByteArray) ([] : List ByteArray) ([] : List Int) ((u1.toNat : Int) == (76 : Int)) ([] : List ByteArray) ([] : List ByteArray) ([] : List Int) (a0.extract 1 a0.size) else none := by kernel_rfl
theorem F11c11_eq (k : Nat) (x0 : ByteArray) (x2_0 : Bool) (x2_1 : List ByteArray) (x2_2 : List ByteArray) (x2_3 : List Int) (x4_0 : Bool) (x4_1 : List ByteArray) (x4_2 : List ByteArray) (x4_3 : List Int) (x5 : ByteArray) : F11c11 (k + 1) x0 x2_0 x2_1 x2_2 x2_3 x4_0 x4_1 x4_2 x4_3 x5 =
    if (!(x5.toList == (⟨#[]⟩ : ByteArray).toList)) = true then (F32 k x5).bind fun r4 => if (!r4.1.2.2.2.1) = true then some (((false, ([] : List ByteArray), ([] : List ByteArray), ([] : List Int), ()), false, ()), ((), ())) else if x4_0 = true then (F33 k r4.1.2.1 (0 : Int) (r4.1.2.2.1.size : Int)).bind fun r5 => if (!r5.1.1) = true then some (((false, ([] : List ByteArray), ([] : List ByteArray), ([] : List Int), ()), false, ()), ((), ())) else if (decide (x4_1.length + [r4.1.1].length ≤ 8796093022208)) = true then if x4_0 = true then if (decide (0 ≤ r4.1.2.1) && decide (r4.1.2.1 ≤ (r4.1.2.2.1.size : Int))) = true then if (decide (0 ≤ r4.1.2.1) && decide (r4.1.2.1 ≤ (r4.1.2.2.1.size : Int))) = true then if (decide (x4_2.length + [r4.1.2.2.1.extract 0 r4.1.2.1.toNat].length ≤ 8796093022208)) = true then F11c11 k x0 x2_0 x2_1 x2_2 x2_3 x4_0 (x4_1 ++ [r4.1.1]) (x4_2 ++ [r4.1.2.2.1.extract 0 r4.1.2.1.toNat]) x4_3 (r4.1.2.2.1.extract r4.1.2.1.toNat r4.1.2.2.1.size) else none else none else none else if (decide (x4_3.length + [r4.1.2.1].length ≤ 17592186044416)) = true then F11c11 k x0 x2_0 x2_1 x2_2 x2_3 x4_0 (x4_1 ++ [r4.1.1]) x4_2 (x4_3 ++ [r4.1.2.1]) r4.1.2.2.1 else none else none else if (decide (x4_1.length + [r4.1.1].length ≤ 8796093022208)) = true then if x4_0 = true then if (decide (0 ≤ r4.1.2.1) && decide (r4.1.2.1 ≤ (r4.1.2.2.1.size : Int))) = true then if (decide (0 ≤ r4.1.2.1) && decide (r4.1.2.1 ≤ (r4.1.2.2.1.size : Int))) = true then if (decide (x4_2.length + [r4.1.2.2.1.extract 0 r4.1.2.1.toNat].length ≤ 8796093022208)) = true then F11c11 k x0 x2_0 x2_1 x2_2 x2_3 x4_0 (x4_1 ++ [r4.1.1]) (x4_2 ++ [r4.1.2.2.1.extract 0 r4.1.2.1.toNat]) x4_3 (r4.1.2.2.1.extract r4.1.2.1.toNat r4.1.2.2.1.size) else none else none else none else if (decide (x4_3.length + [r4.1.2.1].length ≤ 17592186044416)) = true then F11c11 k x0 x2_0 x2_1 x2_2 x2_3 x4_0 (x4_1 ++ [r4.1.1]) x4_2 (x4_3 ++ [r4.1.2.1]) r4.1.2.2.1 else none else none else (F8 k x4_0 x4_1 x4_2 x4_3).bind fun r6 => if (!(r6.1.1.toList == x0.toList)) = true then some (((false, ([] : List ByteArray), ([] : List ByteArray), ([] : List Int), ()), false, ()), ((), ())) else (F34 k x4_1).bind fun r7 => (F34 k x4_2).bind fun r8 => (F35 k x4_3).bind fun r9 => some (((x4_0, r7.1.1, r8.1.1, r9.1.1, ()), true, ()), ((), ())) := by kernel_rfl
theorem F12_eq (k : Nat) (a0_0 : Bool) (a0_1 : List ByteArray) (a0_2 : List ByteArray) (a0_3 : List Int) (a1 : Int) : F12 (k + 2) a0_0 a0_1 a0_2 a0_3 a1 =
    (F36 k a0_1 a1).bind fun r1 => (F36 k a0_2 r1.1.1).bind fun r2 => (F37 k a0_3 r2.1.1).bind fun r3 => some ((r3.1.1, ()), (((), r1.2.1, r2.2.1, r3.2.1, ()), (), ())) := by kernel_rfl
theorem F13_eq (k : Nat) (a0_0 : Bool) (a0_1 : List ByteArray) (a0_2 : List ByteArray) (a0_3 : List Int) (a1 : Int) : F13 (k + 2) a0_0 a0_1 a0_2 a0_3 a1 =
    (F38 k a0_1 a1).bind fun r1 => if (decide (r1.1.1 < (0 : Int))) = true then some (((-1 : Int), ()), (((), (), (), (), ()), (), ())) else (F38 k a0_2 r1.1.1).bind fun r2 => if (decide (r2.1.1 < (0 : Int))) = true then some (((-1 : Int), ()), (((), (), (), (), ()), (), ())) else (F39 k a0_3 r2.1.1).bind fun r3 => if (decide (r3.1.1 < (0 : Int))) = true then some (((-1 : Int), ()), (((), (), (), (), ()), (), ())) else some ((r3.1.1, ()), (((), (), (), (), ()), (), ())) := by kernel_rfl
theorem F17_eq (k : Nat) (a0_0 : Bool) (a0_1 : List ByteArray) (a0_2 : List ByteArray) (a0_3 : List Int) : F17 (k + 2) a0_0 a0_1 a0_2 a0_3 =
    (F40 k a0_1).bind fun r1 => if (!r1.1.1) = true then some ((false, ()), (((), (), (), (), ()), ())) else if a0_0 = true then F17c5 k a0_0 a0_1 a0_2 a0_3 (0 : Int) else F17c11 k a0_0 a0_1 a0_2 a0_3 (0 : Int) := by kernel_rfl
theorem F17c5_eq (k : Nat) (x1_0 : Bool) (x1_1 : List ByteArray) (x1_2 : List ByteArray) (x1_3 : List Int) (x3 : Int) : F17c5 (k + 1) x1_0 x1_1 x1_2 x1_3 x3 =
    if (decide (x3 < (x1_2.length : Int))) = true then if (decide (0 ≤ x3)) = true then (x1_2[x3.toNat]?).bind fun y2 => if (decide ((y2.size : Int) > (140 : Int))) = true then some ((false, ()), (((), (), (), (), ()), ())) else F17c5 k x1_0 x1_1 x1_2 x1_3 (IntKind.i64.wrap (x3 + (1 : Int))) else none else if ((x1_2.length : Int) == (x1_1.length : Int)) = true then some ((((x1_3.length : Int) == (0 : Int)), ()), (((), (), (), (), ()), ())) else some ((false, ()), (((), (), (), (), ()), ())) := by kernel_rfl
theorem F17c11_eq (k : Nat) (x1_0 : Bool) (x1_1 : List ByteArray) (x1_2 : List ByteArray) (x1_3 : List Int) (x4 : Int) : F17c11 (k + 1) x1_0 x1_1 x1_2 x1_3 x4 =
    if (decide (x4 < (x1_3.length : Int))) = true then if (decide (0 ≤ x4)) = true then (x1_3[x4.toNat]?).bind fun y3 => (F41 k y3 (0 : Int) (18 : Int)).bind fun r4 => if (!r4.1.1) = true then some ((false, ()), (((), (), (), (), ()), ())) else F17c11 k x1_0 x1_1 x1_2 x1_3 (IntKind.i64.wrap (x4 + (1 : Int))) else none else if ((x1_2.length : Int) == (0 : Int)) = true then if (decide ((x1_1.length : Int) > (0 : Int))) = true then some ((((x1_3.length : Int) == (IntKind.i64.wrap ((x1_1.length : Int) + (1 : Int)))), ()), (((), (), (), (), ()), ())) else some ((false, ()), (((), (), (), (), ()), ())) else some ((false, ()), (((), (), (), (), ()), ())) := by kernel_rfl
theorem F26_eq (k : Nat) (a0 : List ByteArray) (a1 : List ByteArray) : F26 (k + 2) a0 a1 =
    if ((a0.length : Int) != (a1.length : Int)) = true then some ((false, ()), ((), (), ())) else F26c4 k a0 a1 (0 : Int) := by kernel_rfl
theorem F26c4_eq (k : Nat) (x0 : List ByteArray) (x1 : List ByteArray) (x5 : Int) : F26c4 (k + 1) x0 x1 x5 =
    if (decide (x5 < (x0.length : Int))) = true then if (decide (0 ≤ x5)) = true then (x0[x5.toNat]?).bind fun y1 => if (decide (0 ≤ x5)) = true then (x1[x5.toNat]?).bind fun y2 => if (!(y1.toList == y2.toList)) = true then some ((false, ()), ((), (), ())) else F26c4 k x0 x1 (IntKind.i64.wrap (x5 + (1 : Int))) else none else none else some ((true, ()), ((), (), ())) := by kernel_rfl
theorem F27_eq (k : Nat) (a0 : List Int) (a1 : List Int) : F27 (k + 2) a0 a1 =
    if ((a0.length : Int) != (a1.length : Int)) = true then some ((false, ()), ((), (), ())) else F27c4 k a0 a1 (0 : Int) := by kernel_rfl
theorem F27c4_eq (k : Nat) (x0 : List Int) (x1 : List Int) (x5 : Int) : F27c4 (k + 1) x0 x1 x5 =
    if (decide (x5 < (x0.length : Int))) = true then if (decide (0 ≤ x5)) = true then (x0[x5.toNat]?).bind fun y1 => if (decide (0 ≤ x5)) = true then (x1[x5.toNat]?).bind fun y2 => if (y1 != y2) = true then some ((false, ()), ((), (), ())) else F27c4 k x0 x1 (IntKind.i64.wrap (x5 + (1 : Int))) else none else none else some ((true, ()), ((), (), ())) := by kernel_rfl
theorem F28_eq (k : Nat) (a0 : ByteArray) : F28 (k + 2) a0 =
    F28c2 k a0 false ([] : List ByteArray) ([] : List ByteArray) ([] : List Int) true ([] : List ByteArray) ([] : List ByteArray) ([] : List Int) := by kernel_rfl
theorem F28c2_eq (k : Nat) (x0 : ByteArray) (x2_0 : Bool) (x2_1 : List ByteArray) (x2_2 : List ByteArray) (x2_3 : List Int) (x4_0 : Bool) (x4_1 : List ByteArray) (x4_2 : List ByteArray) (x4_3 : List Int) : F28c2 (k + 1) x0 x2_0 x2_1 x2_2 x2_3 x4_0 x4_1 x4_2 x4_3 =
    if (decide ((x0.size : Int) > (0 : Int))) = true then if (decide ((x4_1.length : Int) ≤ (4 : Int))) = true then (F49 k x0).bind fun r1 => if (r1.1.2.2.1 == (0 : Int)) = true then some (((false, ([] : List ByteArray), ([] : List ByteArray), ([] : List Int), ()), false, ()), ((), ())) else if (decide ((IntKind.i64.wrap ((IntKind.i64.wrap (r1.1.2.2.1 + r1.1.1)) + r1.1.2.1)) > (x0.size : Int))) = true then some (((false, ([] : List ByteArray), ([] : List ByteArray), ([] : List Int), ()), false, ()), ((), ())) else if (decide (0 ≤ r1.1.2.2.1) && decide (r1.1.2.2.1 ≤ (IntKind.i64.wrap (r1.1.2.2.1 + r1.1.1))) && decide ((IntKind.i64.wrap (r1.1.2.2.1 + r1.1.1)) ≤ (x0.size : Int))) = true then if (decide (x4_1.length + [x0.extract r1.1.2.2.1.toNat ((IntKind.i64.wrap (r1.1.2.2.1 + r1.1.1)).toNat)].length ≤ 8796093022208)) = true then if (decide (0 ≤ (IntKind.i64.wrap (r1.1.2.2.1 + r1.1.1))) && decide ((IntKind.i64.wrap (r1.1.2.2.1 + r1.1.1)) ≤ (IntKind.i64.wrap ((IntKind.i64.wrap (r1.1.2.2.1 + r1.1.1)) + r1.1.2.1))) && decide ((IntKind.i64.wrap ((IntKind.i64.wrap (r1.1.2.2.1 + r1.1.1)) + r1.1.2.1)) ≤ (x0.size : Int))) = true then if (decide (x4_2.length + [x0.extract ((IntKind.i64.wrap (r1.1.2.2.1 + r1.1.1)).toNat) ((IntKind.i64.wrap ((IntKind.i64.wrap (r1.1.2.2.1 + r1.1.1)) + r1.1.2.1)).toNat)].length ≤ 8796093022208)) = true then if (decide (0 ≤ (IntKind.i64.wrap ((IntKind.i64.wrap (r1.1.2.2.1 + r1.1.1)) + r1.1.2.1))) && decide ((IntKind.i64.wrap ((IntKind.i64.wrap (r1.1.2.2.1 + r1.1.1)) + r1.1.2.1)) ≤ (x0.size : Int))) = true then F28c2 k (x0.extract ((IntKind.i64.wrap ((IntKind.i64.wrap (r1.1.2.2.1 + r1.1.1)) + r1.1.2.1)).toNat) x0.size) x2_0 x2_1 x2_2 x2_3 x4_0 (x4_1 ++ [x0.extract r1.1.2.2.1.toNat ((IntKind.i64.wrap (r1.1.2.2.1 + r1.1.1)).toNat)]) (x4_2 ++ [x0.extract ((IntKind.i64.wrap (r1.1.2.2.1 + r1.1.1)).toNat) ((IntKind.i64.wrap ((IntKind.i64.wrap (r1.1.2.2.1 + r1.1.1)) + r1.1.2.1)).toNat)]) x4_3 else none else none else none else none else none else some (((x4_0, x4_1, x4_2, x4_3, ()), ((x0.size : Int) == (0 : Int)), ()), ((), ())) else some (((x4_0, x4_1, x4_2, x4_3, ()), ((x0.size : Int) == (0 : Int)), ()), ((), ())) := by kernel_rfl
theorem F29_eq (k : Nat) (a0 : ByteArray) : F29 (k + 2) a0 =
    (F50 k a0 (58 : Int) (1 : Int)).bind fun r1 => if ((r1.1.1.length : Int) != (2 : Int)) = true then some (((false, ([] : List ByteArray), ([] : List ByteArray), ([] : List Int), ()), false, ()), ((), ())) else (r1.1.1[0]?).bind fun y2 => (F51 k y2).bind fun r3 => (r1.1.1[1]?).bind fun y4 => F29c6 k y4 false ([] : List ByteArray) ([] : List ByteArray) ([] : List Int) false ([] : List ByteArray) ([] : List ByteArray) [r3.1.1] := by kernel_rfl
theorem F29c6_eq (k : Nat) (x0 : ByteArray) (x2_0 : Bool) (x2_1 : List ByteArray) (x2_2 : List ByteArray) (x2_3 : List Int) (x5_0 : Bool) (x5_1 : List ByteArray) (x5_2 : List ByteArray) (x5_3 : List Int) : F29c6 (k + 1) x0 x2_0 x2_1 x2_2 x2_3 x5_0 x5_1 x5_2 x5_3 =
    if (decide ((x0.size : Int) > (0 : Int))) = true then if (decide ((x5_1.length : Int) ≤ (4 : Int))) = true then (F49 k x0).bind fun r5 => if (r5.1.2.2.1 == (0 : Int)) = true then some (((false, ([] : List ByteArray), ([] : List ByteArray), ([] : List Int), ()), false, ()), ((), ())) else if (decide ((IntKind.i64.wrap (r5.1.2.2.1 + r5.1.1)) > (x0.size : Int))) = true then some (((false, ([] : List ByteArray), ([] : List ByteArray), ([] : List Int), ()), false, ()), ((), ())) else if (decide (0 ≤ r5.1.2.2.1) && decide (r5.1.2.2.1 ≤ (IntKind.i64.wrap (r5.1.2.2.1 + r5.1.1))) && decide ((IntKind.i64.wrap (r5.1.2.2.1 + r5.1.1)) ≤ (x0.size : Int))) = true then if (decide (x5_1.length + [x0.extract r5.1.2.2.1.toNat ((IntKind.i64.wrap (r5.1.2.2.1 + r5.1.1)).toNat)].length ≤ 8796093022208)) = true then if (decide (x5_3.length + [r5.1.2.1].length ≤ 17592186044416)) = true then if (decide (0 ≤ (IntKind.i64.wrap (r5.1.2.2.1 + r5.1.1))) && decide ((IntKind.i64.wrap (r5.1.2.2.1 + r5.1.1)) ≤ (x0.size : Int))) = true then F29c6 k (x0.extract ((IntKind.i64.wrap (r5.1.2.2.1 + r5.1.1)).toNat) x0.size) x2_0 x2_1 x2_2 x2_3 x5_0 (x5_1 ++ [x0.extract r5.1.2.2.1.toNat ((IntKind.i64.wrap (r5.1.2.2.1 + r5.1.1)).toNat)]) x5_2 (x5_3 ++ [r5.1.2.1]) else none else none else none else none else some (((x5_0, x5_1, x5_2, x5_3, ()), ((x0.size : Int) == (0 : Int)), ()), ((), ())) else some (((x5_0, x5_1, x5_2, x5_3, ()), ((x0.size : Int) == (0 : Int)), ()), ((), ())) := by kernel_rfl
theorem F30_eq (k : Nat) (a0 : ByteArray) (a1 : ByteArray) : F30 (k + 1) a0 a1 = cutR (a0, a1, ()) := by kernel_rfl
theorem F31_eq (k : Nat) (a0 : ByteArray) : F31 (k + 1) a0 = atoiaR (a0, ()) := by kernel_rfl
theorem F32_eq (k : Nat) (a0 : ByteArray) : F32 (k + 2) a0 =
    (F30 k a0 (⟨#[58]⟩ : ByteArray)).bind fun r1 => (F30 k r1.1.1 (⟨#[44]⟩ : ByteArray)).bind fun r2 => (F31 k r2.1.1).bind fun r3 => (F31 k r2.1.2.1).bind fun r4 => if (!r1.1.2.2.1) = true then some (((⟨#[]⟩ : ByteArray), (0 : Int), (⟨#[]⟩ : ByteArray), false, ()), ((), ())) else if (!r2.1.2.2.1) = true then some (((⟨#[]⟩ : ByteArray), (0 : Int), (⟨#[]⟩ : ByteArray), false, ()), ((), ())) else if (!r3.1.2.1) = true then some (((⟨#[]⟩ : ByteArray), (0 : Int), (⟨#[]⟩ : ByteArray), false, ()), ((), ())) else if (!r4.1.2.1) = true then some (((⟨#[]⟩ : ByteArray), (0 : Int), (⟨#[]⟩ : ByteArray), false, ()), ((), ())) else (F33 k r3.1.1 (0 : Int) (r1.1.2.1.size : Int)).bind fun r5 => if (!r5.1.1) = true then some (((⟨#[]⟩ : ByteArray), (0 : Int), (⟨#[]⟩ : ByteArray), false, ()), ((), ())) else if (decide (0 ≤ r3.1.1) && decide (r3.1.1 ≤ (r1.1.2.1.size : Int))) = true then if (decide (0 ≤ r3.1.1) && decide (r3.1.1 ≤ (r1.1.2.1.size : Int))) = true then some ((r1.1.2.1.extract 0 r3.1.1.toNat, r4.1.1, r1.1.2.1.extract r3.1.1.toNat r1.1.2.1.size, true, ()), ((), ())) else none else none := by kernel_rfl
theorem F33_eq (k : Nat) (a0 : Int) (a1 : Int) (a2 : Int) : F33 (k + 2) a0 a1 a2 =
    if (decide (a0 ≥ a1)) = true then some ((decide (a0 ≤ a2), ()), ((), (), (), ())) else some ((false, ()), ((), (), (), ())) := by kernel_rfl
theorem F34_eq (k : Nat) (a0 : List ByteArray) : F34 (k + 2) a0 =
    (F56 k a0).bind fun r1 => (F55 k r1.1.1).bind fun r2 => some ((r2.1.1, ()), ((), ())) := by kernel_rfl
theorem F35_eq (k : Nat) (a0 : List Int) : F35 (k + 2) a0 =
    (F58 k a0).bind fun r1 => (F57 k r1.1.1).bind fun r2 => some ((r2.1.1, ()), ((), ())) := by kernel_rfl
theorem F36_eq (k : Nat) (a0 : List ByteArray) (a1 : Int) : F36 (k + 2) a0 a1 =
    F36c2 k a0 a1 (0 : Int) := by kernel_rfl
theorem F36c2_eq (k : Nat) (x0 : List ByteArray) (x1 : Int) (x5 : Int) : F36c2 (k + 1) x0 x1 x5 =
    if (decide (x5 < (x0.length : Int))) = true then (F59 k x1).bind fun r1 => if (decide (0 ≤ x5) && decide (x5 < (x0.length : Int))) = true then (x0[x5.toNat]?).bind fun y2 => F36c2 k (x0.set x5.toNat r1.1.1) (IntKind.i64.wrap (x1 + (1 : Int))) (IntKind.i64.wrap (x5 + (1 : Int))) else none else some ((x1, ()), (x0, (), ())) := by kernel_rfl
theorem F37_eq (k : Nat) (a0 : List Int) (a1 : Int) : F37 (k + 2) a0 a1 =
    F37c2 k a0 a1 (0 : Int) := by kernel_rfl
theorem F37c2_eq (k : Nat) (x0 : List Int) (x1 : Int) (x5 : Int) : F37c2 (k + 1) x0 x1 x5 =
    if (decide (x5 < (x0.length : Int))) = true then if (decide (0 ≤ x5) && decide (x5 < (x0.length : Int))) = true then (x0[x5.toNat]?).bind fun y1 => F37c2 k (x0.set x5.toNat x1) (IntKind.i64.wrap (x1 + (1 : Int))) (IntKind.i64.wrap (x5 + (1 : Int))) else none else some ((x1, ()), (x0, (), ())) := by kernel_rfl
theorem F38_eq (k : Nat) (a0 : List ByteArray) (a1 : Int) : F38 (k + 2) a0 a1 =
    F38c2 k a0 a1 (0 : Int) := by kernel_rfl
theorem F38c2_eq (k : Nat) (x0 : List ByteArray) (x1 : Int) (x5 : Int) : F38c2 (k + 1) x0 x1 x5 =
    if (decide (x5 < (x0.length : Int))) = true then if (decide (0 ≤ x5)) = true then (x0[x5.toNat]?).bind fun y1 => (F59 k x1).bind fun r2 => if (!(y1.toList == r2.1.1.toList)) = true then some (((-1 : Int), ()), ((), (), ())) else F38c2 k x0 (IntKind.i64.wrap (x1 + (1 : Int))) (IntKind.i64.wrap (x5 + (1 : Int))) else none else some ((x1, ()), ((), (), ())) := by kernel_rfl
theorem F39_eq (k : Nat) (a0 : List Int) (a1 : Int) : F39 (k + 2) a0 a1 =
    F39c2 k a0 a1 (0 : Int) := by kernel_rfl
theorem F39c2_eq (k : Nat) (x0 : List Int) (x1 : Int) (x5 : Int) : F39c2 (k + 1) x0 x1 x5 =
    if (decide (x5 < (x0.length : Int))) = true then if (decide (0 ≤ x5)) = true then (x0[x5.toNat]?).bind fun y1 => if (y1 != x1) = true then some (((-1 : Int), ()), ((), (), ())) else F39c2 k x0 (IntKind.i64.wrap (x1 + (1 : Int))) (IntKind.i64.wrap (x5 + (1 : Int))) else none else some ((x1, ()), ((), (), ())) := by kernel_rfl
theorem F40_eq (k : Nat) (a0 : List ByteArray) : F40 (k + 2) a0 =
    F40c2 k a0 (0 : Int) := by kernel_rfl
theorem F40c2_eq (k : Nat) (x0 : List ByteArray) (x3 : Int) : F40c2 (k + 1) x0 x3 =
    if (decide (x3 < (x0.length : Int))) = true then if (decide (0 ≤ x3)) = true then (x0[x3.toNat]?).bind fun y1 => (F41 k (y1.size : Int) (1 : Int) (96 : Int)).bind fun r2 => if (!r2.1.1) = true then some ((false, ()), ((), ())) else if (decide (x3 > (0 : Int))) = true then if (decide (0 ≤ x3)) = true then (x0[x3.toNat]?).bind fun y3 => if (decide (0 ≤ (IntKind.i64.wrap (x3 - (1 : Int))))) = true then (x0[(IntKind.i64.wrap (x3 - (1 : Int))).toNat]?).bind fun y4 => if (Op.bytesLess y3.toList y4.toList || y3.toList == y4.toList) = true then some ((false, ()), ((), ())) else F40c2 k x0 (IntKind.i64.wrap (x3 + (1 : Int))) else none else none else F40c2 k x0 (IntKind.i64.wrap (x3 + (1 : Int))) else none else some ((decide ((x0.length : Int) ≤ (4 : Int)), ()), ((), ())) := by kernel_rfl
theorem F41_eq (k : Nat) (a0 : Int) (a1 : Int) (a2 : Int) : F41 (k + 2) a0 a1 a2 =
    if (decide (a0 ≥ a1)) = true then some ((decide (a0 ≤ a2), ()), ((), (), (), ())) else some ((false, ()), ((), (), (), ())) := by kernel_rfl
theorem F49_eq (k : Nat) (a0 : ByteArray) : F49 (k + 2) a0 =
    (F50 k a0 (58 : Int) (1 : Int)).bind fun r1 => (r1.1.1[0]?).bind fun y2 => (F50 k y2 (44 : Int) (1 : Int)).bind fun r3 => if ((r1.1.1.length : Int) != (2 : Int)) = true then some (((0 : Int), (0 : Int), (0 : Int), ()), ((), ())) else if ((r3.1.1.length : Int) != (2 : Int)) = true then some (((0 : Int), (0 : Int), (0 : Int), ()), ((), ())) else (r3.1.1[0]?).bind fun y4 => (F51 k y4).bind fun r5 => (r3.1.1[1]?).bind fun y6 => (F51 k y6).bind fun r7 => (F41 k r5.1.1 (1 : Int) (96 : Int)).bind fun r8 => if (!r8.1.1) = true then some (((0 : Int), (0 : Int), (0 : Int), ()), ((), ())) else (F41 k r7.1.1 (0 : Int) (140 : Int)).bind fun r9 => if (!r9.1.1) = true then some (((0 : Int), (0 : Int), (0 : Int), ()), ((), ())) else (r1.1.1[0]?).bind fun y10 => some ((r5.1.1, r7.1.1, (IntKind.i64.wrap ((y10.size : Int) + (1 : Int))), ()), ((), ())) := by kernel_rfl
theorem F50_eq (k : Nat) (a0 : ByteArray) (a1 : Int) (a2 : Int) : F50 (k + 2) a0 a1 a2 =
    F50c4 k a0 a1 a2 ([] : List ByteArray) (0 : Int) (0 : Int) := by kernel_rfl
theorem F50c4_eq (k : Nat) (x0 : ByteArray) (x1 : Int) (x2 : Int) (x7 : List ByteArray) (x8 : Int) (x9 : Int) : F50c4 (k + 1) x0 x1 x2 x7 x8 x9 =
    if (decide (x9 < (x0.size : Int))) = true then if (decide ((x7.length : Int) < x2)) = true then if (decide (0 ≤ x9)) = true then (x0[x9.toNat]?).bind fun u1 => if ((u1.toNat : Int) == x1) = true then if (decide (0 ≤ x8) && decide (x8 ≤ x9) && decide (x9 ≤ (x0.size : Int))) = true then if (decide (x7.length + [x0.extract x8.toNat x9.toNat].length ≤ 8796093022208)) = true then F50c5 k x0 x1 x2 (x7 ++ [x0.extract x8.toNat x9.toNat]) (IntKind.i64.wrap (x9 + (1 : Int))) x9 (x7.length : Int) x2 (decide ((x7.length : Int) < x2)) else none else none else F50c5 k x0 x1 x2 x7 x8 x9 (x7.length : Int) x2 (decide ((x7.length : Int) < x2)) else none else if (decide (0 ≤ x8) && decide (x8 ≤ (x0.size : Int))) = true then if (decide (x7.length + [x0.extract x8.toNat x0.size].length ≤ 8796093022208)) = true then some (((x7 ++ [x0.extract x8.toNat x0.size]), ()), ((), (), (), ())) else none else none else if (decide (0 ≤ x8) && decide (x8 ≤ (x0.size : Int))) = true then if (decide (x7.length + [x0.extract x8.toNat x0.size].length ≤ 8796093022208)) = true then some (((x7 ++ [x0.extract x8.toNat x0.size]), ()), ((), (), (), ())) else none else none := by kernel_rfl
theorem F50c5_eq (k : Nat) (x0 : ByteArray) (x1 : Int) (x2 : Int) (x7 : List ByteArray) (x8 : Int) (x9 : Int) (x17 : Int) (x18 : Int) (x19 : Bool) : F50c5 (k + 1) x0 x1 x2 x7 x8 x9 x17 x18 x19 =
    F50c4 k x0 x1 x2 x7 x8 (IntKind.i64.wrap (x9 + (1 : Int))) := by kernel_rfl
theorem F51_eq (k : Nat) (a0 : ByteArray) : F51 (k + 2) a0 =
    F51c3 k a0 (0 : Int) (0 : Int) := by kernel_rfl
theorem F51c3_eq (k : Nat) (x0 : ByteArray) (x3 : Int) (x4 : Int) : F51c3 (k + 1) x0 x3 x4 =
    if (decide (x4 < (x0.size : Int))) = true then if (decide (0 ≤ x4)) = true then (x0[x4.toNat]?).bind fun u1 => if (decide ((u1.toNat : Int) < (48 : Int))) = true then some (((-1 : Int), ()), ((), ())) else if (decide (0 ≤ x4)) = true then (x0[x4.toNat]?).bind fun u2 => if (decide ((u2.toNat : Int) > (57 : Int))) = true then some (((-1 : Int), ()), ((), ())) else if (decide (x4 ≥ (9 : Int))) = true then some (((-1 : Int), ()), ((), ())) else if (decide (0 ≤ x4)) = true then (x0[x4.toNat]?).bind fun u3 => F51c3 k x0 (IntKind.i64.wrap ((IntKind.i64.wrap (x3 * (10 : Int))) + (IntKind.i64.wrap (IntKind.u8.wrap ((u3.toNat : Int) - (48 : Int)))))) (IntKind.i64.wrap (x4 + (1 : Int))) else none else none else none else if ((x0.size : Int) == (0 : Int)) = true then some (((-1 : Int), ()), ((), ())) else if (decide ((x0.size : Int) > (1 : Int))) = true then (x0[0]?).bind fun u4 => if ((u4.toNat : Int) == (48 : Int)) = true then some (((-1 : Int), ()), ((), ())) else some ((x3, ()), ((), ())) else some ((x3, ()), ((), ())) := by kernel_rfl
theorem F55_eq (k : Nat) (a0 : List ByteArray) : F55 (k + 2) a0 =
    if ((a0.length : Int) == (a0.length : Int) && (a0.length : Int) == (a0.length : Int)) = true then some ((a0, ()), ((), ())) else none := by kernel_rfl
theorem F56_eq (k : Nat) (a0 : List ByteArray) : F56 (k + 2) a0 =
    bothK (emptyL a0) (some ((([] : List ByteArray), ()), ((), ()))) (if (decide (([] : List ByteArray).length + a0.length ≤ 8796093022208)) = true then some (((([] : List ByteArray) ++ a0), ()), ((), ())) else none) := by kernel_rfl
theorem F57_eq (k : Nat) (a0 : List Int) : F57 (k + 2) a0 =
    if ((a0.length : Int) == (a0.length : Int) && (a0.length : Int) == (a0.length : Int)) = true then some ((a0, ()), ((), ())) else none := by kernel_rfl
theorem F58_eq (k : Nat) (a0 : List Int) : F58 (k + 2) a0 =
    bothK (emptyL a0) (some ((([] : List Int), ()), ((), ()))) (if (decide (([] : List Int).length + a0.length ≤ 17592186044416)) = true then some (((([] : List Int) ++ a0), ()), ((), ())) else none) := by kernel_rfl
theorem F59_eq (k : Nat) (a0 : Int) : F59 (k + 2) a0 =
    if (decide (a0 ≤ (0 : Int))) = true then some (((⟨#[109, 48]⟩ : ByteArray), ()), ((), ())) else F59c4 k a0 (⟨#[]⟩ : ByteArray) := by kernel_rfl
theorem F59c4_eq (k : Nat) (x0 : Int) (x3 : ByteArray) : F59c4 (k + 1) x0 x3 =
    if (decide (x0 > (0 : Int))) = true then if (Nat.ble ((bytesOf [(IntKind.u8.wrap (IntKind.i64.wrap ((48 : Int) + (x0.tmod (10 : Int)))))]).size + x3.size) 9223372036854775807) = true then F59c4 k (IntKind.i64.wrap (x0.tdiv (10 : Int))) ((bytesOf [(IntKind.u8.wrap (IntKind.i64.wrap ((48 : Int) + (x0.tmod (10 : Int)))))]) ++ x3) else none else if (Nat.ble ((⟨#[109]⟩ : ByteArray).size + x3.size) 9223372036854775807) = true then some ((((⟨#[109]⟩ : ByteArray) ++ x3), ()), ((), ())) else none := by kernel_rfl
end Go.Proofs.YtcolgghllacloaaDoor.R
end

section
/-! Rf: what is to be shown of a law, with no machine in sight. -/
set_option autoImplicit false
namespace Go.Proofs.YtcolgghllacloaaDoor.R
open Go.Rf
def PureFnExactNodeGet : Prop := ∀ (a0 : ByteArray), wfT .str a0 → ∃ k p, F4 k a0 = some ((true, ()), p)
end Go.Proofs.YtcolgghllacloaaDoor.R
end

section
namespace Go.Proofs.YtcolgghllacloaaDoor.Q
open Go.RowKit Go.Proofs.YtcolgghllacloaaDoor.Q Go.Proofs.YtcolgghllacloaaDoorW.PrintWords Go.Proofs.YtcolgghllacloaaDoorW.PrintLast Go.Proofs.YtcolgghllacloaaDoorW.PrintMore
set_option linter.unusedVariables false
set_option linter.unusedSimpArgs false
/-- The table that strconv reads is laid. -/
def Laid (w : World) : Prop := Lib.TabIs Tryd.prog w "internal/strconv.uint64pow10" .u64 Lib.pow10Tab
theorem gPow : ∃ g, Tryd.prog.globalNamed "internal/strconv.uint64pow10" = some g := Option.isSome_iff_exists.1 (by kernel_rfl)
theorem laid_below {w W : World} (h : Laid w) (hb : Below w.heap.size w W) : Laid W := by
  obtain ⟨g, hg⟩ := gPow
  unfold Laid Lib.TabIs World.var? at h ⊢
  simp only [hg, Option.bind_some] at h ⊢
  have hlt : g < w.heap.size := by
    rcases Nat.lt_or_ge g w.heap.size with h' | h'
    · exact h'
    · simp [Array.getElem?_eq_none h'] at h
  rw [hb.block g hlt]
  exact h
end Go.Proofs.YtcolgghllacloaaDoor.Q
end

section
namespace Go.Proofs
open Go.Shelf
def Tryd.lays169_ren : Go.Shelf.Ren := ⟨fun | 169 => 25 | n => n, fun | 70 => 42 | 9 => 9 | 0 => 0 | 72 => 45 | 37 => 43 | 127 => 63 | 3 => 3 | 5 => 5 | n => n, fun | n => n⟩
theorem Tryd.lays169 : Go.Proofs.Lays.n169 Tryd.prog Tryd.lays169_ren := {
  mixed := by kernel_rfl
  f169 := Tryd.func25.trans (congrArg some (by kernel_rfl))
  t0 := Tryd.underlying0
  a0 := Tryd.isAgg0
  z0 := Tryd.sizeOf0
  v0 := Tryd.zeroValue0
  t3 := Tryd.underlying3
  a3 := Tryd.isAgg3
  z3 := Tryd.sizeOf3
  v3 := Tryd.zeroValue3
  t9 := Tryd.underlying9
  a9 := Tryd.isAgg9
  z9 := Tryd.sizeOf9
  v9 := Tryd.zeroValue9
  t37 := Tryd.underlying43
  a37 := Tryd.isAgg43
  z37 := Tryd.sizeOf43
  v37 := Tryd.zeroValue43
  t70 := Tryd.underlying42
  a70 := Tryd.isAgg42
  z70 := Tryd.sizeOf42
  v70 := Tryd.zeroValue42
  t72 := Tryd.underlying45
  a72 := Tryd.isAgg45
  z72 := Tryd.sizeOf45
  v72 := Tryd.zeroValue45
  t127 := Tryd.underlying63
  a127 := Tryd.isAgg63
  z127 := Tryd.sizeOf63
  v127 := Tryd.zeroValue63 }
theorem Tryd.Builder_Extra_169 : Builder.Extra Tryd.prog Tryd.lays169_ren := {
  sizeBuilder := by kernel_rfl
  liesBuilder := by kernel_rfl
  t5 := Tryd.underlying5
  a5 := Tryd.isAgg5
  z5 := Tryd.sizeOf5
  v5 := Tryd.zeroValue5
  infoByte := by kernel_rfl
  cellsByte := by kernel_rfl
  sizeByte := by kernel_rfl
  neB5 := by decide }
open Go.RowKit in
/-- (*strings.Builder).String: "String returns the accumulated string.": WHATEVER THE BUILDER HOLDS; THE FORM '_f': OF A BUILDER THAT MAY HAVE BEEN READ BEFORE; AND IT IS A BUILDER STILL, holding the same bytes: it can be written on. (LAID: no walk: one application.) -/
theorem Tryd.Builder_String_any_f (B b : Nat) (l : List UInt8) (w : World) (h : Lib.IsBuilderF 45 5 B b (Lib.byteCells l) w) (hBw : B ≤ w.heap.size) :
    Calls Tryd.prog 25 #[.pointer (some ⟨b, 0, none⟩)] w fun e w' => e = .returned (.string ⟨l.toArray⟩) ∧ (Lib.IsBuilderF 45 5 B b (Lib.byteCells l) w' ∧ Below B w w') := Any.Builder_String_any_f Tryd.lays169 Tryd.Builder_Extra_169 B b l w h hBw
def Tryd.laysM171_ren : Go.Shelf.Ren := ⟨fun | 171 => 24 | 243 => 48 | 246 => 63 | 283 => 70 | 284 => 71 | 285 => 72 | 286 => 73 | 129 => 82 | 317 => 81 | 318 => 83 | 319 => 84 | 320 => 85 | 337 => 90 | 338 => 91 | n => n, fun | 3 => 3 | 9 => 9 | 2 => 2 | 4 => 4 | 171 => 81 | 0 => 0 | 53 => 82 | 37 => 43 | 5 => 5 | 173 => 85 | 212 => 97 | 51 => 98 | 20 => 20 | 213 => 99 | 46 => 89 | 232 => 108 | 233 => 109 | n => n, fun | 17 => 3 | 18 => 4 | 19 => 5 | n => n⟩
theorem Tryd.laysM171 : Go.Proofs.LaysM.n171 Tryd.prog Tryd.laysM171_ren := {
  mixed := by kernel_rfl
  f129 := Tryd.func82.trans (congrArg some (by kernel_rfl))
  f171 := Tryd.func24.trans (congrArg some (by kernel_rfl))
  f243 := Tryd.func48.trans (congrArg some (by kernel_rfl))
  f246 := Tryd.func63.trans (congrArg some (by kernel_rfl))
  f283 := Tryd.func70.trans (congrArg some (by kernel_rfl))
  f284 := Tryd.func71.trans (congrArg some (by kernel_rfl))
  f285 := Tryd.func72.trans (congrArg some (by kernel_rfl))
  f286 := Tryd.func73.trans (congrArg some (by kernel_rfl))
  f317 := Tryd.func81.trans (congrArg some (by kernel_rfl))
  f318 := Tryd.func83.trans (congrArg some (by kernel_rfl))
  f319 := Tryd.func84.trans (congrArg some (by kernel_rfl))
  f320 := Tryd.func85.trans (congrArg some (by kernel_rfl))
  f337 := Tryd.func90.trans (congrArg some (by kernel_rfl))
  f338 := Tryd.func91.trans (congrArg some (by kernel_rfl))
  t0 := Tryd.underlying0
  a0 := Tryd.isAgg0
  z0 := Tryd.sizeOf0
  v0 := Tryd.zeroValue0
  t2 := Tryd.underlying2
  a2 := Tryd.isAgg2
  z2 := Tryd.sizeOf2
  v2 := Tryd.zeroValue2
  t3 := Tryd.underlying3
  a3 := Tryd.isAgg3
  z3 := Tryd.sizeOf3
  v3 := Tryd.zeroValue3
  t4 := Tryd.underlying4
  a4 := Tryd.isAgg4
  z4 := Tryd.sizeOf4
  v4 := Tryd.zeroValue4
  t5 := Tryd.underlying5
  a5 := Tryd.isAgg5
  z5 := Tryd.sizeOf5
  v5 := Tryd.zeroValue5
  t9 := Tryd.underlying9
  a9 := Tryd.isAgg9
  z9 := Tryd.sizeOf9
  v9 := Tryd.zeroValue9
  t20 := Tryd.underlying20
  a20 := Tryd.isAgg20
  z20 := Tryd.sizeOf20
  v20 := Tryd.zeroValue20
  t37 := Tryd.underlying43
  a37 := Tryd.isAgg43
  z37 := Tryd.sizeOf43
  v37 := Tryd.zeroValue43
  t46 := Tryd.underlying89
  a46 := Tryd.isAgg89
  z46 := Tryd.sizeOf89
  v46 := Tryd.zeroValue89
  t51 := Tryd.underlying98
  a51 := Tryd.isAgg98
  z51 := Tryd.sizeOf98
  v51 := Tryd.zeroValue98
  t53 := Tryd.underlying82
  a53 := Tryd.isAgg82
  z53 := Tryd.sizeOf82
  v53 := Tryd.zeroValue82
  t171 := Tryd.underlying81
  a171 := Tryd.isAgg81
  z171 := Tryd.sizeOf81
  v171 := Tryd.zeroValue81
  t173 := Tryd.underlying85
  a173 := Tryd.isAgg85
  z173 := Tryd.sizeOf85
  v173 := Tryd.zeroValue85
  t212 := Tryd.underlying97
  a212 := Tryd.isAgg97
  z212 := Tryd.sizeOf97
  v212 := Tryd.zeroValue97
  t213 := Tryd.underlying99
  a213 := Tryd.isAgg99
  z213 := Tryd.sizeOf99
  t232 := Tryd.underlying108
  a232 := Tryd.isAgg108
  z232 := Tryd.sizeOf108
  v232 := Tryd.zeroValue108
  t233 := Tryd.underlying109
  a233 := Tryd.isAgg109
  z233 := Tryd.sizeOf109
  v233 := Tryd.zeroValue109
  g17 := by kernel_rfl
  g18 := by kernel_rfl
  g19 := by kernel_rfl
  i0 := by kernel_rfl
  i2 := by kernel_rfl
  i3 := by kernel_rfl
  i4 := by kernel_rfl
  i5 := by kernel_rfl
  i9 := by kernel_rfl
  i20 := by kernel_rfl
  i37 := by kernel_rfl
  i46 := by kernel_rfl
  i51 := by kernel_rfl
  i53 := by kernel_rfl
  i171 := by kernel_rfl
  i173 := by kernel_rfl
  i212 := by kernel_rfl
  i232 := by kernel_rfl
  i233 := by kernel_rfl
  m17 := by kernel_rfl
  m18 := by kernel_rfl
  m19 := by kernel_rfl }
open Go.RowKit Go.Sort Go.Lib in
/-- strconv.Itoa: "Itoa is equivalent to FormatInt(int64(i), 10).": i's DECIMAL NUMERAL ('Lib.itoa': a '-' where i is negative, then the digits), FOR EVERY int. The world behind the call: the world before it, new blocks behind the heap (the library's 'var a [24]byte'), draws. (LAID: no walk: one application.) -/
theorem Tryd.strconv_Itoa (n : Int) (h0 : -9223372036854775808 ≤ n) (h1 : n ≤ 9223372036854775807) (w : World) (htab : Lib.TabIs Tryd.prog w "internal/strconv.uint64pow10" .u64 Lib.pow10Tab) :
    Calls Tryd.prog 24 #[.int .i64 n] w fun e w' => e = .returned (.string ⟨(Lib.itoa n).toArray⟩) ∧ ∃ k os, w' = grow (w.drewN k) os := Any.strconv_Itoa Tryd.laysM171 n h0 h1 w htab
def Tryd.laysC172_ren : Go.Shelf.Ren := ⟨fun | 172 => 31 | 244 => 53 | 245 => 54 | 247 => 65 | 279 => 66 | 280 => 67 | 281 => 68 | 282 => 69 | 287 => 78 | 316 => 79 | 171 => 24 | 205 => 80 | 321 => 88 | 322 => 89 | 243 => 48 | 246 => 63 | 283 => 70 | 284 => 71 | 285 => 72 | 286 => 73 | 129 => 82 | 317 => 81 | 318 => 83 | 319 => 84 | 320 => 85 | 337 => 90 | 338 => 91 | n => n, fun | 9 => 9 | 3 => 3 | 75 => 47 | 76 => 48 | 4 => 4 | 5 => 5 | 167 => 75 | 37 => 43 | 0 => 0 | 85 => 76 | 2 => 2 | 168 => 78 | 53 => 82 | 175 => 90 | 46 => 89 | 210 => 94 | 127 => 63 | 145 => 106 | 143 => 104 | 21 => 21 | 171 => 81 | 173 => 85 | 212 => 97 | 51 => 98 | 20 => 20 | 213 => 99 | 232 => 108 | 233 => 109 | 80 => 51 | n => n, fun | 15 => 1 | 16 => 2 | 17 => 3 | 18 => 4 | 19 => 5 | n => n⟩
theorem Tryd.laysC172 : Go.Proofs.LaysC.n172 Tryd.prog Tryd.laysC172_ren := {
  mixed := by kernel_rfl
  f129 := Tryd.func82.trans (congrArg some (by kernel_rfl))
  f171 := Tryd.func24.trans (congrArg some (by kernel_rfl))
  f172 := Tryd.func31.trans (congrArg some (by kernel_rfl))
  f205 := Tryd.func80.trans (congrArg some (by kernel_rfl))
  f243 := Tryd.func48.trans (congrArg some (by kernel_rfl))
  f244 := Tryd.func53.trans (congrArg some (by kernel_rfl))
  f245 := Tryd.func54.trans (congrArg some (by kernel_rfl))
  f246 := Tryd.func63.trans (congrArg some (by kernel_rfl))
  f247 := Tryd.func65.trans (congrArg some (by kernel_rfl))
  f279 := Tryd.func66.trans (congrArg some (by kernel_rfl))
  f280 := Tryd.func67.trans (congrArg some (by kernel_rfl))
  f281 := Tryd.func68.trans (congrArg some (by kernel_rfl))
  f282 := Tryd.func69.trans (congrArg some (by kernel_rfl))
  f283 := Tryd.func70.trans (congrArg some (by kernel_rfl))
  f284 := Tryd.func71.trans (congrArg some (by kernel_rfl))
  f285 := Tryd.func72.trans (congrArg some (by kernel_rfl))
  f286 := Tryd.func73.trans (congrArg some (by kernel_rfl))
  f287 := Tryd.func78.trans (congrArg some (by kernel_rfl))
  f316 := Tryd.func79.trans (congrArg some (by kernel_rfl))
  f317 := Tryd.func81.trans (congrArg some (by kernel_rfl))
  f318 := Tryd.func83.trans (congrArg some (by kernel_rfl))
  f319 := Tryd.func84.trans (congrArg some (by kernel_rfl))
  f320 := Tryd.func85.trans (congrArg some (by kernel_rfl))
  f321 := Tryd.func88.trans (congrArg some (by kernel_rfl))
  f322 := Tryd.func89.trans (congrArg some (by kernel_rfl))
  f337 := Tryd.func90.trans (congrArg some (by kernel_rfl))
  f338 := Tryd.func91.trans (congrArg some (by kernel_rfl))
  t0 := Tryd.underlying0
  a0 := Tryd.isAgg0
  z0 := Tryd.sizeOf0
  v0 := Tryd.zeroValue0
  t2 := Tryd.underlying2
  a2 := Tryd.isAgg2
  z2 := Tryd.sizeOf2
  v2 := Tryd.zeroValue2
  t3 := Tryd.underlying3
  a3 := Tryd.isAgg3
  z3 := Tryd.sizeOf3
  v3 := Tryd.zeroValue3
  t4 := Tryd.underlying4
  a4 := Tryd.isAgg4
  z4 := Tryd.sizeOf4
  v4 := Tryd.zeroValue4
  t5 := Tryd.underlying5
  a5 := Tryd.isAgg5
  z5 := Tryd.sizeOf5
  v5 := Tryd.zeroValue5
  t9 := Tryd.underlying9
  a9 := Tryd.isAgg9
  z9 := Tryd.sizeOf9
  v9 := Tryd.zeroValue9
  t20 := Tryd.underlying20
  a20 := Tryd.isAgg20
  z20 := Tryd.sizeOf20
  v20 := Tryd.zeroValue20
  t21 := Tryd.underlying21
  a21 := Tryd.isAgg21
  z21 := Tryd.sizeOf21
  v21 := Tryd.zeroValue21
  t37 := Tryd.underlying43
  a37 := Tryd.isAgg43
  z37 := Tryd.sizeOf43
  v37 := Tryd.zeroValue43
  t46 := Tryd.underlying89
  a46 := Tryd.isAgg89
  z46 := Tryd.sizeOf89
  v46 := Tryd.zeroValue89
  t51 := Tryd.underlying98
  a51 := Tryd.isAgg98
  z51 := Tryd.sizeOf98
  v51 := Tryd.zeroValue98
  t53 := Tryd.underlying82
  a53 := Tryd.isAgg82
  z53 := Tryd.sizeOf82
  v53 := Tryd.zeroValue82
  t75 := Tryd.underlying47
  a75 := Tryd.isAgg47
  z75 := Tryd.sizeOf47
  v75 := Tryd.zeroValue47
  t76 := Tryd.underlying48
  a76 := Tryd.isAgg48
  z76 := Tryd.sizeOf48
  v76 := Tryd.zeroValue48
  t85 := Tryd.underlying76
  a85 := Tryd.isAgg76
  z85 := Tryd.sizeOf76
  v85 := Tryd.zeroValue76
  t127 := Tryd.underlying63
  a127 := Tryd.isAgg63
  z127 := Tryd.sizeOf63
  v127 := Tryd.zeroValue63
  t143 := Tryd.underlying104
  a143 := Tryd.isAgg104
  z143 := Tryd.sizeOf104
  v143 := Tryd.zeroValue104
  t145 := Tryd.underlying106
  a145 := Tryd.isAgg106
  z145 := Tryd.sizeOf106
  v145 := Tryd.zeroValue106
  t167 := Tryd.underlying75
  a167 := Tryd.isAgg75
  z167 := Tryd.sizeOf75
  v167 := Tryd.zeroValue75
  t168 := Tryd.underlying78
  a168 := Tryd.isAgg78
  z168 := Tryd.sizeOf78
  v168 := Tryd.zeroValue78
  t171 := Tryd.underlying81
  a171 := Tryd.isAgg81
  z171 := Tryd.sizeOf81
  v171 := Tryd.zeroValue81
  t173 := Tryd.underlying85
  a173 := Tryd.isAgg85
  z173 := Tryd.sizeOf85
  v173 := Tryd.zeroValue85
  t175 := Tryd.underlying90
  a175 := Tryd.isAgg90
  z175 := Tryd.sizeOf90
  v175 := Tryd.zeroValue90
  t210 := Tryd.underlying94
  a210 := Tryd.isAgg94
  z210 := Tryd.sizeOf94
  v210 := Tryd.zeroValue94
  t212 := Tryd.underlying97
  a212 := Tryd.isAgg97
  z212 := Tryd.sizeOf97
  v212 := Tryd.zeroValue97
  t213 := Tryd.underlying99
  a213 := Tryd.isAgg99
  z213 := Tryd.sizeOf99
  t232 := Tryd.underlying108
  a232 := Tryd.isAgg108
  z232 := Tryd.sizeOf108
  v232 := Tryd.zeroValue108
  t233 := Tryd.underlying109
  a233 := Tryd.isAgg109
  z233 := Tryd.sizeOf109
  v233 := Tryd.zeroValue109
  g15 := by kernel_rfl
  g16 := by kernel_rfl
  g17 := by kernel_rfl
  g18 := by kernel_rfl
  g19 := by kernel_rfl
  t80 := Tryd.underlying51
  a80 := Tryd.isAgg51
  z80 := Tryd.sizeOf51
  v80 := Tryd.zeroValue51
  i0 := by kernel_rfl
  i2 := by kernel_rfl
  i3 := by kernel_rfl
  i4 := by kernel_rfl
  i5 := by kernel_rfl
  i9 := by kernel_rfl
  i20 := by kernel_rfl
  i21 := by kernel_rfl
  i37 := by kernel_rfl
  i46 := by kernel_rfl
  i51 := by kernel_rfl
  i53 := by kernel_rfl
  i75 := by kernel_rfl
  i76 := by kernel_rfl
  i80 := by kernel_rfl
  i85 := by kernel_rfl
  i127 := by kernel_rfl
  i143 := by kernel_rfl
  i145 := by kernel_rfl
  i167 := by kernel_rfl
  i168 := by kernel_rfl
  i171 := by kernel_rfl
  i173 := by kernel_rfl
  i175 := by kernel_rfl
  i210 := by kernel_rfl
  i212 := by kernel_rfl
  i232 := by kernel_rfl
  i233 := by kernel_rfl
  m15 := by kernel_rfl
  m16 := by kernel_rfl
  m17 := by kernel_rfl
  m18 := by kernel_rfl
  m19 := by kernel_rfl
  c0 := by kernel_rfl
  c2 := by kernel_rfl
  c3 := by kernel_rfl
  c4 := by kernel_rfl
  c5 := by kernel_rfl
  c9 := by kernel_rfl
  c20 := by kernel_rfl
  c21 := by kernel_rfl
  c37 := by kernel_rfl
  c46 := by kernel_rfl
  c51 := by kernel_rfl
  c53 := by kernel_rfl
  c75 := by kernel_rfl
  c76 := by kernel_rfl
  c80 := by kernel_rfl
  c85 := by kernel_rfl
  c127 := by kernel_rfl
  c143 := by kernel_rfl
  c145 := by kernel_rfl
  c167 := by kernel_rfl
  c168 := by kernel_rfl
  c171 := by kernel_rfl
  c173 := by kernel_rfl
  c175 := by kernel_rfl
  c210 := by kernel_rfl
  c212 := by kernel_rfl
  c213 := by kernel_rfl
  c232 := by kernel_rfl
  c233 := by kernel_rfl }
open Go.RowKit in
/-- strconv.Atoi, AT EVERY STRING THAT SPELLS AN int ('Lib.atoiAll .. = .ok v'; of whatever length: leading zeros count): v, AND NO ERROR. The world: as it was, or with the one new row that '[]byte(..)' lays. (LAID: no walk: one application.) -/
theorem Tryd.strconv_Atoi_ok (s : ByteArray) (hmax : s.size ≤ 9223372036854775806) (v : Int) (h : Lib.atoiAll s.data.toList = .ok v) (w : World) :
    Calls Tryd.prog 31 #[.string s] w fun e w' => e = .returned (.tuple #[.int .i64 v, .nilIface]) ∧ (w' = w ∨ ∃ t, w' = Lib.bytesWorld w 5 t) := Any.strconv_Atoi_ok Tryd.laysC172 s hmax v h w
open Go.RowKit in
/-- strconv.Atoi, AT EVERY STRING THAT IS NO DECIMAL NUMERAL : 0, AND AN ERROR THAT IS NOT nil: a *NumError in a new block N: {Func: "Atoi", Num: s's bytes, Err: what the variable ErrSyntax holds}. Of what was there nothing has turned. (LAID: no walk: one application.) -/
theorem Tryd.strconv_Atoi_syntax (s : ByteArray) (hlim : s.size ≤ 281474976710656) (h : Lib.atoiAll s.data.toList = (Lib.atoiAll [])) (ev : Value) (w : World) (hv : w.cell? ⟨1, 0, none⟩ = some ev) (hev : ev = .nilIface ∨ ∃ te pe, ev = .iface te pe) :
    Calls Tryd.prog 31 #[.string s] w fun e w' => ∃ N, e = .returned (.tuple #[.int .i64 (0), .iface 78 (.pointer (some ⟨N, 0, none⟩))]) ∧ w.heap.size ≤ N ∧ w'.heap[N]? = some (.cells #[.string ⟨#[65, 116, 111, 105]⟩, .string s, ev] 94 (0, 0)) ∧ Below w.heap.size w w' := Any.strconv_Atoi_syntax Tryd.laysC172 s hlim h ev w hv hev
open Go.RowKit in
/-- strconv.Atoi, AT EVERY NUMERAL THAT NO int HOLDS ('.range'): THE GREATEST OR THE LEAST int, BY THE SIGN ('Lib.atoiSat'), AND AN ERROR THAT IS NOT nil: a *NumError in a new block N: {Func: "Atoi", Num: s's bytes, Err: what the variable ErrRange holds}. Of what was there nothing has turned. (LAID: no walk: one application.) -/
theorem Tryd.strconv_Atoi_range (s : ByteArray) (hlim : s.size ≤ 281474976710656) (h : Lib.atoiAll s.data.toList = .range) (ev : Value) (w : World) (hv : w.cell? ⟨2, 0, none⟩ = some ev) (hev : ev = .nilIface ∨ ∃ te pe, ev = .iface te pe) :
    Calls Tryd.prog 31 #[.string s] w fun e w' => ∃ N, e = .returned (.tuple #[.int .i64 (Lib.atoiSat s.data.toList), .iface 78 (.pointer (some ⟨N, 0, none⟩))]) ∧ w.heap.size ≤ N ∧ w'.heap[N]? = some (.cells #[.string ⟨#[65, 116, 111, 105]⟩, .string s, ev] 94 (0, 0)) ∧ Below w.heap.size w w' := Any.strconv_Atoi_range Tryd.laysC172 s hlim h ev w hv hev
def Tryd.lays145_ren : Go.Shelf.Ren := ⟨fun | 145 => 30 | 220 => 52 | 219 => 64 | 217 => 74 | 225 => 75 | 224 => 76 | 267 => 77 | 266 => 86 | 314 => 87 | n => n, fun | 9 => 9 | 4 => 4 | 59 => 54 | 3 => 3 | 5 => 5 | 46 => 89 | 146 => 101 | 51 => 98 | n => n, fun | 1 => 0 | n => n⟩
theorem Tryd.lays145 : Go.Proofs.Lays.n145 Tryd.prog Tryd.lays145_ren := {
  mixed := by kernel_rfl
  f145 := Tryd.func30.trans (congrArg some (by kernel_rfl))
  f217 := Tryd.func74.trans (congrArg some (by kernel_rfl))
  f219 := Tryd.func64.trans (congrArg some (by kernel_rfl))
  f220 := Tryd.func52.trans (congrArg some (by kernel_rfl))
  f224 := Tryd.func76.trans (congrArg some (by kernel_rfl))
  f225 := Tryd.func75.trans (congrArg some (by kernel_rfl))
  f266 := Tryd.func86.trans (congrArg some (by kernel_rfl))
  f267 := Tryd.func77.trans (congrArg some (by kernel_rfl))
  f314 := Tryd.func87.trans (congrArg some (by kernel_rfl))
  t3 := Tryd.underlying3
  a3 := Tryd.isAgg3
  z3 := Tryd.sizeOf3
  v3 := Tryd.zeroValue3
  t4 := Tryd.underlying4
  a4 := Tryd.isAgg4
  z4 := Tryd.sizeOf4
  v4 := Tryd.zeroValue4
  t5 := Tryd.underlying5
  a5 := Tryd.isAgg5
  z5 := Tryd.sizeOf5
  v5 := Tryd.zeroValue5
  t9 := Tryd.underlying9
  a9 := Tryd.isAgg9
  z9 := Tryd.sizeOf9
  v9 := Tryd.zeroValue9
  t46 := Tryd.underlying89
  a46 := Tryd.isAgg89
  z46 := Tryd.sizeOf89
  v46 := Tryd.zeroValue89
  t51 := Tryd.underlying98
  a51 := Tryd.isAgg98
  z51 := Tryd.sizeOf98
  v51 := Tryd.zeroValue98
  t59 := Tryd.underlying54
  a59 := Tryd.isAgg54
  z59 := Tryd.sizeOf54
  v59 := Tryd.zeroValue54
  t146 := Tryd.underlying101
  a146 := Tryd.isAgg101
  z146 := Tryd.sizeOf101
  v146 := Tryd.zeroValue101
  g1 := by kernel_rfl }
open Go.RowKit Go.Lib in
/-- strings.Cut: "Cut slices s around the first instance of sep, returning the text before and after sep. The found result reports whether sep appears in s. If sep does not appear in s, cut returns s, "", false.": IT RETURNS 'Lib.cut s sep'; the world is as it was but for the count of draws. (LAID: no walk: one application.) -/
theorem Tryd.strings_Cut (s sep : ByteArray) (m : Int) (w : World) (hs : s.size < 4294967281) (hm : w.cell? ⟨0, 0, none⟩ = some (.int .i64 m)) :
    Calls Tryd.prog 30 #[.string s, .string sep] w fun e w' => e = .returned (.tuple #[.string ⟨(Lib.cut s.data.toList sep.data.toList).1.toArray⟩, .string ⟨(Lib.cut s.data.toList sep.data.toList).2.1.toArray⟩, .bool (Lib.cut s.data.toList sep.data.toList).2.2]) ∧ ∃ n, w' = w.drewN n := Any.strings_Cut Tryd.lays145 s sep m w hs hm
end Go.Proofs
end

section
namespace Go.Proofs.YtcolgghllacloaaDoor.Q
open Go.Shelf
open Go.RowKit Go.Proofs.YtcolgghllacloaaDoor.Q Go.Proofs.YtcolgghllacloaaDoorW.PrintWords Go.Proofs.YtcolgghllacloaaDoorW.PrintLast Go.Proofs.YtcolgghllacloaaDoorW.PrintMore
set_option linter.unusedVariables false
set_option linter.unusedSimpArgs false
/-- A block holds these cells. -/
def CellsAt (W : World) (B : Nat) (t : TypeId) (cs : Array Value) : Prop := W.heap[B]? = some (.cells cs t (0, 0))
theorem CellsAt.lt {W : World} {B : Nat} {t : TypeId} {cs : Array Value} (h : CellsAt W B t cs) : B < W.heap.size := (Array.getElem?_eq_some_iff.1 h).1
theorem CellsAt.new (W : World) (t : TypeId) (cs : Array Value) : CellsAt (W.alloc (.cells cs t)) W.heap.size t cs := World.alloc_heap_new W _
theorem CellsAt.kept {W W' : World} {row : Option Nat} {B : Nat} {t : TypeId} {cs : Array Value} (h : CellsAt W B t cs) (hg : W.grownBy W' row) (hne : some B ≠ row) : CellsAt W' B t cs := (hg.block B h.lt hne).trans h
theorem CellsAt.below {W W' : World} {B n : Nat} {t : TypeId} {cs : Array Value} (h : CellsAt W B t cs) (hb : Below n W W') (hn : B < n) : CellsAt W' B t cs := (hb.block B hn).trans h
theorem CellsAt.alloc {W : World} {B : Nat} {t : TypeId} {cs : Array Value} (h : CellsAt W B t cs) (o : Obj) : CellsAt (W.alloc o) B t cs := (Below.heap_alloc W o B h.lt).trans h
theorem CellsAt.drewN {W : World} {B : Nat} {t : TypeId} {cs : Array Value} (h : CellsAt W B t cs) (m : Nat) : CellsAt (W.drewN m) B t cs := h
theorem CellsAt.cell {W : World} {B : Nat} {t : TypeId} {cs : Array Value} (h : CellsAt W B t cs) (j : Nat) : W.cell? ⟨B, j, none⟩ = cs[j]? := by
  simp [World.cell?, show W.heap[B]? = _ from h]
/-- What a round that goes on keeps: what lay below, and the box of the slice. -/
def KpB (n₀ Bs : Nat) (W W' : World) : Prop := Below n₀ W W' ∧ W'.heap[Bs]? = W.heap[Bs]?
theorem KpB.trans {n₀ Bs : Nat} {A B C : World} (h : KpB n₀ Bs A B) (k : KpB n₀ Bs B C) : KpB n₀ Bs A C := ⟨h.1.trans k.1, k.2.trans h.2⟩
end Go.Proofs.YtcolgghllacloaaDoor.Q
end

section
namespace Go.Proofs.YtcolgghllacloaaDoor.Q
open Go.RowKit Go.Proofs.YtcolgghllacloaaDoor.Q Go.Proofs.YtcolgghllacloaaDoorW.PrintWords Go.Proofs.YtcolgghllacloaaDoorW.PrintLast Go.Proofs.YtcolgghllacloaaDoorW.PrintMore
set_option linter.unusedVariables false
set_option linter.unusedSimpArgs false
set_option maxHeartbeats 2000000 in
set_option maxRecDepth 100000 in
theorem bld_copyCheck (B b : Nat) (bs : List Value) (w : World) (h : Lib.IsBuilderF 45 5 B b bs w) :
    Calls Tryd.prog 47 #[.pointer (some ⟨b, 0, none⟩)] w fun e w' => e = .returned (.tuple #[]) ∧ (Lib.BuilderAtF 45 5 B b (.pointer (some ⟨b, 0, none⟩)) bs w' ∧ Below B w w' ∧ Lib.OthersKept 5 (some b) w w') := by
  have hsz : (Tryd.prog.info? 45).map (·.size) = some 2 := by kernel_rfl
  obtain ⟨j, hj, hjs⟩ := Option.map_eq_some_iff.1 hsz
  rcases h with h | h
  · have h' := h
    obtain ⟨hB, v, hbk, hown, hne⟩ := h'
    have c0 : w.cell? ⟨b, 0, none⟩ = some (.pointer none) := by rw [Lib.cell_of_heap hbk]; rfl
    have c1 : w.cell? ⟨b, 1, none⟩ = some v := by rw [Lib.cell_of_heap hbk]; rfl
    have f0 : w.frozen? ⟨b, 0, none⟩ = false := Lib.frozen_of_heap hbk 0
    go_enter Tryd.func47, Tryd.ntmps47
    go_wp2
    rw [Lib.run_to_unsafe w ⟨b, 0, none⟩ Tryd.underlying42 Tryd.underlying71 hj (by rw [hjs]; decide) h.shape (Nat.zero_lt_succ 1)]
    simp only [Result.andThen]
    rw [Oper.upon_value]
    go_wp2
    rw [run_callFunc_extern Tryd.func62 (by kernel_rfl) (by kernel_rfl) (by kernel_rfl) (e := Extern.AbiNoEscape.same) (by kernel_rfl)]
    rw [Lib.run_noEscape]
    simp only [Result.andThen]
    rw [Oper.upon_value]
    go_wp2
    rw [Lib.run_from_unsafe w ⟨b, 0, none⟩ Tryd.underlying71 Tryd.underlying42 hj h.shape (by kernel_rfl)]
    simp only [Result.andThen]
    rw [Oper.upon_value]
    go_wp2
    go_end0
    exact ⟨rfl, h.used _, (Below.refl B w).setCell (p := ⟨b, 0, none⟩) h.1 _, (Lib.OthersKept.refl _ _ w).setCell ⟨b, 0, none⟩ rfl _⟩
  · obtain ⟨hB, v, hbk, hown, hne⟩ := id h
    have c0 : w.cell? ⟨b, 0, none⟩ = some (.pointer (some ⟨b, 0, none⟩)) := by rw [Lib.cell_of_heap hbk]; rfl
    go_enter Tryd.func47, Tryd.ntmps47
    go_wp2
    rw [Lib.run_neq_ptr_same w _ Tryd.underlying42 hj]
    go_wp2
    go_end0
    exact ⟨rfl, h, Below.refl B _, Lib.OthersKept.refl _ _ _⟩
theorem infoByte : (Tryd.prog.info? 5).map (fun i => (i.zero, i.size, i.bytes)) = some (some (.int .u8 0), 1, 1) := by kernel_rfl
set_option maxHeartbeats 2000000 in
set_option maxRecDepth 100000 in
theorem bld_WriteString (B b : Nat) (bs : List Value) (s : ByteArray) (w : World) (h : Lib.IsBuilderF 45 5 B b bs w) (hlen : bs.length + s.size ≤ 140737488355328) (hBw : B ≤ w.heap.size) :
    Calls Tryd.prog 23 #[.pointer (some ⟨b, 0, none⟩), .string s] w fun e w' => e = .returned (.tuple #[.int .i64 s.size, .nilIface]) ∧ (Lib.BuilderAtF 45 5 B b (.pointer (some ⟨b, 0, none⟩)) (bs ++ Lib.strCells s) w' ∧ Below B w w' ∧ Lib.OthersKept 5 (some b) w w') := by
  obtain ⟨i0, hi, hz0, hz1, hz2⟩ := info_parts infoByte
  go_enter Tryd.func23, Tryd.ntmps23
  go_wp2_with (go_at_call 47; refine (bld_copyCheck B b bs _ h).mono ?_)
  rintro e w1 ⟨rfl, h1, hb1, hk1⟩
  obtain ⟨hB, v, hbk, hown, hne⟩ := h1
  have c0 : w1.cell? ⟨b, 0, none⟩ = some (.pointer (some ⟨b, 0, none⟩)) := by rw [Lib.cell_of_heap hbk]; rfl
  have c1 : w1.cell? ⟨b, 1, none⟩ = some v := by rw [Lib.cell_of_heap hbk]; rfl
  go_wp2_with (at_builtin; refine Lib.wpList_append_own_stringF _ rfl _ _ 43 9 rfl B 5 i0 Tryd.underlying43 Tryd.underlying9 hi hz0 hz1 hz2 _ _ _ rfl hown s rfl ?c3 ?c4 ?c5 ?_)
  case c3 => unfold maxLen; omega
  case c4 => omega
  case c5 => have := hb1.size; omega
  intro v' w2 hown' hgrow _
  have hlt : b < w1.heap.size := (Array.getElem?_eq_some_iff.1 hbk).1
  have hb2 : w2.heap[b]? = some (.cells #[.pointer (some ⟨b, 0, none⟩), v] 45 (0, 0)) := by
    rw [hgrow.block b hlt (fun e => hne e.symm)]
    exact hbk
  have d0 : w2.cell? ⟨b, 0, none⟩ = some (.pointer (some ⟨b, 0, none⟩)) := by rw [Lib.cell_of_heap hb2]; rfl
  have d1 : w2.cell? ⟨b, 1, none⟩ = some v := by rw [Lib.cell_of_heap hb2]; rfl
  have f1 : w2.frozen? ⟨b, 1, none⟩ = false := Lib.frozen_of_heap hb2 1
  obtain ⟨ao, n', cap, rfl⟩ : ∃ ao n' cap, v' = .slice ao n' cap := by
    rcases hown'.2 with ⟨hv, _⟩ | ⟨g, cap, cur, fz, hv, _⟩
    · exact ⟨_, _, _, hv⟩
    · exact ⟨_, _, _, hv⟩
  go_wp2
  go_ret2
  refine ⟨rfl, ?_, ?_, (hk1.grown hgrow (Lib.ownsRowF_kind hown)).setCell ⟨b, 1, none⟩ rfl _⟩
  · exact Lib.BuilderAtF.put (T := 45) (e := 5) hB hb2 (bs' := bs ++ Lib.strCells s) (by simpa [Lib.strCells_length] using hown') (by decide)
  · exact (hb1.grown hgrow (by have := hb1.size; omega) (fun k hk => (hown.lt k hk).1)).setCell (p := ⟨b, 1, none⟩) hB _
end Go.Proofs.YtcolgghllacloaaDoor.Q
end

section
namespace Go.Proofs.YtcolgghllacloaaDoor.Q
open Go.Shelf
open Go.RowKit Go.Proofs.YtcolgghllacloaaDoor.Q Go.Proofs.YtcolgghllacloaaDoorW.PrintWords Go.Proofs.YtcolgghllacloaaDoorW.PrintLast Go.Proofs.YtcolgghllacloaaDoorW.PrintMore
set_option linter.unusedVariables false
set_option linter.unusedSimpArgs false
set_option maxRecDepth 100000 in
set_option maxHeartbeats 4000000 in
theorem np_none (lf zb ok : Bool) (vK vV vI : Value) (w : World) (h1 : vK.oneCell' = true) (h2 : vV.oneCell' = true) (h3 : vI.oneCell' = true)
    (hz : ∀ w1, Below w.heap.size w w1 → Calls Tryd.prog 21 #[.agg #[.bool lf, vK, vV, vI]] w1 fun e w' => e = .returned (.bool zb) ∧ Below w1.heap.size w1 w')
    (hok : ∀ w1, Below w.heap.size w w1 → Calls Tryd.prog 22 #[.agg #[.bool lf, vK, vV, vI]] w1 fun e w' => e = .returned (.bool ok) ∧ Below w1.heap.size w1 w') (hno : zb = true ∨ ok = false) :
    Calls Tryd.prog 8 #[.agg #[.bool lf, vK, vV, vI]] w fun e w' => e = .returned (.string ⟨#[]⟩) ∧ Below w.heap.size w w' := by
  have hA : CellsAt (w.alloc (.cells #[.bool lf, vK, vV, vI] 28)) w.heap.size 28 #[.bool lf, vK, vV, vI] := CellsAt.new w _ _
  have hbA : Below w.heap.size w (w.alloc (.cells #[.bool lf, vK, vV, vI] 28)) := (Below.refl _ w).alloc (Nat.le_refl _) _
  cases zb with
  | true =>
    go_enter Tryd.func8, Tryd.ntmps8
    go_wp2_with (go_at_call 21; refine (hz _ hbA).mono ?_; rintro e w1 ⟨rfl, hb1⟩)
    go_ret
    exact ⟨rfl, hbA.trans (hb1.mono hbA.size)⟩
  | false =>
    obtain rfl : ok = false := by simpa using hno
    go_enter Tryd.func8, Tryd.ntmps8
    go_wp2_with (go_at_call 21; refine (hz _ hbA).mono ?_; rintro e w1 ⟨rfl, hb1⟩; have hb1' : Below w.heap.size w w1 := hbA.trans (hb1.mono hbA.size); have hA1 : CellsAt w1 w.heap.size 28 #[.bool lf, vK, vV, vI] := hA.below hb1 hA.lt; have c0 : w1.cell? ⟨w.heap.size, 0, none⟩ = some (.bool lf) := hA1.cell 0; have c1 : w1.cell? ⟨w.heap.size, 1, none⟩ = some vK := hA1.cell 1; have c2 : w1.cell? ⟨w.heap.size, 2, none⟩ = some vV := hA1.cell 2; have c3 : w1.cell? ⟨w.heap.size, 3, none⟩ = some vI := hA1.cell 3)
    go_wp2_with (go_at_call 22; refine (hok _ hb1').mono ?_; rintro e w2 ⟨rfl, hb2⟩)
    go_ret
    exact ⟨rfl, hb1'.trans (hb2.mono hb1'.size)⟩
theorem grownBy_of_below {W W' : World} (h : Below W.heap.size W W') : W.grownBy W' none := ⟨h.os, h.tape, h.output, h.size, fun k hk _ => h.block k hk⟩
theorem builder_below {T e : TypeId} {B b : Nat} {bs : List Value} {W W' : World} (h : Lib.IsBuilderF T e B b bs W) (hb : Below W.heap.size W W') : Lib.IsBuilderF T e B b bs W' := by
  have key : ∀ p, Lib.BuilderAtF T e B b p bs W → Lib.BuilderAtF T e B b p bs W' := fun p h => by
    obtain ⟨hB, v, hbk, hown, hne⟩ := id h
    refine ⟨hB, v, (hb.block b h.lt).trans hbk, hown.kept (grownBy_of_below hb) ?_, hne⟩
    by_cases hv : v.ownBlock = none
    · exact .inl hv
    · exact .inr hv
  exact h.imp (key _) (key _)
theorem bld_new (W : World) {B : Nat} (hB : B ≤ W.heap.size) : Lib.IsBuilderF 45 5 B W.heap.size (Lib.byteCells []) (W.alloc (.cells #[.pointer none, .slice none 0 0] 45)) :=
  .inl ⟨hB, .slice none 0 0, CellsAt.new W _ _, World.ownsRowF_nil _ _ _ _, by simp [Value.ownBlock]⟩
/-- What stands while it is written. -/
structure NpAt (w W : World) (b : Nat) (cs : Array Value) (l : List UInt8) : Prop where
  bld : Lib.IsBuilderF 45 5 w.heap.size b (Lib.byteCells l) W
  node : CellsAt W w.heap.size 28 cs
  below : Below w.heap.size w W
theorem NpAt.keep {w W W' : World} {b : Nat} {cs : Array Value} {l : List UInt8} (h : NpAt w W b cs l) (hb : Below W.heap.size W W') : NpAt w W' b cs l :=
  ⟨builder_below h.bld hb, h.node.below hb h.node.lt, h.below.trans (hb.mono h.below.size)⟩
theorem NpAt.write {w W W' : World} {b : Nat} {cs : Array Value} {l l' : List UInt8} {s : ByteArray} (h : NpAt w W b cs l) (hs : s.data.toList = l')
    (hB : Lib.BuilderAtF 45 5 w.heap.size b (.pointer (some ⟨b, 0, none⟩)) (Lib.byteCells l ++ Lib.strCells s) W') (hb : Below w.heap.size W W') (hk : Lib.OthersKept 5 (some b) W W') (hne : w.heap.size ≠ b) : NpAt w W' b cs (l ++ l') := by
  have hno : ∀ c fz, (Obj.cells cs 28 (0, 0)) ≠ .cells c 5 fz := fun c fz e => by injection e with _ e2 _; exact absurd e2 (by decide)
  refine ⟨.inr ?_, hk _ _ h.node (by simpa using hne) hno, h.below.trans hb⟩
  rw [Lib.byteCells_append, ← hs]
  exact hB
theorem NpAt.drew {w W : World} {b : Nat} {cs : Array Value} {l : List UInt8} (h : NpAt w W b cs l) : NpAt w W.drew b cs l := h.keep ⟨rfl, rfl, rfl, Nat.le_refl _, fun _ _ => rfl⟩
theorem NpAt.old {w W : World} {b : Nat} {cs : Array Value} {l : List UInt8} (h : NpAt w W b cs l) {a : Addr} {v : Value} (hv : w.cell? a = some v) : W.cell? a = some v :=
  (World.cell?_of_block (h.below.block a.block (World.block_lt_of_cell? w a hv))).trans hv
def ent (x y : ByteArray) : List UInt8 := Lib.itoa x.size ++ [44] ++ Lib.itoa y.size ++ [58] ++ x.data.toList ++ y.data.toList
def upL (K V : List ByteArray) (i : Nat) : List UInt8 := [76] ++ (List.range i).flatMap fun j => ent (K.getD j ByteArray.empty) (V.getD j ByteArray.empty)
theorem upL_succ (K V : List ByteArray) (i : Nat) : upL K V (i + 1) = upL K V i ++ ent (K.getD i ByteArray.empty) (V.getD i ByteArray.empty) := by
  unfold upL
  rw [List.range_succ, List.flatMap_append, List.flatMap_singleton, List.append_assoc]
def strE (x y : ByteArray) : ByteArray := (⟨(Lib.itoa (x.size : Int)).toArray⟩ : ByteArray) ++ ⟨#[44]⟩ ++ ⟨(Lib.itoa (y.size : Int)).toArray⟩ ++ ⟨#[58]⟩ ++ x ++ y
theorem strE_list (x y : ByteArray) : (strE x y).data.toList = ent x y := by simp [strE, ent, ByteArray.data_append]
theorem strE_size (x y : ByteArray) : (strE x y).size = (Lib.itoa (x.size : Int)).length + 1 + (Lib.itoa (y.size : Int)).length + 1 + x.size + y.size := by
  unfold strE
  simp only [ByteArray.size_append]
  rfl
theorem ent_len (x y : ByteArray) (hx : x.size ≤ 200) (hy : y.size ≤ 200) : (ent x y).length ≤ 444 := by
  have h1 := Lib.itoa_length_le (x.size : Int) (by omega) (by omega)
  have h2 := Lib.itoa_length_le (y.size : Int) (by omega) (by omega)
  have h3 : x.data.toList.length = x.size := rfl
  have h4 : y.data.toList.length = y.size := rfl
  simp only [ent, List.length_append, List.length_cons, List.length_nil, h3, h4]
  omega
theorem upL_len (K V : List ByteArray) (hlen : V.length = K.length) (hsz : ∀ (i : Nat) x y, K[i]? = some x → V[i]? = some y → x.size ≤ 200 ∧ y.size ≤ 200) : ∀ i, i ≤ K.length → (upL K V i).length ≤ 1 + 444 * i := by
  intro i
  induction i with
  | zero => intro _; simp [upL]
  | succ i ih =>
    intro hi
    have h := ih (by omega)
    obtain ⟨x, hx⟩ : ∃ x, K[i]? = some x := ⟨_, List.getElem?_eq_getElem (by omega)⟩
    obtain ⟨y, hy⟩ : ∃ y, V[i]? = some y := ⟨_, List.getElem?_eq_getElem (by omega)⟩
    have gx : K.getD i ByteArray.empty = x := by rw [List.getD_eq_getElem?_getD, hx]; rfl
    have gy : V.getD i ByteArray.empty = y := by rw [List.getD_eq_getElem?_getD, hy]; rfl
    have h2 := ent_len x y (hsz i x y hx hy).1 (hsz i x y hx hy).2
    rw [upL_succ, List.length_append, gx, gy]
    omega
set_option maxRecDepth 100000 in
set_option maxHeartbeats 4000000 in
theorem np_leaf (AK : Option Addr) (cK : Nat) (K : List ByteArray) (AV : Option Addr) (cV : Nat) (V : List ByteArray) (vI : Value) (w : World) (h3 : vI.oneCell' = true) (hlaid : Laid w)
    (hK : ∀ j p, K[j]? = some p → ∃ a, AK = some a ∧ w.cell? (a.add j) = some (.string p)) (hV : ∀ j p, V[j]? = some p → ∃ a, AV = some a ∧ w.cell? (a.add j) = some (.string p)) (hlen : V.length = K.length) (hn : K.length ≤ 4) (hsz : ∀ (i : Nat) x y, K[i]? = some x → V[i]? = some y → x.size ≤ 200 ∧ y.size ≤ 200)
    (hz : ∀ w1, Below w.heap.size w w1 → Calls Tryd.prog 21 #[.agg #[.bool true, .slice AK K.length cK, .slice AV V.length cV, vI]] w1 fun e w' => e = .returned (.bool false) ∧ Below w1.heap.size w1 w')
    (hok : ∀ w1, Below w.heap.size w w1 → Calls Tryd.prog 22 #[.agg #[.bool true, .slice AK K.length cK, .slice AV V.length cV, vI]] w1 fun e w' => e = .returned (.bool true) ∧ Below w1.heap.size w1 w') :
    Calls Tryd.prog 8 #[.agg #[.bool true, .slice AK K.length cK, .slice AV V.length cV, vI]] w fun e w' => e = .returned (.string ⟨(upL K V K.length).toArray⟩) ∧ Below w.heap.size w w' := by
  have HK := Aside0.mk hK
  have HV := Aside0.mk hV
  have HL := Aside0.mk hlen
  have HN := Aside0.mk hn
  have HZ := Aside0.mk hz
  have HO := Aside0.mk hok
  clear hK hV hlen hn hz hok
  have h1 : (Value.slice AK K.length cK).oneCell' = true := rfl
  have h2 : (Value.slice AV V.length cV).oneCell' = true := rfl
  have hA : CellsAt (w.alloc (.cells #[.bool true, .slice AK K.length cK, .slice AV V.length cV, vI] 28)) w.heap.size 28 #[.bool true, .slice AK K.length cK, .slice AV V.length cV, vI] := CellsAt.new w _ _
  have hbA : Below w.heap.size w (w.alloc (.cells #[.bool true, .slice AK K.length cK, .slice AV V.length cV, vI] 28)) := (Below.refl _ w).alloc (Nat.le_refl _) _
  go_enter Tryd.func8, Tryd.ntmps8
  go_wp2_with (first | (go_at_call 21; refine (HZ.out _ hbA).mono ?_; rintro e w1 ⟨rfl, hb1⟩; have hb1' : Below w.heap.size w w1 := hbA.trans (hb1.mono hbA.size); have hA1 : CellsAt w1 w.heap.size 28 #[.bool true, .slice AK K.length cK, .slice AV V.length cV, vI] := hA.below hb1 hA.lt; have c0 : w1.cell? ⟨w.heap.size, 0, none⟩ = some (.bool true) := hA1.cell 0; have c1 : w1.cell? ⟨w.heap.size, 1, none⟩ = some (.slice AK K.length cK) := hA1.cell 1; have c2 : w1.cell? ⟨w.heap.size, 2, none⟩ = some (.slice AV V.length cV) := hA1.cell 2; have c3 : w1.cell? ⟨w.heap.size, 3, none⟩ = some vI := hA1.cell 3) | (go_at_call 22; refine (HO.out _ hb1').mono ?_; rintro e w2 ⟨rfl, hb2⟩; have hb2' : Below w.heap.size w w2 := hb1'.trans (hb2.mono hb1'.size); have hA2 : CellsAt (w2.alloc (.cells #[.pointer none, .slice none 0 0] 45)) w.heap.size 28 #[.bool true, .slice AK K.length cK, .slice AV V.length cV, vI] := (hA1.below hb2 hA1.lt).alloc _; have d0 : (w2.alloc (.cells #[.pointer none, .slice none 0 0] 45)).cell? ⟨w.heap.size, 0, none⟩ = some (.bool true) := hA2.cell 0; have hb3 : Below w.heap.size w (w2.alloc (.cells #[.pointer none, .slice none 0 0] 45)) := hb2'.alloc hb2'.size _; have hlt : w.heap.size < w2.heap.size := Nat.lt_of_lt_of_le hA1.lt hb2.size; have sB := bld_new w2 (Nat.le_of_lt hlt)) | (go_at_call 23; refine (bld_WriteString w.heap.size w2.heap.size _ _ _ sB (by decide) (by have := hb3.size; omega)).mono ?_; rintro e w4 ⟨rfl, hB4, hb4, hk4⟩; have N4 := NpAt.write (l' := [76]) ⟨sB, hA2, hb3⟩ rfl hB4 hb4 hk4 (Nat.ne_of_lt hlt); have e1 : w4.cell? ⟨w.heap.size, 1, none⟩ = some (.slice AK K.length cK) := N4.node.cell 1))
  go_loopw [21] (fun v W => ∃ i : Nat, v = .int .i64 i ∧ Aside0 (i ≤ K.length) ∧ NpAt w W w2.heap.size #[.bool true, .slice AK K.length cK, .slice AV V.length cV, vI] (upL K V i)) (fun v _ => K.length - (intOf v).toNat)
  case atStart => exact ⟨0, rfl, ⟨Nat.zero_le _⟩, by simpa [upL] using N4⟩
  case round =>
    obtain ⟨i, rfl, hi, NC⟩ := hrel
    rcases Nat.lt_or_ge i K.length with hlt2 | hge
    · obtain ⟨x, hx⟩ : ∃ x, K[i]? = some x := ⟨_, List.getElem?_eq_getElem hlt2⟩
      obtain ⟨y, hy⟩ : ∃ y, V[i]? = some y := ⟨_, List.getElem?_eq_getElem (by have := HL.out; omega)⟩
      obtain ⟨ka, hka, hkc⟩ := HK.out i x hx
      obtain ⟨va, hva, hvc⟩ := HV.out i y hy
      subst hka
      subst hva
      have kb : w.heap.size < w2.heap.size := hlt
      have kc : wr.cell? (ka.add i) = some (.string x) := NC.old hkc
      have gx : K.getD i ByteArray.empty = x := by rw [List.getD_eq_getElem?_getD, hx]; rfl
      have gy : V.getD i ByteArray.empty = y := by rw [List.getD_eq_getElem?_getD, hy]; rfl
      have bi : (i : Int) < (K.length : Int) := by omega
      have bv : (i : Int) < (V.length : Int) := by have := HL.out; omega
      have b0 : (0 : Int) ≤ (i : Int) := by omega
      have hd : decide ((i : Int) < (K.length : Int)) = true := decide_eq_true bi
      have SZ := Aside0.mk (hsz i x y hx hy)
      go_wp2
      have lx := Lib.itoa_length_le (x.size : Int) (by omega) (by have := SZ.out; omega)
      have ly := Lib.itoa_length_le (y.size : Int) (by omega) (by have := SZ.out; omega)
      have o1 : (9223372036854775807 < (Lib.itoa (x.size : Int)).length + 1) = False := eq_false (by omega)
      have o2 : (9223372036854775807 < (Lib.itoa (x.size : Int)).length + 1 + (Lib.itoa (y.size : Int)).length) = False := eq_false (by omega)
      have o3 : (9223372036854775807 < (Lib.itoa (x.size : Int)).length + 1 + (Lib.itoa (y.size : Int)).length + 1) = False := eq_false (by omega)
      have o4 : (9223372036854775807 < (Lib.itoa (x.size : Int)).length + 1 + (Lib.itoa (y.size : Int)).length + 1 + x.size) = False := eq_false (by have := SZ.out; omega)
      have o5 : (9223372036854775807 < (Lib.itoa (x.size : Int)).length + 1 + (Lib.itoa (y.size : Int)).length + 1 + x.size + y.size) = False := eq_false (by have := SZ.out; omega)
      have LN := Aside0.mk (show (Lib.byteCells (upL K V i)).length + (strE x y).size ≤ 140737488355328 by
        rw [Lib.byteCells_length, strE_size]
        have h5 := upL_len K V (by have := HL.out; omega) hsz i hi.out
        have := SZ.out
        have := HN.out
        have : i ≤ 4 := by omega
        omega)
      clear lx ly
      have NCd := NC.drew
      clear NC
      go_region_held3 (fun w' => w'.cell? ⟨w.heap.size, 2, none⟩ = some (.slice (some va) V.length cV) ∧ w'.cell? (va.add i) = some (.string y)) (first | exact ⟨NCd.node.cell 2, NCd.old hvc⟩)
        (first | (go_at_call 24; refine (Tryd.strconv_Itoa (x.size : Int) (by omega) (by have := SZ.out; omega) _ (laid_below hlaid NCd.below)).mono ?_; rintro e w6 ⟨rfl, k6, os6, hw6⟩; have NC6 : NpAt w w6 w2.heap.size _ _ := NCd.keep (by rw [hw6]; exact Go.Lib.below_grow _ _ (Nat.le_refl _) _ _); clear NCd hw6; have NCd := NC6; clear NC6) | (go_at_call 24; refine (Tryd.strconv_Itoa (y.size : Int) (by omega) (by have := SZ.out; omega) _ (laid_below hlaid NCd.below)).mono ?_; rintro e w6 ⟨rfl, k6, os6, hw6⟩; have NC6 : NpAt w w6 w2.heap.size _ _ := NCd.keep (by rw [hw6]; exact Go.Lib.below_grow _ _ (Nat.le_refl _) _ _); clear NCd hw6; have NCd := NC6; clear NC6) | (go_at_call 23; refine (bld_WriteString w.heap.size w2.heap.size _ _ _ NCd.bld LN.out (by have := NCd.below.size; omega)).mono ?_; rintro e w7 ⟨rfl, hB7, hb7, hk7⟩; have NC7 : NpAt w w7 w2.heap.size _ (upL K V i ++ ent x y) := NpAt.write NCd (strE_list x y) hB7 hb7 hk7 (Nat.ne_of_lt kb); clear NCd; have NCd := NC7; clear NC7))
      go_wp2
      have ew : wrap64 ((i : Int) + 1) = ((i + 1 : Nat) : Int) := by have := HN.out; unfold wrap64; omega
      rw [ew]
      refine ⟨⟨i + 1, rfl, ⟨hlt2⟩, ?_⟩, ?_⟩
      · rw [upL_succ, gx, gy]
        exact NCd
      · simp only [intOf, Int.toNat_natCast]
        omega
    · have hd : decide ((i : Int) < (K.length : Int)) = false := decide_eq_false (by omega)
      obtain rfl : i = K.length := by have := hi.out; omega
      go_wp2_with (go_at_call 25; refine (Tryd.Builder_String_any_f w.heap.size w2.heap.size _ _ NC.bld (by have := NC.below.size; omega)).mono ?_; rintro e w5 ⟨rfl, hb5⟩)
      go_ret
      exact ⟨rfl, NC.below.trans hb5.2⟩
def entN (x : ByteArray) (y : Int) : List UInt8 := Lib.itoa x.size ++ [44] ++ Lib.itoa y ++ [58] ++ x.data.toList
def headN (z : Int) : List UInt8 := [78] ++ Lib.itoa z ++ [58]
def upN (K : List ByteArray) (I : List Int) (i : Nat) : List UInt8 := headN (I.getD 0 0) ++ (List.range i).flatMap fun j => entN (K.getD j ByteArray.empty) (I.getD (j + 1) 0)
theorem upN_succ (K : List ByteArray) (I : List Int) (i : Nat) : upN K I (i + 1) = upN K I i ++ entN (K.getD i ByteArray.empty) (I.getD (i + 1) 0) := by
  unfold upN
  rw [List.range_succ, List.flatMap_append, List.flatMap_singleton, List.append_assoc]
theorem upN_zero {K : List ByteArray} {I : List Int} {z : Int} (h : I[0]? = some z) : upN K I 0 = headN z := by
  unfold upN
  rw [List.getD_eq_getElem?_getD, h]
  simp
def strZ (z : Int) : ByteArray := (⟨#[78]⟩ : ByteArray) ++ ⟨(Lib.itoa z).toArray⟩ ++ ⟨#[58]⟩
theorem strZ_list (z : Int) : (strZ z).data.toList = headN z := by simp [strZ, headN, ByteArray.data_append]
theorem strZ_ok {z : Int} (h : (Lib.itoa z).length ≤ 21) : (Lib.byteCells []).length + (strZ z).size ≤ 140737488355328 := by
  have e : (strZ z).size = 1 + (Lib.itoa z).length + 1 := by unfold strZ; simp only [ByteArray.size_append]; rfl
  rw [e]
  show 0 + _ ≤ _
  omega
def strN (x : ByteArray) (y : Int) : ByteArray := (⟨(Lib.itoa (x.size : Int)).toArray⟩ : ByteArray) ++ ⟨#[44]⟩ ++ ⟨(Lib.itoa y).toArray⟩ ++ ⟨#[58]⟩ ++ x
theorem strN_list (x : ByteArray) (y : Int) : (strN x y).data.toList = entN x y := by simp [strN, entN, ByteArray.data_append]
theorem strN_size (x : ByteArray) (y : Int) : (strN x y).size = (Lib.itoa (x.size : Int)).length + 1 + (Lib.itoa y).length + 1 + x.size := by
  unfold strN
  simp only [ByteArray.size_append]
  rfl
theorem entN_len (x : ByteArray) (y : Int) (hx : x.size ≤ 200) (hy : 0 ≤ y ∧ y ≤ 100) : (entN x y).length ≤ 444 := by
  have h1 := Lib.itoa_length_le (x.size : Int) (by omega) (by omega)
  have h2 := Lib.itoa_length_le y (by omega) (by omega)
  have h3 : x.data.toList.length = x.size := rfl
  simp only [entN, List.length_append, List.length_cons, List.length_nil, h3]
  omega
theorem upN_len (K : List ByteArray) (I : List Int) (hlen : I.length = K.length + 1) (hsz : ∀ (i : Nat) x, K[i]? = some x → x.size ≤ 200) (hiz : ∀ (i : Nat) y, I[i]? = some y → 0 ≤ y ∧ y ≤ 100) : ∀ i, i ≤ K.length → (upN K I i).length ≤ 23 + 444 * i := by
  intro i
  induction i with
  | zero =>
    intro _
    obtain ⟨z, hz⟩ : ∃ z, I[0]? = some z := ⟨_, List.getElem?_eq_getElem (by omega)⟩
    have h2 := Lib.itoa_length_le z (by have := hiz 0 z hz; omega) (by have := hiz 0 z hz; omega)
    rw [upN_zero hz]
    simp only [headN, List.length_append, List.length_cons, List.length_nil]
    omega
  | succ i ih =>
    intro hi
    have h := ih (by omega)
    obtain ⟨x, hx⟩ : ∃ x, K[i]? = some x := ⟨_, List.getElem?_eq_getElem (by omega)⟩
    obtain ⟨y, hy⟩ : ∃ y, I[i + 1]? = some y := ⟨_, List.getElem?_eq_getElem (by omega)⟩
    have gx : K.getD i ByteArray.empty = x := by rw [List.getD_eq_getElem?_getD, hx]; rfl
    have gy : I.getD (i + 1) 0 = y := by rw [List.getD_eq_getElem?_getD, hy]; rfl
    have h2 := entN_len x y (hsz i x hx) (hiz (i + 1) y hy)
    rw [upN_succ, List.length_append, gx, gy]
    omega
set_option maxRecDepth 100000 in
set_option maxHeartbeats 4000000 in
theorem np_inner (AK : Option Addr) (cK : Nat) (K : List ByteArray) (AI : Option Addr) (cI : Nat) (I : List Int) (vV : Value) (w : World) (h3 : vV.oneCell' = true) (hlaid : Laid w)
    (hK : ∀ j p, K[j]? = some p → ∃ a, AK = some a ∧ w.cell? (a.add j) = some (.string p)) (hI : ∀ j p, I[j]? = some p → ∃ a, AI = some a ∧ w.cell? (a.add j) = some (.int .i64 p)) (hlen : I.length = K.length + 1) (hn : K.length ≤ 4) (hsz : ∀ (i : Nat) x, K[i]? = some x → x.size ≤ 200) (hiz : ∀ (i : Nat) y, I[i]? = some y → 0 ≤ y ∧ y ≤ 100)
    (hz : ∀ w1, Below w.heap.size w w1 → Calls Tryd.prog 21 #[.agg #[.bool false, .slice AK K.length cK, vV, .slice AI I.length cI]] w1 fun e w' => e = .returned (.bool false) ∧ Below w1.heap.size w1 w')
    (hok : ∀ w1, Below w.heap.size w w1 → Calls Tryd.prog 22 #[.agg #[.bool false, .slice AK K.length cK, vV, .slice AI I.length cI]] w1 fun e w' => e = .returned (.bool true) ∧ Below w1.heap.size w1 w') :
    Calls Tryd.prog 8 #[.agg #[.bool false, .slice AK K.length cK, vV, .slice AI I.length cI]] w fun e w' => e = .returned (.string ⟨(upN K I K.length).toArray⟩) ∧ Below w.heap.size w w' := by
  have HK := Aside0.mk hK
  have HV := Aside0.mk hI
  have HL := Aside0.mk hlen
  have HN := Aside0.mk hn
  have HZ := Aside0.mk hz
  have HO := Aside0.mk hok
  clear hK hI hlen hn hz hok
  have h1 : (Value.slice AK K.length cK).oneCell' = true := rfl
  have h2 : (Value.slice AI I.length cI).oneCell' = true := rfl
  obtain ⟨z, hz0⟩ : ∃ z, I[0]? = some z := ⟨_, List.getElem?_eq_getElem (by have := HL.out; omega)⟩
  obtain ⟨ia, hia, hic⟩ := HV.out 0 z hz0
  subst hia
  have hic0 : w.cell? ia = some (.int .i64 z) := by have h0 : ia.add 0 = ia := by simp [Addr.add]
                                                    rw [← h0]; exact hic
  have Hzz := Aside0.mk (hiz 0 z hz0)
  have lz := Lib.itoa_length_le z (by have := Hzz.out; omega) (by have := Hzz.out; omega)
  have bI : (0 : Int) < (I.length : Int) := by have := HL.out; omega
  have p1 : (9223372036854775807 < 1 + (Lib.itoa z).length) = False := eq_false (by omega)
  have p2 : (9223372036854775807 < 1 + (Lib.itoa z).length + 1) = False := eq_false (by omega)
  have LZ := Aside0.mk lz
  clear lz
  have hA : CellsAt (w.alloc (.cells #[.bool false, .slice AK K.length cK, vV, .slice (some ia) I.length cI] 28)) w.heap.size 28 #[.bool false, .slice AK K.length cK, vV, .slice (some ia) I.length cI] := CellsAt.new w _ _
  have hbA : Below w.heap.size w (w.alloc (.cells #[.bool false, .slice AK K.length cK, vV, .slice (some ia) I.length cI] 28)) := (Below.refl _ w).alloc (Nat.le_refl _) _
  go_enter Tryd.func8, Tryd.ntmps8
  go_wp2_with (first | (go_at_call 21; refine (HZ.out _ hbA).mono ?_; rintro e w1 ⟨rfl, hb1⟩; have hb1' : Below w.heap.size w w1 := hbA.trans (hb1.mono hbA.size); have hA1 : CellsAt w1 w.heap.size 28 #[.bool false, .slice AK K.length cK, vV, .slice (some ia) I.length cI] := hA.below hb1 hA.lt; have c0 : w1.cell? ⟨w.heap.size, 0, none⟩ = some (.bool false) := hA1.cell 0; have c1 : w1.cell? ⟨w.heap.size, 1, none⟩ = some (.slice AK K.length cK) := hA1.cell 1; have c2 : w1.cell? ⟨w.heap.size, 2, none⟩ = some vV := hA1.cell 2; have c3 : w1.cell? ⟨w.heap.size, 3, none⟩ = some (.slice (some ia) I.length cI) := hA1.cell 3) | (go_at_call 22; refine (HO.out _ hb1').mono ?_; rintro e w2 ⟨rfl, hb2⟩; have hb2' : Below w.heap.size w w2 := hb1'.trans (hb2.mono hb1'.size); have hA2 : CellsAt (w2.alloc (.cells #[.pointer none, .slice none 0 0] 45)) w.heap.size 28 #[.bool false, .slice AK K.length cK, vV, .slice (some ia) I.length cI] := (hA1.below hb2 hA1.lt).alloc _; have d0 : (w2.alloc (.cells #[.pointer none, .slice none 0 0] 45)).cell? ⟨w.heap.size, 0, none⟩ = some (.bool false) := hA2.cell 0; have d3 : (w2.alloc (.cells #[.pointer none, .slice none 0 0] 45)).cell? ⟨w.heap.size, 3, none⟩ = some (.slice (some ia) I.length cI) := hA2.cell 3; have hb3 : Below w.heap.size w (w2.alloc (.cells #[.pointer none, .slice none 0 0] 45)) := hb2'.alloc hb2'.size _; have hlt : w.heap.size < w2.heap.size := Nat.lt_of_lt_of_le hA1.lt hb2.size; have sB := bld_new w2 (Nat.le_of_lt hlt); have N2 : NpAt w (w2.alloc (.cells #[.pointer none, .slice none 0 0] 45)) w2.heap.size #[.bool false, .slice AK K.length cK, vV, .slice (some ia) I.length cI] [] := ⟨sB, hA2, hb3⟩; have d4 : (w2.alloc (.cells #[.pointer none, .slice none 0 0] 45)).cell? ia = some (.int .i64 z) := N2.old hic0) | (go_at_call 24; refine (Tryd.strconv_Itoa z (by have := Hzz.out; omega) (by have := Hzz.out; omega) _ (laid_below hlaid hb3)).mono ?_; rintro e w3 ⟨rfl, k3, os3, hw3⟩; have N3 : NpAt w w3 w2.heap.size _ _ := N2.keep (by rw [hw3]; exact Go.Lib.below_grow _ _ (Nat.le_refl _) _ _); clear hw3) | (go_at_call 23; refine (bld_WriteString w.heap.size w2.heap.size _ _ _ N3.bld (strZ_ok LZ.out) (by have := N3.below.size; omega)).mono ?_; rintro e w4 ⟨rfl, hB4, hb4, hk4⟩; have N4 : NpAt w w4 w2.heap.size _ ([] ++ headN z) := NpAt.write N3 (strZ_list z) hB4 hb4 hk4 (Nat.ne_of_lt hlt); have e1 : w4.cell? ⟨w.heap.size, 1, none⟩ = some (.slice AK K.length cK) := N4.node.cell 1))
  go_loopw [61] (fun v W => ∃ i : Nat, v = .int .i64 i ∧ Aside0 (i ≤ K.length) ∧ NpAt w W w2.heap.size #[.bool false, .slice AK K.length cK, vV, .slice (some ia) I.length cI] (upN K I i)) (fun v _ => K.length - (intOf v).toNat)
  case atStart => exact ⟨0, rfl, ⟨Nat.zero_le _⟩, by simpa [upN_zero hz0] using N4⟩
  case round =>
    obtain ⟨i, rfl, hi, NC⟩ := hrel
    rcases Nat.lt_or_ge i K.length with hlt2 | hge
    · obtain ⟨x, hx⟩ : ∃ x, K[i]? = some x := ⟨_, List.getElem?_eq_getElem hlt2⟩
      obtain ⟨y, hy⟩ : ∃ y, I[i + 1]? = some y := ⟨_, List.getElem?_eq_getElem (by have := HL.out; omega)⟩
      obtain ⟨ka, hka, hkc⟩ := HK.out i x hx
      obtain ⟨va, hva, hvc⟩ := HV.out (i + 1) y hy
      subst hka
      obtain rfl := Option.some.inj hva
      have kb : w.heap.size < w2.heap.size := hlt
      have kc : wr.cell? (ka.add i) = some (.string x) := NC.old hkc
      have gx : K.getD i ByteArray.empty = x := by rw [List.getD_eq_getElem?_getD, hx]; rfl
      have gy : I.getD (i + 1) 0 = y := by rw [List.getD_eq_getElem?_getD, hy]; rfl
      have bi : (i : Int) < (K.length : Int) := by omega
      have ew : wrap64 ((i : Int) + 1) = (i : Int) + 1 := by have := HN.out; unfold wrap64; omega
      have ew2 : IntKind.i64.wrap ((i : Int) + 1) = (i : Int) + 1 := by
        have h4 := HN.out
        unfold IntKind.wrap
        simp [IntKind.bits, IntKind.signed]
        omega
      have ea : ia.add (i + 1) = ⟨ia.block, ia.off + (i + 1), none⟩ := by simp [Addr.add]
      have hvd : w.cell? ⟨ia.block, ia.off + (i + 1), none⟩ = some (.int .i64 y) := by rw [← ea]; exact hvc
      have bv : (i : Int) + 1 < (I.length : Int) := by have := HL.out; omega
      have b1 : (0 : Int) ≤ (i : Int) + 1 := by omega
      have et : ((i : Int) + 1).toNat = i + 1 := by omega
      have b0 : (0 : Int) ≤ (i : Int) := by omega
      have hd : decide ((i : Int) < (K.length : Int)) = true := decide_eq_true bi
      have SZ := Aside0.mk (hsz i x hx)
      have SY := Aside0.mk (hiz (i + 1) y hy)
      go_wp2
      have lx := Lib.itoa_length_le (x.size : Int) (by omega) (by have := SZ.out; omega)
      have ly := Lib.itoa_length_le y (by have := SY.out; omega) (by have := SY.out; omega)
      have o1 : (9223372036854775807 < (Lib.itoa (x.size : Int)).length + 1) = False := eq_false (by omega)
      have o2 : (9223372036854775807 < (Lib.itoa (x.size : Int)).length + 1 + (Lib.itoa y).length) = False := eq_false (by omega)
      have o3 : (9223372036854775807 < (Lib.itoa (x.size : Int)).length + 1 + (Lib.itoa y).length + 1) = False := eq_false (by omega)
      have o4 : (9223372036854775807 < (Lib.itoa (x.size : Int)).length + 1 + (Lib.itoa y).length + 1 + x.size) = False := eq_false (by have := SZ.out; omega)
      have LN := Aside0.mk (show (Lib.byteCells (upN K I i)).length + (strN x y).size ≤ 140737488355328 by
        rw [Lib.byteCells_length, strN_size]
        have h5 := upN_len K I HL.out hsz hiz i hi.out
        have := SZ.out
        have := HN.out
        have : i ≤ 4 := by omega
        omega)
      clear lx ly
      have NCd := NC.drew
      clear NC
      go_region_held3 (fun w' => w'.cell? ⟨w.heap.size, 3, none⟩ = some (.slice (some ia) I.length cI) ∧ w'.cell? ⟨ia.block, ia.off + (i + 1), none⟩ = some (.int .i64 y)) (first | exact ⟨NCd.node.cell 3, NCd.old hvd⟩)
        (first | (go_at_call 24; refine (Tryd.strconv_Itoa (x.size : Int) (by omega) (by have := SZ.out; omega) _ (laid_below hlaid NCd.below)).mono ?_; rintro e w6 ⟨rfl, k6, os6, hw6⟩; have NC6 : NpAt w w6 w2.heap.size _ _ := NCd.keep (by rw [hw6]; exact Go.Lib.below_grow _ _ (Nat.le_refl _) _ _); clear NCd hw6; have NCd := NC6; clear NC6) | (go_at_call 24; refine (Tryd.strconv_Itoa y (by have := SY.out; omega) (by have := SY.out; omega) _ (laid_below hlaid NCd.below)).mono ?_; rintro e w6 ⟨rfl, k6, os6, hw6⟩; have NC6 : NpAt w w6 w2.heap.size _ _ := NCd.keep (by rw [hw6]; exact Go.Lib.below_grow _ _ (Nat.le_refl _) _ _); clear NCd hw6; have NCd := NC6; clear NC6) | (go_at_call 23; refine (bld_WriteString w.heap.size w2.heap.size _ _ _ NCd.bld LN.out (by have := NCd.below.size; omega)).mono ?_; rintro e w7 ⟨rfl, hB7, hb7, hk7⟩; have NC7 : NpAt w w7 w2.heap.size _ (upN K I i ++ entN x y) := NpAt.write NCd (strN_list x y) hB7 hb7 hk7 (Nat.ne_of_lt kb); clear NCd; have NCd := NC7; clear NC7))
      go_wp2
      first | rw [ew] | skip
      refine ⟨⟨i + 1, rfl, ⟨hlt2⟩, ?_⟩, ?_⟩
      · rw [upN_succ, gx, gy]
        exact NCd
      · simp only [intOf, Int.toNat_natCast]
        omega
    · have hd : decide ((i : Int) < (K.length : Int)) = false := decide_eq_false (by omega)
      obtain rfl : i = K.length := by have := hi.out; omega
      go_wp2_with (go_at_call 25; refine (Tryd.Builder_String_any_f w.heap.size w2.heap.size _ _ NC.bld (by have := NC.below.size; omega)).mono ?_; rintro e w5 ⟨rfl, hb5⟩)
      go_ret
      exact ⟨rfl, NC.below.trans hb5.2⟩
end Go.Proofs.YtcolgghllacloaaDoor.Q
end

section
/-! Rf: the seat's tables. -/
set_option autoImplicit false
namespace Go.Proofs.YtcolgghllacloaaDoor.R0
open Go.Rf
noncomputable def tabs : Tabs where
  ty := [(3, ⟨false, [.int .i64], [], 8⟩),
    (4, ⟨false, [.bool], [], 1⟩),
    (9, ⟨false, [.str], [], 16⟩),
    (22, ⟨false, [.sl .str], [], 24⟩),
    (23, ⟨false, [.sl (.int .i64)], [], 24⟩),
    (28, ⟨true, [.bool, .sl .str, .sl .str, .sl (.int .i64)], [(0, 1, false), (1, 1, false), (2, 1, false), (3, 1, false)], 80⟩)]
  el := [(22, 9), (23, 3)]
  ifcs := []
  known := [21, 22, 33, 43, 44, 45, 46, 60, 61]
  spec := [(21, ⟨[.agg [.v .bool, .v (.sl .str), .v (.sl .str), .v (.sl (.int .i64))]], [.c (.v .bool)]⟩),
    (22, ⟨[.agg [.v .bool, .v (.sl .str), .v (.sl .str), .v (.sl (.int .i64))]], [.c (.v .bool)]⟩),
    (33, ⟨[.c (.v (.int .i64)), .c (.v (.int .i64)), .c (.v (.int .i64))], [.c (.v .bool)]⟩),
    (44, ⟨[.c (.v .str)], [.c (.v .bool)]⟩),
    (46, ⟨[.c (.v (.int .i64))], [.c (.v .bool)]⟩),
    (45043, ⟨[.c (.v (.sl .str)), .clo 44 []], [.c (.v .bool)]⟩),
    (45060, ⟨[.c (.v (.sl .str)), .clo 44 []], [.c (.v (.int .i64))]⟩),
    (47045, ⟨[.c (.v (.sl (.int .i64))), .clo 46 []], [.c (.v .bool)]⟩),
    (47061, ⟨[.c (.v (.sl (.int .i64))), .clo 46 []], [.c (.v (.int .i64))]⟩)]
  cut := [(22, [(4, [(1, .box [.v .bool, .v (.sl .str), .v (.sl .str), .v (.sl (.int .i64))]), (10, .c (.v (.sl .str))), (11, .c (.v (.int .i64))), (12, .c (.v (.int .i64)))])]),
    (45060, [(2, [(0, .c (.v (.sl .str))), (1, .clo 44 []), (7, .c (.v (.int .i64))), (8, .c (.v (.int .i64)))])]),
    (47061, [(2, [(0, .c (.v (.sl (.int .i64)))), (1, .clo 46 []), (7, .c (.v (.int .i64))), (8, .c (.v (.int .i64)))])])]
  eqs := []
theorem tabs_ok : tabs.ok Tryd.prog = true := by kernel_rfl
noncomputable def cx : Go.Rf.Cx := tabs.cx Tryd.prog (fun _ => none) (fun _ => none) (fun _ => none)
theorem good : Go.Rf.Good cx := Go.Rf.Tabs.good tabs_ok
theorem told (k f : Nat) (inp : (cx.spec f).In) (out : (cx.spec f).Out) (h : callF cx k f inp = some out) : Go.Rf.Contract cx f inp out := (Go.Rf.run_ok good (fun f g inp out h => by cases h) k).1 f inp out h
end Go.Proofs.YtcolgghllacloaaDoor.R0
end

section
/-! Rf: the functions, and what each answers. -/
set_option autoImplicit false
set_option linter.unusedVariables false
namespace Go.Proofs.YtcolgghllacloaaDoor.R0
open Go.Rf
/-! (loop.example/jetton/impl.Node).zero -/
noncomputable def F21 (k : Nat) (a0_0 : Bool) (a0_1 : List ByteArray) (a0_2 : List ByteArray) (a0_3 : List Int) : Option ((Bool × Unit) × ((Unit × Unit × Unit × Unit × Unit) × Unit)) := callF cx k 21 ((a0_0, a0_1, a0_2, a0_3, ()), ())
/-! (loop.example/jetton/impl.Node).ok -/
noncomputable def F22 (k : Nat) (a0_0 : Bool) (a0_1 : List ByteArray) (a0_2 : List ByteArray) (a0_3 : List Int) : Option ((Bool × Unit) × ((Unit × Unit × Unit × Unit × Unit) × Unit)) := callF cx k 22 ((a0_0, a0_1, a0_2, a0_3, ()), ())
noncomputable def F22c4 (k : Nat) (x1_0 : Bool) (x1_1 : List ByteArray) (x1_2 : List ByteArray) (x1_3 : List Int) (x10 : List ByteArray) (x11 : Int) (x12 : Int) : Option ((Bool × Unit) × ((Unit × Unit × Unit × Unit × Unit) × Unit)) := cutF cx 22 4 Tryd.f22 k ((x1_0, x1_1, x1_2, x1_3, ()), x10, x11, x12, ())
/-! loop.example/jetton/impl.in -/
noncomputable def F33 (k : Nat) (a0 : Int) (a1 : Int) (a2 : Int) : Option ((Bool × Unit) × (Unit × Unit × Unit × Unit)) := callF cx k 33 (a0, a1, a2, ())
/-! (loop.example/jetton/impl.Node).ok$1 -/
noncomputable def F44 (k : Nat) (a0 : ByteArray) : Option ((Bool × Unit) × (Unit × Unit)) := callF cx k 44 (a0, ())
/-! (loop.example/jetton/impl.Node).ok$2 -/
noncomputable def F46 (k : Nat) (a0 : Int) : Option ((Bool × Unit) × (Unit × Unit)) := callF cx k 46 (a0, ())
/-! slices.ContainsFunc[[]string,string] -/
noncomputable def F45043 (k : Nat) (a0 : List ByteArray) : Option ((Bool × Unit) × (Unit × Unit × Unit)) := callF cx k 45043 (a0, (()), ())
/-! slices.IndexFunc[[]string,string] -/
noncomputable def F45060 (k : Nat) (a0 : List ByteArray) : Option ((Int × Unit) × (Unit × Unit × Unit)) := callF cx k 45060 (a0, (()), ())
noncomputable def F45060c2 (k : Nat) (x0 : List ByteArray) (x7 : Int) (x8 : Int) : Option ((Int × Unit) × (Unit × Unit × Unit)) := cutF cx 45060 2 Tryd.f60 k (x0, (()), x7, x8, ())
/-! slices.ContainsFunc[[]int,int] -/
noncomputable def F47045 (k : Nat) (a0 : List Int) : Option ((Bool × Unit) × (Unit × Unit × Unit)) := callF cx k 47045 (a0, (()), ())
/-! slices.IndexFunc[[]int,int] -/
noncomputable def F47061 (k : Nat) (a0 : List Int) : Option ((Int × Unit) × (Unit × Unit × Unit)) := callF cx k 47061 (a0, (()), ())
noncomputable def F47061c2 (k : Nat) (x0 : List Int) (x7 : Int) (x8 : Int) : Option ((Int × Unit) × (Unit × Unit × Unit)) := cutF cx 47061 2 Tryd.f61 k (x0, (()), x7, x8, ())
theorem F21_eq (k : Nat) (a0_0 : Bool) (a0_1 : List ByteArray) (a0_2 : List ByteArray) (a0_3 : List Int) : F21 (k + 2) a0_0 a0_1 a0_2 a0_3 =
    if (!a0_0) = true then if ((a0_1.length : Int) == (0 : Int)) = true then if ((a0_2.length : Int) == (0 : Int)) = true then some ((((a0_3.length : Int) == (0 : Int)), ()), (((), (), (), (), ()), ())) else some ((false, ()), (((), (), (), (), ()), ())) else some ((false, ()), (((), (), (), (), ()), ())) else some ((false, ()), (((), (), (), (), ()), ())) := by kernel_rfl
theorem F22_eq (k : Nat) (a0_0 : Bool) (a0_1 : List ByteArray) (a0_2 : List ByteArray) (a0_3 : List Int) : F22 (k + 2) a0_0 a0_1 a0_2 a0_3 =
    if (decide ((a0_1.length : Int) > (4 : Int))) = true then some ((false, ()), (((), (), (), (), ()), ())) else F22c4 k a0_0 a0_1 a0_2 a0_3 a0_1 (a0_1.length : Int) (0 : Int) := by kernel_rfl
theorem F22c4_eq (k : Nat) (x1_0 : Bool) (x1_1 : List ByteArray) (x1_2 : List ByteArray) (x1_3 : List Int) (x10 : List ByteArray) (x11 : Int) (x12 : Int) : F22c4 (k + 1) x1_0 x1_1 x1_2 x1_3 x10 x11 x12 =
    if (decide (x12 < x11)) = true then if (decide (0 ≤ x12)) = true then (x10[x12.toNat]?).bind fun y1 => (F33 k (y1.size : Int) (1 : Int) (96 : Int)).bind fun r2 => if (!r2.1.1) = true then some ((false, ()), (((), (), (), (), ()), ())) else if (decide (x12 > (0 : Int))) = true then if (decide (0 ≤ (IntKind.i64.wrap (x12 - (1 : Int))))) = true then (x1_1[(IntKind.i64.wrap (x12 - (1 : Int))).toNat]?).bind fun y3 => if (!(Op.bytesLess y3.toList y1.toList)) = true then some ((false, ()), (((), (), (), (), ()), ())) else F22c4 k x1_0 x1_1 x1_2 x1_3 x10 x11 (IntKind.i64.wrap (x12 + (1 : Int))) else none else F22c4 k x1_0 x1_1 x1_2 x1_3 x10 x11 (IntKind.i64.wrap (x12 + (1 : Int))) else none else if x1_0 = true then if ((x1_3.length : Int) == (0 : Int)) = true then if ((x1_2.length : Int) == (x1_1.length : Int)) = true then (F45043 k x1_2).bind fun r4 => some (((!r4.1.1), ()), (((), (), (), (), ()), ())) else some ((false, ()), (((), (), (), (), ()), ())) else some ((false, ()), (((), (), (), (), ()), ())) else if ((x1_2.length : Int) == (0 : Int)) = true then if (decide ((x1_1.length : Int) > (0 : Int))) = true then if ((x1_3.length : Int) == (IntKind.i64.wrap ((x1_1.length : Int) + (1 : Int)))) = true then (F47045 k x1_3).bind fun r5 => some (((!r5.1.1), ()), (((), (), (), (), ()), ())) else some ((false, ()), (((), (), (), (), ()), ())) else some ((false, ()), (((), (), (), (), ()), ())) else some ((false, ()), (((), (), (), (), ()), ())) := by kernel_rfl
theorem F33_eq (k : Nat) (a0 : Int) (a1 : Int) (a2 : Int) : F33 (k + 2) a0 a1 a2 =
    if (decide (a0 ≥ a1)) = true then some ((decide (a0 ≤ a2), ()), ((), (), (), ())) else some ((false, ()), ((), (), (), ())) := by kernel_rfl
theorem F44_eq (k : Nat) (a0 : ByteArray) : F44 (k + 2) a0 =
    some ((decide ((a0.size : Int) > (140 : Int)), ()), ((), ())) := by kernel_rfl
theorem F46_eq (k : Nat) (a0 : Int) : F46 (k + 2) a0 =
    (F33 k a0 (0 : Int) (18 : Int)).bind fun r1 => some (((!r1.1.1), ()), ((), ())) := by kernel_rfl
theorem F45043_eq (k : Nat) (a0 : List ByteArray) : F45043 (k + 2) a0 =
    (F45060 k a0).bind fun r1 => some ((decide (r1.1.1 ≥ (0 : Int)), ()), ((), (), ())) := by kernel_rfl
theorem F45060_eq (k : Nat) (a0 : List ByteArray) : F45060 (k + 2) a0 =
    F45060c2 k a0 (a0.length : Int) (0 : Int) := by kernel_rfl
theorem F45060c2_eq (k : Nat) (x0 : List ByteArray) (x7 : Int) (x8 : Int) : F45060c2 (k + 1) x0 x7 x8 =
    if (decide (x8 < x7)) = true then if (decide (0 ≤ x8)) = true then (x0[x8.toNat]?).bind fun y1 => (F44 k y1).bind fun r2 => if r2.1.1 = true then some ((x8, ()), ((), (), ())) else F45060c2 k x0 x7 (IntKind.i64.wrap (x8 + (1 : Int))) else none else some (((-1 : Int), ()), ((), (), ())) := by kernel_rfl
theorem F47045_eq (k : Nat) (a0 : List Int) : F47045 (k + 2) a0 =
    (F47061 k a0).bind fun r1 => some ((decide (r1.1.1 ≥ (0 : Int)), ()), ((), (), ())) := by kernel_rfl
theorem F47061_eq (k : Nat) (a0 : List Int) : F47061 (k + 2) a0 =
    F47061c2 k a0 (a0.length : Int) (0 : Int) := by kernel_rfl
theorem F47061c2_eq (k : Nat) (x0 : List Int) (x7 : Int) (x8 : Int) : F47061c2 (k + 1) x0 x7 x8 =
    if (decide (x8 < x7)) = true then if (decide (0 ≤ x8)) = true then (x0[x8.toNat]?).bind fun y1 => (F46 k y1).bind fun r2 => if r2.1.1 = true then some ((x8, ()), ((), (), ())) else F47061c2 k x0 x7 (IntKind.i64.wrap (x8 + (1 : Int))) else none else some (((-1 : Int), ()), ((), (), ())) := by kernel_rfl
end Go.Proofs.YtcolgghllacloaaDoor.R0
end

section
/-! Rf, trees: copies, comparisons, bulk. -/
set_option autoImplicit false
namespace Go.Proofs.YtcolgghllacloaaDoor.R0
open Go.Rf

abbrev NodeT : Type := Bool × List ByteArray × List ByteArray × List Int × Unit
def okLen (n : Nat) : Prop := n ≤ 1048576
def okNode (n : NodeT) : Prop := okLen n.2.1.length ∧ okLen n.2.2.1.length ∧ okLen n.2.2.2.1.length

/-- no string and no row longer than can be counted -/
def fits (n : NodeT) : Prop := n.2.1.length ≤ 9223372036854775807 ∧ (∀ y, y ∈ n.2.1 → y.size ≤ 9223372036854775807) ∧ n.2.2.1.length ≤ 9223372036854775807 ∧ (∀ y, y ∈ n.2.2.1 → y.size ≤ 9223372036854775807) ∧ n.2.2.2.1.length ≤ 9223372036854775807
end Go.Proofs.YtcolgghllacloaaDoor.R0
end

section
/-! Rf, trees: what a node must meet; both sides ask the same. -/
set_option autoImplicit false
namespace Go.Proofs.YtcolgghllacloaaDoor.R0
open Go.Rf

def within (n lo hi : Int) : Bool := decide (n ≥ lo) && decide (n ≤ hi)
theorem F33_ev (n lo hi : Int) : Ev (fun k => F33 k n lo hi) ((within n lo hi, ()), ((), (), (), ())) := by
  refine Ev.step 2 (fun k => F33_eq k n lo hi) ?_
  unfold within
  cases h : decide (n ≥ lo) with
  | true => exact Ev.now _
  | false => exact Ev.now _
/-- the i-th key: its size, its place behind the one before -/
def keyOk (l : List ByteArray) (i : Nat) : Bool := within ((l.getD i ByteArray.empty).size : Int) 1 96 && (i == 0 || Op.bytesLess (l.getD (i - 1) ByteArray.empty).toList (l.getD i ByteArray.empty).toList)
def keysOk' (l : List ByteArray) : Bool := (List.range l.length).all (keyOk l)
theorem getD_of {l : List ByteArray} {i : Nat} (h : i < l.length) : l[i]? = some (l.getD i ByteArray.empty) := by
  rw [List.getD_eq_getElem?_getD, List.getElem?_eq_getElem h]
  rfl
theorem gt0 {i : Nat} : decide ((i : Int) > 0) = !(i == 0) := by
  cases i with
  | zero => rfl
  | succ i => simp
theorem pred64 {i : Nat} (h : 0 < i) (hn : i ≤ 4611686018427387904) : IntKind.i64.wrap ((i : Int) - 1) = ((i - 1 : Nat) : Int) := by
  rw [wrap64 (by omega) (by omega)]
  omega
def valsOk (l : List ByteArray) : Bool := (List.range l.length).all fun i => !decide (((l.getD i ByteArray.empty).size : Int) > 140)
def kidsOk (l : List Int) : Bool := (List.range l.length).all fun i => within (l.getD i 0) 0 18
def nodeOk (n : NodeT) : Bool := keysOk' n.2.1 && decide ((n.2.1.length : Int) ≤ 4) && (if n.1 = true then valsOk n.2.2.1 && ((n.2.2.1.length : Int) == (n.2.1.length : Int)) && ((n.2.2.2.1.length : Int) == 0)
  else kidsOk n.2.2.2.1 && ((n.2.2.1.length : Int) == 0) && decide ((n.2.1.length : Int) > 0) && ((n.2.2.2.1.length : Int) == (n.2.1.length : Int) + 1))
theorem getI_of {l : List Int} {i : Nat} (h : i < l.length) : l[i]? = some (l.getD i 0) := by
  rw [List.getD_eq_getElem?_getD, List.getElem?_eq_getElem h]
  rfl
theorem F45060_ev (l : List ByteArray) (h : okLen l.length) : ∃ r, Ev (fun k => F45060 k l) r ∧ decide (r.1.1 ≥ (0 : Int)) = !valsOk l := by
  unfold okLen at h
  obtain ⟨r, h1, h2⟩ := find_loop (L := fun k i => F45060c2 k l (l.length : Int) i) (n := l.length) (no := fun i => (((i : Int), ()), ((), (), ()))) (yes := (((-1 : Int), ()), ((), (), ()))) (c := fun i => !decide (((l.getD i ByteArray.empty).size : Int) > 140)) (fun i hi hc => by
      refine Ev.step 1 (fun k => F45060c2_eq k l _ i) ?_
      simp only [Bool.not_eq_false'] at hc
      simp only [lt_true hi, ge0, if_true, Int.toNat_natCast, getD_of hi, Option.bind_some]
      refine Ev.bind (Ev.step 2 (fun k => F44_eq k _) (Ev.now _)) ?_
      simp only [hc, if_true]
      exact Ev.now _) (fun i hi hc r hr => by
      refine Ev.step 1 (fun k => F45060c2_eq k l _ i) ?_
      simp only [Bool.not_eq_true'] at hc
      simp only [lt_true hi, ge0, if_true, Int.toNat_natCast, getD_of hi, Option.bind_some]
      refine Ev.bind (Ev.step 2 (fun k => F44_eq k _) (Ev.now _)) ?_
      simp only [hc, Bool.false_eq_true, if_false]
      rw [wrap_succ (by omega)]
      exact hr) (by
      refine Ev.step 1 (fun k => F45060c2_eq k l _ l.length) ?_
      simp only [lt_false (Nat.le_refl l.length), Bool.false_eq_true, if_false]
      exact Ev.now _)
  refine ⟨r, Ev.step 2 (fun k => F45060_eq k l) h1, ?_⟩
  unfold valsOk
  rcases h2 with ⟨h2, rfl⟩ | ⟨h2, i, _, rfl⟩
  · rw [h2]; rfl
  · rw [h2]; simp
theorem F45043_ev (l : List ByteArray) (h : okLen l.length) : Ev (fun k => F45043 k l) ((!valsOk l, ()), ((), (), ())) := by
  obtain ⟨r, h1, h2⟩ := F45060_ev l h
  refine Ev.step 2 (fun k => F45043_eq k l) (Ev.bind h1 ?_)
  simp only [h2]
  exact Ev.now _
theorem F47061_ev (l : List Int) (h : okLen l.length) : ∃ r, Ev (fun k => F47061 k l) r ∧ decide (r.1.1 ≥ (0 : Int)) = !kidsOk l := by
  unfold okLen at h
  obtain ⟨r, h1, h2⟩ := find_loop (L := fun k i => F47061c2 k l (l.length : Int) i) (n := l.length) (no := fun i => (((i : Int), ()), ((), (), ()))) (yes := (((-1 : Int), ()), ((), (), ()))) (c := fun i => within (l.getD i 0) 0 18) (fun i hi hc => by
      refine Ev.step 1 (fun k => F47061c2_eq k l _ i) ?_
      simp only [lt_true hi, ge0, if_true, Int.toNat_natCast, getI_of hi, Option.bind_some]
      refine Ev.bind (Ev.step 2 (fun k => F46_eq k _) (Ev.bind (F33_ev _ _ _) (Ev.now _))) ?_
      simp only [hc, Bool.not_false, if_true]
      exact Ev.now _) (fun i hi hc r hr => by
      refine Ev.step 1 (fun k => F47061c2_eq k l _ i) ?_
      simp only [lt_true hi, ge0, if_true, Int.toNat_natCast, getI_of hi, Option.bind_some]
      refine Ev.bind (Ev.step 2 (fun k => F46_eq k _) (Ev.bind (F33_ev _ _ _) (Ev.now _))) ?_
      simp only [hc, Bool.not_true, Bool.false_eq_true, if_false]
      rw [wrap_succ (by omega)]
      exact hr) (by
      refine Ev.step 1 (fun k => F47061c2_eq k l _ l.length) ?_
      simp only [lt_false (Nat.le_refl l.length), Bool.false_eq_true, if_false]
      exact Ev.now _)
  refine ⟨r, Ev.step 2 (fun k => F47061_eq k l) h1, ?_⟩
  unfold kidsOk
  rcases h2 with ⟨h2, rfl⟩ | ⟨h2, i, _, rfl⟩
  · rw [h2]; rfl
  · rw [h2]; simp
theorem F47045_ev (l : List Int) (h : okLen l.length) : Ev (fun k => F47045 k l) ((!kidsOk l, ()), ((), (), ())) := by
  obtain ⟨r, h1, h2⟩ := F47061_ev l h
  refine Ev.step 2 (fun k => F47045_eq k l) (Ev.bind h1 ?_)
  simp only [h2]
  exact Ev.now _
theorem F22_ev (n : NodeT) (h : okNode n) : Ev (fun k => F22 k n.1 n.2.1 n.2.2.1 n.2.2.2.1) ((nodeOk n, ()), (((), (), (), (), ()), ())) := by
  obtain ⟨h1, h2, h3⟩ := h
  obtain ⟨leaf, keys, vals, kids, u⟩ := n
  simp only at h1 h2 h3 ⊢
  refine Ev.step 2 (fun k => F22_eq k leaf keys vals kids) ?_
  unfold nodeOk
  cases h4 : decide ((keys.length : Int) > 4) with
  | true =>
    have h5 : decide ((keys.length : Int) ≤ 4) = false := by simp at h4 ⊢; omega
    simp only [h5, Bool.and_false, Bool.false_and, if_true]
    exact Ev.now _
  | false =>
    have h5 : decide ((keys.length : Int) ≤ 4) = true := by simp at h4 ⊢; omega
    simp only [h5, Bool.and_true, Bool.false_eq_true, if_false]
    have hl := h1
    unfold okLen at hl
    have := all_loop (L := fun k i => F22c4 k leaf keys vals kids keys (keys.length : Int) i) (n := keys.length) (no := ((false, ()), (((), (), (), (), ()), ())))
      (yes := ((if leaf = true then valsOk vals && ((vals.length : Int) == (keys.length : Int)) && ((kids.length : Int) == 0) else kidsOk kids && ((vals.length : Int) == 0) && decide ((keys.length : Int) > 0) && ((kids.length : Int) == (keys.length : Int) + 1), ()), (((), (), (), (), ()), ())))
      (c := keyOk keys) ?_ ?_ ?_
    · unfold keysOk'
      refine (congrArg (Ev _) ?_).mp this
      cases (List.range keys.length).all (keyOk keys) <;> simp
    · intro i hi hc
      refine Ev.step 1 (fun k => F22c4_eq k leaf keys vals kids keys _ i) ?_
      simp only [lt_true hi, ge0, if_true, Int.toNat_natCast, getD_of hi, Option.bind_some]
      refine Ev.bind (F33_ev _ 1 96) ?_
      simp only [gt0]
      unfold keyOk at hc
      cases hw : within ((keys.getD i ByteArray.empty).size : Int) 1 96 with
      | false => exact Ev.now _
      | true =>
        rw [hw] at hc
        simp only [Bool.true_and, Bool.or_eq_false_iff] at hc
        have hp : 0 < i := by
          rcases Nat.eq_zero_or_pos i with h0 | h0
          · rw [h0] at hc; cases hc.1
          · exact h0
        have hi2 : i - 1 < keys.length := by omega
        simp only [hc.1, Bool.not_false, Bool.not_true, Bool.false_eq_true, if_false, if_true, pred64 hp (by omega), ge0, Int.toNat_natCast, getD_of hi2, Option.bind_some, hc.2]
        exact Ev.now _
    · intro i hi hc r hr
      refine Ev.step 1 (fun k => F22c4_eq k leaf keys vals kids keys _ i) ?_
      simp only [lt_true hi, ge0, if_true, Int.toNat_natCast, getD_of hi, Option.bind_some]
      refine Ev.bind (F33_ev _ 1 96) ?_
      unfold keyOk at hc
      simp only [Bool.and_eq_true, Bool.or_eq_true] at hc
      simp only [gt0, hc.1, Bool.not_true, Bool.false_eq_true, if_false]
      rw [wrap_succ (by omega)]
      cases h0 : (i == 0) with
      | true => exact hr
      | false =>
        have hp : 0 < i := by
          rcases Nat.eq_zero_or_pos i with h1 | h1
          · rw [h1] at h0; cases h0
          · exact h1
        have hi2 : i - 1 < keys.length := by omega
        rcases hc.2 with hc2 | hc2
        · rw [h0] at hc2; cases hc2
        · simp only [Bool.not_false, if_true, pred64 hp (by omega), ge0, Int.toNat_natCast, getD_of hi2, Option.bind_some, hc2, Bool.not_true, Bool.false_eq_true, if_false]
          exact hr
    · refine Ev.step 1 (fun k => F22c4_eq k leaf keys vals kids keys _ keys.length) ?_
      simp only [lt_false (Nat.le_refl keys.length), Bool.false_eq_true, if_false]
      rw [wrap64 (n := (keys.length : Int) + 1) (by omega) (by omega)]
      cases leaf with
      | true =>
        simp only [if_true]
        cases ((kids.length : Int) == 0) with
        | false => simp only [Bool.and_false]; exact Ev.now _
        | true =>
          cases ((vals.length : Int) == (keys.length : Int)) with
          | false => simp only [Bool.and_false, Bool.false_and]; exact Ev.now _
          | true =>
            simp only [if_true, Bool.and_true]
            refine Ev.bind (F45043_ev vals h2) ?_
            simp only [Bool.not_not]
            exact Ev.now _
      | false =>
        simp only [Bool.false_eq_true, if_false]
        cases ((vals.length : Int) == 0) with
        | false => simp only [Bool.and_false, Bool.false_and]; exact Ev.now _
        | true =>
          cases decide ((keys.length : Int) > 0) with
          | false => simp only [Bool.and_false, Bool.false_and]; exact Ev.now _
          | true =>
            cases ((kids.length : Int) == (keys.length : Int) + 1) with
            | false => simp only [Bool.and_false]; exact Ev.now _
            | true =>
              simp only [if_true, Bool.and_true]
              refine Ev.bind (F47045_ev kids h3) ?_
              simp only [Bool.not_not]
              exact Ev.now _
/-! nodes that are empty; keys within bounds -/
def nodeZero (n : NodeT) : Bool := !n.1 && ((n.2.1.length : Int) == 0) && ((n.2.2.1.length : Int) == 0) && ((n.2.2.2.1.length : Int) == 0)
theorem F21_ev (n : NodeT) : Ev (fun k => F21 k n.1 n.2.1 n.2.2.1 n.2.2.2.1) ((nodeZero n, ()), (((), (), (), (), ()), ())) := by
  refine Ev.step 2 (fun k => F21_eq k _ _ _ _) ?_
  unfold nodeZero
  cases n.1 with
  | true => exact Ev.now _
  | false =>
    cases ((n.2.1.length : Int) == 0) with
    | false => exact Ev.now _
    | true => cases ((n.2.2.1.length : Int) == 0) with
      | false => exact Ev.now _
      | true => exact Ev.now _
def inKey (l : List ByteArray) (low high : ByteArray) (i : Nat) : Bool := !(Op.bytesLess (l.getD i ByteArray.empty).toList low.toList) && (high.toList == (⟨#[]⟩ : ByteArray).toList || Op.bytesLess (l.getD i ByteArray.empty).toList high.toList)
def inKeys (l : List ByteArray) (low high : ByteArray) : Bool := (List.range l.length).all (inKey l low high)
end Go.Proofs.YtcolgghllacloaaDoor.R0
end

section
/-! Rf: what the contracts of the library say is what the run takes them to say. -/
set_option autoImplicit false
namespace Go.Proofs.YtcolgghllacloaaDoor.R
open Go.Rf Go.RowKit
theorem ans_below {sp : Go.Rf.Spec} {out : sp.Out} {w w' : World} {Z : Nat → Prop} {args rvs : List Value} (hZ : ∀ b, Z b → b < w.heap.size) (hb : Below w.heap.size w w') (hr : ShsRep w' Z sp.rs out.1 rvs []) (hp : PostRep w w' Z sp.ps out.2 args []) :
    AnsS sp out w Z args [] (.returned (tupV rvs)) w' :=
  ⟨rvs, Z, [], [], rfl, hr, hp, by simp, (fun b hb => by cases hb), (fun b hb => hb), fun b hz => ⟨Nat.lt_of_lt_of_le (hZ b hz) hb.size, .inl hz⟩, ⟨hb.os, hb.tape, hb.output, hb.size, fun b hlt _ => hb.block b hlt, fun b o ho _ => (hb.block b (Array.getElem?_eq_some_iff.1 ho).1).trans ho⟩⟩
/-- two arguments of one cell each -/
theorem two_args {w : World} {Z : Nat → Prop} {s t : T} {x : s.D} {y : t.D} {args : List Value} {fp : List Nat} (h : ShsRep w Z [.c (.v s), .c (.v t)] (x, y, ()) args fp) : ∃ u v, args = [u, v] ∧ fp = [] ∧ rep w Z s x [u] ∧ rep w Z t y [v] := by
  match args, h with
  | [v1, v2], ⟨f, g, hfp, ⟨hv, hf⟩, ⟨f2, g2, hg2, ⟨hv2, hf2⟩, hg⟩⟩ =>
    obtain rfl : f = [] := hf
    obtain rfl : f2 = [] := hf2
    obtain rfl : g2 = [] := hg
    obtain rfl : g = [] := hg2
    obtain rfl : fp = [] := hfp
    exact ⟨v1, v2, rfl, rfl, hv, hv2⟩
theorem one_arg {w : World} {Z : Nat → Prop} {s : T} {x : s.D} {args : List Value} {fp : List Nat} (h : ShsRep w Z [.c (.v s)] (x, ()) args fp) : ∃ u, args = [u] ∧ fp = [] ∧ rep w Z s x [u] := by
  match args, h with
  | [v1], ⟨f, g, hfp, ⟨hv, hf⟩, hg⟩ =>
    obtain rfl : f = [] := hf
    obtain rfl : g = [] := hg
    obtain rfl : fp = [] := hfp
    exact ⟨v1, rfl, rfl, hv⟩
theorem str_arg {w : World} {Z : Nat → Prop} {s : ByteArray} {v : Value} (h : rep w Z .str s [v]) : v = .string s := (List.cons.inj (show [v] = [Value.string s] from h)).1
theorem int_arg {w : World} {Z : Nat → Prop} {k : IntKind} {n : Int} {v : Value} (h : rep w Z (.int k) n [v]) : v = .int k n := (List.cons.inj (show [v] = [Value.int k n] from h)).1
theorem post_two {w w' : World} {Z : Nat → Prop} {s t : T} {u v : Value} : PostRep w w' Z [.c (.v s), .c (.v t)] ((), (), ()) [u, v] [] := ⟨[], [], rfl, rfl, ⟨[], [], rfl, rfl, rfl⟩⟩
theorem post_one {w w' : World} {Z : Nat → Prop} {s : T} {u : Value} : PostRep w w' Z [.c (.v s)] ((), ()) [u] [] := ⟨[], [], rfl, rfl, rfl⟩
theorem gPow : Tryd.prog.globalNamed "internal/strconv.uint64pow10" = some powG := by kernel_rfl
theorem laid_of {w : World} {Z : Nat → Prop} (h : GL cx w Z) : Q.Laid w := by
  obtain ⟨_, cs, t, fz, hh, rfl⟩ := h.2 powG (fun cs => cs = powCells) (by show objsR powG = _; unfold objsR; simp)
  unfold Q.Laid Lib.TabIs World.var?
  rw [gPow, Option.bind_some, hh]
  rfl
theorem np_cells {w : World} {Z : Nat → Prop} {l : List ByteArray} {v : Value} (h : rep w Z (.sl .str) l [v]) : ∃ A c, v = .slice A l.length c ∧ ∀ j p, l[j]? = some p → ∃ a : Addr, A = some a ∧ w.cell? (a.add j) = some (.string p) := by
  obtain ⟨A, c, vs, h1, h2, h3, h4⟩ := h
  refine ⟨A, c, (List.cons.inj h1).1, fun j p hp => ?_⟩
  obtain ⟨cs, hr, hg⟩ := reps.get (n := 1) (fun x c h => by rw [show c = [.string x] from h]; rfl) h3 j p hp
  obtain rfl : cs = [.string p] := hr
  obtain ⟨a, ha, _, _, hc⟩ := h4 (j * 1 + 0) (.string p) (hg 0 _ rfl)
  exact ⟨a, ha, by rw [show j * 1 + 0 = j by omega] at hc; exact hc⟩
theorem np_ints {w : World} {Z : Nat → Prop} {l : List Int} {v : Value} (h : rep w Z (.sl (.int .i64)) l [v]) : ∃ A c, v = .slice A l.length c ∧ ∀ j p, l[j]? = some p → ∃ a : Addr, A = some a ∧ w.cell? (a.add j) = some (.int .i64 p) := by
  obtain ⟨A, c, vs, h1, h2, h3, h4⟩ := h
  refine ⟨A, c, (List.cons.inj h1).1, fun j p hp => ?_⟩
  obtain ⟨cs, hr, hg⟩ := reps.get (n := 1) (fun x c h => by rw [show c = [.int .i64 x] from h]; rfl) h3 j p hp
  obtain rfl : cs = [.int .i64 p] := hr
  obtain ⟨a, ha, _, _, hc⟩ := h4 (j * 1 + 0) (.int .i64 p) (hg 0 _ rfl)
  exact ⟨a, ha, by rw [show j * 1 + 0 = j by omega] at hc; exact hc⟩
abbrev npTs : List Sc := [.v .bool, .v (.sl .str), .v (.sl .str), .v (.sl (.int .i64))]
/-- a question about a node, told ahead -/
theorem np_ask {f : Nat} {w w1 : World} {Z : Nat → Prop} {n : Bool × List ByteArray × List ByteArray × List Int × Unit} {us : List Value} {b : Bool} (hb : Below w.heap.size w w1) (hZ : ∀ b, Z b → b < w.heap.size) (hr : SReps w Z npTs n us [])
    (h : ∀ w Z args fp, ShsRep w Z [.agg npTs] (n, ()) args fp → fp.Nodup → (∀ b ∈ fp, ¬ Z b ∧ b < w.heap.size) → (∀ b, Z b → b < w.heap.size) →
      Calls Tryd.prog f args.toArray w (AnsS (⟨[.agg npTs], [.c (.v .bool)]⟩ : Go.Rf.Spec) ((b, ()), (((), (), (), (), ()), ())) w Z args fp)) :
    Calls Tryd.prog f #[.agg us.toArray] w1 fun e w' => e = .returned (.bool b) ∧ Below w1.heap.size w1 w' := by
  have hr1 : SReps w1 Z npTs n us [] := by
    match us, hr with
    | [u0, u1, u2, u3], ⟨f0, g0, e0, ⟨a0, b0⟩, f1, g1, e1, ⟨a1, b1⟩, f2, g2, e2, ⟨a2, b2⟩, f3, g3, e3, ⟨a3, b3⟩, e4⟩ =>
      have hh : ∀ b, Z b → w1.heap[b]? = w.heap[b]? := fun b hz => hb.block b (hZ b hz)
      exact ⟨f0, g0, e0, ⟨a0.ext hh (fun _ h => h), b0⟩, f1, g1, e1, ⟨a1.ext hh (fun _ h => h), b1⟩, f2, g2, e2, ⟨a2.ext hh (fun _ h => h), b2⟩, f3, g3, e3, ⟨a3.ext hh (fun _ h => h), b3⟩, e4⟩
  refine (h w1 Z [.agg us.toArray] [] ⟨[], [], rfl, ⟨us.toArray, rfl, by simpa using hr1⟩, rfl⟩ (by simp) (fun b hb => by cases hb) (fun b hz => Nat.lt_of_lt_of_le (hZ b hz) hb.size)).mono ?_
  rintro e w' ⟨rvs, Z', rfp, pfp, rfl, hs, _, _, _, _, _, hk⟩
  match rvs, hs with
  | [v], ⟨f, g, _, ⟨hv, _⟩, _⟩ =>
    obtain rfl : v = .bool b := (List.cons.inj (show [v] = [Value.bool b] from hv)).1
    refine ⟨rfl, hk.os, hk.tape, hk.output, hk.size, fun b hlt => hk.block b hlt ?_⟩
    rintro (h | h)
    · cases h
    · omega
theorem np_zero {w w1 : World} {Z : Nat → Prop} {n : Bool × List ByteArray × List ByteArray × List Int × Unit} {us : List Value} (hb : Below w.heap.size w w1) (hZ : ∀ b, Z b → b < w.heap.size) (hr : SReps w Z npTs n us []) :
    Calls Tryd.prog 21 #[.agg us.toArray] w1 fun e w' => e = .returned (.bool (npZero n)) ∧ Below w1.heap.size w1 w' := by
  refine np_ask hb hZ hr (f := 21) fun w Z args fp h1 h2 h3 h4 => ?_
  obtain ⟨k, hk⟩ := (R0.F21_ev n).get
  exact R0.told k 21 (n, ()) ((npZero n, ()), (((), (), (), (), ()), ())) hk w Z args fp h1 h2 h3 h4 ⟨(fun _ _ h => by cases h), (fun _ _ h => by cases h)⟩
theorem np_ok {w w1 : World} {Z : Nat → Prop} {n : Bool × List ByteArray × List ByteArray × List Int × Unit} {us : List Value} (hb : Below w.heap.size w w1) (hZ : ∀ b, Z b → b < w.heap.size) (hr : SReps w Z npTs n us []) (hn : R0.okNode n) :
    Calls Tryd.prog 22 #[.agg us.toArray] w1 fun e w' => e = .returned (.bool (npOk n)) ∧ Below w1.heap.size w1 w' := by
  refine np_ask hb hZ hr (f := 22) fun w Z args fp h1 h2 h3 h4 => ?_
  obtain ⟨k, hk⟩ := (R0.F22_ev n hn).get
  exact R0.told k 22 (n, ()) ((npOk n, ()), (((), (), (), (), ()), ())) hk w Z args fp h1 h2 h3 h4 ⟨(fun _ _ h => by cases h), (fun _ _ h => by cases h)⟩
theorem np_keys {K : List ByteArray} (h : npKeysOk K = true) (i : Nat) (x : ByteArray) (hx : K[i]? = some x) : x.size ≤ 96 := by
  have hi := (List.getElem?_eq_some_iff.1 hx).1
  have := List.all_eq_true.1 h i (List.mem_range.2 hi)
  unfold npKeyOk npWithin at this
  have e : K.getD i ByteArray.empty = x := by rw [List.getD_eq_getElem?_getD, hx]; rfl
  rw [e] at this
  simp only [Bool.and_eq_true, decide_eq_true_eq] at this
  omega
theorem nodeput_contract (inp : (cx.spec 8).In) (out : (cx.spec 8).Out) (h : nodeputR inp = some out) : Contract cx 8 inp out := by
  obtain ⟨n, u⟩ := inp
  unfold nodeputR at h
  obtain ⟨h1, h2⟩ := Go.Rf.cond_some h
  rw [Bool.and_eq_true, Bool.and_eq_true] at h1
  have hn : R0.okNode n := ⟨Nat.le_of_ble_eq_true h1.1.1, Nat.le_of_ble_eq_true h1.1.2, Nat.le_of_ble_eq_true h1.2⟩
  obtain rfl := Option.some.inj h2
  intro w Z args fp hrep _ _ hZ hGL
  match args, hrep with
  | [v], hrep =>
    obtain ⟨f, g, hfp, ⟨us, rfl, hS⟩, hg⟩ := hrep
    obtain ⟨us⟩ := us
    obtain rfl : g = [] := hg
    match us, hS with
    | [u0, u1, u2, u3], hS =>
      have hS0 := hS
      obtain ⟨f0, g0, e0, ⟨a0, b0⟩, f1, g1, e1, ⟨a1, b1⟩, f2, g2, e2, ⟨a2, b2⟩, f3, g3, e3, ⟨a3, b3⟩, e4⟩ := hS
      obtain rfl : f0 = [] := b0
      obtain rfl : f1 = [] := b1
      obtain rfl : f2 = [] := b2
      obtain rfl : f3 = [] := b3
      obtain rfl : g3 = [] := e4
      obtain rfl : g2 = [] := e3
      obtain rfl : g1 = [] := e2
      obtain rfl : g0 = [] := e1
      obtain rfl : f = [] := e0
      obtain rfl : fp = [] := hfp
      obtain ⟨lf, K, V, I, _⟩ := n
      have hz := fun w1 hb => np_zero (w1 := w1) hb hZ hS0
      have ho := fun w1 hb => np_ok (w1 := w1) hb hZ hS0 hn
      obtain ⟨AK, cK, rfl, hK⟩ := np_cells a1
      obtain ⟨AV, cV, rfl, hV⟩ := np_cells a2
      obtain ⟨AI, cI, rfl, hI⟩ := np_ints a3
      obtain rfl : u0 = .bool lf := (List.cons.inj (show [u0] = [Value.bool lf] from a0)).1
      have fin : ∀ s, npText (lf, K, V, I, ()) = s → (Calls Tryd.prog 8 #[.agg #[.bool lf, .slice AK K.length cK, .slice AV V.length cV, .slice AI I.length cI]] w fun e w' => e = .returned (.string s) ∧ Below w.heap.size w w') →
          Calls cx.P (8 % 1000) [Value.agg (List.toArray [.bool lf, .slice AK K.length cK, .slice AV V.length cV, .slice AI I.length cI])].toArray w (Ans cx 8 ((npText (lf, K, V, I, ()), ()), (((), (), (), (), ()), ())) w Z [.agg (List.toArray [.bool lf, .slice AK K.length cK, .slice AV V.length cV, .slice AI I.length cI])] []) := by
        intro s hs hc
        refine hc.mono ?_
        rintro e w' ⟨rfl, hb⟩
        rw [hs]
        exact ans_below (rvs := [.string _]) hZ hb ⟨[], [], rfl, ⟨rfl, rfl⟩, rfl⟩ ⟨[], [], rfl, ⟨_, rfl, rfl⟩, rfl⟩
      by_cases hno : npZero (lf, K, V, I, ()) = true ∨ npOk (lf, K, V, I, ()) = false
      · refine fin ⟨#[]⟩ (if_pos hno) ?_
        exact Q.np_none lf _ _ _ _ _ w rfl rfl rfl hz ho hno
      · have hz1 : npZero (lf, K, V, I, ()) = false := by cases hq : npZero (lf, K, V, I, ()) with | false => rfl | true => exact (hno (.inl hq)).elim
        have ho1 : npOk (lf, K, V, I, ()) = true := by cases hq : npOk (lf, K, V, I, ()) with | true => rfl | false => exact (hno (.inr hq)).elim
        rw [hz1] at hz
        rw [ho1] at ho
        unfold npOk at ho1
        simp only [Bool.and_eq_true, decide_eq_true_eq] at ho1
        obtain ⟨⟨ok1, ok2⟩, ok3⟩ := ho1
        cases lf with
        | true =>
          rw [if_pos rfl] at ok3
          simp only [Bool.and_eq_true, beq_iff_eq] at ok3
          obtain ⟨⟨ok3, ok4⟩, ok5⟩ := ok3
          refine fin ⟨(npL K V K.length).toArray⟩ (by unfold npText; rw [if_neg hno, if_pos rfl]) ?_
          refine Q.np_leaf AK cK K AV cV V _ w rfl (laid_of hGL) hK hV (by omega) (by omega) (fun i x y hx hy => ⟨by have := np_keys ok1 i x hx; omega, ?_⟩) hz ho
          have hi := (List.getElem?_eq_some_iff.1 hy).1
          have := List.all_eq_true.1 ok3 i (List.mem_range.2 hi)
          have e : V.getD i ByteArray.empty = y := by rw [List.getD_eq_getElem?_getD, hy]; rfl
          rw [e] at this
          simp only [Bool.not_eq_true', decide_eq_false_iff_not] at this
          omega
        | false =>
          rw [if_neg (by simp)] at ok3
          simp only [Bool.and_eq_true, beq_iff_eq, decide_eq_true_eq] at ok3
          obtain ⟨⟨⟨ok3, ok4⟩, ok5⟩, ok6⟩ := ok3
          refine fin ⟨(npN K I K.length).toArray⟩ (by unfold npText; rw [if_neg hno, if_neg (by simp)]) ?_
          refine Q.np_inner AK cK K AI cI I _ w rfl (laid_of hGL) hK hI (by omega) (by omega) (fun i x hx => by have := np_keys ok1 i x hx; omega) (fun i y hy => ?_) hz ho
          have hi := (List.getElem?_eq_some_iff.1 hy).1
          have := List.all_eq_true.1 ok3 i (List.mem_range.2 hi)
          have e : I.getD i 0 = y := by rw [List.getD_eq_getElem?_getD, hy]; rfl
          rw [e] at this
          unfold npWithin at this
          simp only [Bool.and_eq_true, decide_eq_true_eq] at this
          omega
theorem gMax : Tryd.prog.globalNamed "internal/bytealg.MaxLen" = some maxG := by kernel_rfl
theorem cut_contract (inp : (cx.spec 30).In) (out : (cx.spec 30).Out) (h : cutR inp = some out) : Contract cx 30 inp out := by
  obtain ⟨a, b, u⟩ := inp
  unfold cutR at h
  dsimp only at h
  obtain ⟨h1, h2⟩ := Go.Rf.cond_some h
  obtain rfl := Option.some.inj h2
  intro w Z args fp hrep _ _ hZ hGL
  obtain ⟨v1, v2, rfl, rfl, hv1, hv2⟩ := two_args hrep
  obtain rfl := str_arg hv1
  obtain rfl := str_arg hv2
  obtain ⟨_, cs, t, fz, hh, m, hm⟩ := hGL.2 maxG (fun cs => ∃ m, cs[0]? = some (.int .i64 m)) (by show objsR maxG = _; unfold objsR; simp [maxG, powG])
  refine (Tryd.strings_Cut a b m w (Nat.lt_of_lt_of_le (Nat.lt_of_succ_le (Nat.le_of_ble_eq_true h1)) (Nat.le_refl _)) (by show w.cell? ⟨maxG, 0, none⟩ = _; unfold World.cell?; rw [hh]; simpa using hm)).mono ?_
  rintro e w' ⟨rfl, n, rfl⟩
  exact ans_below (rvs := [.string _, .string _, .bool _]) hZ (show Below w.heap.size w (w.drewN n) from ⟨rfl, rfl, rfl, Nat.le_refl _, (Below.refl w.heap.size w).block⟩) ⟨[], [], rfl, ⟨rfl, rfl⟩, ⟨[], [], rfl, ⟨rfl, rfl⟩, ⟨[], [], rfl, ⟨rfl, rfl⟩, rfl⟩⟩⟩ post_two
theorem err_cell {w : World} {Z : Nat → Prop} (h : GL cx w Z) {g : Nat} (hg : g = synG ∨ g = ranG) : ∃ ev, w.cell? ⟨g, 0, none⟩ = some ev ∧ (ev = .nilIface ∨ ∃ te pe, ev = .iface te pe) := by
  obtain ⟨_, cs, t, fz, hh, ev, he, hev⟩ := h.2 g (fun cs => ∃ ev, cs[0]? = some ev ∧ (ev = .nilIface ∨ ∃ te pe, ev = .iface te pe)) (by
    show objsR g = _
    rcases hg with rfl | rfl <;> kernel_rfl)
  exact ⟨ev, by unfold World.cell?; rw [hh]; simpa using he, hev⟩
theorem atoia_contract (inp : (cx.spec 31).In) (out : (cx.spec 31).Out) (h : atoiaR inp = some out) : Contract cx 31 inp out := by
  obtain ⟨s, u⟩ := inp
  unfold atoiaR at h
  dsimp only at h
  obtain ⟨h1, h2⟩ := Go.Rf.cond_some h
  have h1 := Nat.le_of_ble_eq_true h1
  intro w Z args fp hrep _ _ hZ hGL
  obtain ⟨v, rfl, rfl, hv⟩ := one_arg hrep
  obtain rfl := str_arg hv
  cases hn : Lib.atoiAll s.data.toList with
  | ok n =>
    rw [hn] at h2
    obtain rfl := Option.some.inj h2
    refine (Tryd.strconv_Atoi_ok s (by omega) n hn w).mono ?_
    rintro e w' ⟨rfl, hw⟩
    have hb : Below w.heap.size w w' := by
      rcases hw with rfl | ⟨t, rfl⟩
      · exact Below.refl _ _
      · exact Lib.bytesWorld_below _ _ _
    exact ans_below (rvs := [.int .i64 n, .nilIface]) hZ hb ⟨[], [], rfl, ⟨rfl, rfl⟩, ⟨[], [], rfl, ⟨.inl ⟨rfl, rfl⟩, rfl⟩, rfl⟩⟩ post_one
  | range =>
    rw [hn] at h2
    obtain rfl := Option.some.inj h2
    obtain ⟨ev, hc, hev⟩ := err_cell hGL (.inr rfl)
    refine (Tryd.strconv_Atoi_range s h1 hn ev w hc hev).mono ?_
    rintro e w' ⟨N, rfl, _, _, hb⟩
    exact ans_below (rvs := [.int .i64 _, .iface _ _]) hZ hb ⟨[], [], rfl, ⟨rfl, rfl⟩, ⟨[], [], rfl, ⟨.inr ⟨rfl, _, _, rfl⟩, rfl⟩, rfl⟩⟩ post_one
  | _ =>
    rw [hn] at h2
    obtain rfl := Option.some.inj h2
    obtain ⟨ev, hc, hev⟩ := err_cell hGL (.inl rfl)
    refine (Tryd.strconv_Atoi_syntax s h1 hn ev w hc hev).mono ?_
    rintro e w' ⟨N, rfl, _, _, hb⟩
    exact ans_below (rvs := [.int .i64 0, .iface _ _]) hZ hb ⟨[], [], rfl, ⟨rfl, rfl⟩, ⟨[], [], rfl, ⟨.inr ⟨rfl, _, _, rfl⟩, rfl⟩, rfl⟩⟩ post_one
theorem told (k f : Nat) (inp : (cx.spec f).In) (out : (cx.spec f).Out) (h : callF cx k f inp = some out) : Go.Rf.Contract cx f inp out := (Go.Rf.run_ok good (fun f g inp out h h2 => by
  have h : extR f = some g := h
  by_cases e8 : f = 8
  · subst e8
    obtain rfl := Option.some.inj h
    exact nodeput_contract inp out h2
  by_cases e30 : f = 30
  · subst e30
    obtain rfl := Option.some.inj h
    exact cut_contract inp out h2
  by_cases e31 : f = 31
  · subst e31
    obtain rfl := Option.some.inj h
    exact atoia_contract inp out h2
  · exfalso
    unfold extR at h
    split at h
    · exact e8 rfl
    · exact e30 rfl
    · exact e31 rfl
    · cases h) k).1 f inp out h
end Go.Proofs.YtcolgghllacloaaDoor.R
end

section
/-! Rf: the row of a law, out of its pure statement. -/
set_option autoImplicit false
namespace Go.Proofs.YtcolgghllacloaaDoor.fnExactNodeGet
open Go.Rf Go.Proofs.YtcolgghllacloaaDoor.R Go.ChangeShapes Go.WideShapes Go.ChangeAt Go.RowKit
set_option linter.unusedVariables false
theorem walk (P : PureFnExactNodeGet) (w : World) (hGL : GL cx w (Here w)) (v0 : Value) (y0 : (vSh ⟨false, [.str], [], 16⟩).D) (h0 : ShRep w (Here w) (vSh ⟨false, [.str], [], 16⟩) y0 v0 []) (w0 : shWf (vSh ⟨false, [.str], [], 16⟩) y0) :
    Calls Tryd.prog 4 #[v0] w fun e w' => e = .returned (.bool true) ∧ Below w.heap.size w w' := by
  obtain ⟨k, p, h⟩ := P y0 w0
  have h' : callF cx k 4 (y0, ()) = some ((true, ()), p) := h
  have hr : ShsRep w (Here w) (cx.spec 4).ps (y0, ()) [v0] [] := ⟨[], [], rfl, h0, rfl⟩
  exact law_calls (told k 4 _ _ h') hr hGL (fun w' Z vs fp h => res_bool h)
theorem own : ownKnob Tryd.prog.godebug = none := by kernel_rfl
theorem laidOut : laidOutB Tryd.prog = true := by kernel_rfl
/-- what the row lists -/
def laidL : List (String × DataW Unit) := [("math/bits.deBruijn32tab", Rows.laid_math_bits_deBruijn32tab), ("math/bits.deBruijn64tab", Rows.laid_math_bits_deBruijn64tab), ("internal/strconv.uint64pow10", Rows.laid_internal_strconv_uint64pow10), ("strconv.ErrRange", Rows.laid_strconv_ErrRange), ("strconv.ErrSyntax", Rows.laid_strconv_ErrSyntax)]
theorem pow_data : (Rows.laid_internal_strconv_uint64pow10 : DataW Unit) = Lib.tabData .u64 Lib.pow10Tab := by kernel_rfl
theorem gl_of {W : World} (h : laidMetH Tryd.prog laidL W) (hsh : W.ShapedOpen Tryd.prog) : GL cx W (Here W) := by
  unfold laidL at h
  rw [MakeChecks.laidMetH_plain _ _ _ (by kernel_rfl)] at h
  refine ⟨fun g v hg => ?_, fun g p hg => ?_⟩
  · cases hg
  · have hg : objsR g = some p := hg
    unfold objsR at hg
    split at hg
    · rename_i e'
      subst e'
      obtain rfl := Option.some.inj hg
      have ht := (laidMet.tail (laidMet.tail h))
      rw [pow_data] at ht
      exact tab_of_laid (Lib.tabIs_of_head (n := 20) (t := 97) (e := 82) gPow (by kernel_rfl) (by kernel_rfl) (by kernel_rfl) (by kernel_rfl) (by kernel_rfl) ht) gPow
    · skip
      split at hg
      · rename_i e'
        subst e'
        obtain rfl := Option.some.inj hg
        exact cells_of_shaped (t := 3) (z := #[.int .i64 0]) hsh (of_decide_eq_true (by kernel_rfl)) (by kernel_rfl) rfl (by kernel_rfl) (by kernel_rfl) (by kernel_rfl)
      · skip
        split at hg
        · rename_i e'
          subst e'
          obtain rfl := Option.some.inj hg
          exact err_of_laid (laidMet.tail (laidMet.tail (laidMet.tail (laidMet.tail h)))) (by kernel_rfl) (by kernel_rfl) Tryd.underlying47
        · skip
          split at hg
          · rename_i e'
            subst e'
            obtain rfl := Option.some.inj hg
            exact err_of_laid (laidMet.tail (laidMet.tail (laidMet.tail h))) (by kernel_rfl) (by kernel_rfl) Tryd.underlying47
          · cases hg
noncomputable def door (os : Os) : World := World.doorLaid Tryd.prog 400 os
theorem door_met (os : Os) (args : Array Value) : laidMetH Tryd.prog laidL ((door os).forCall (fun _ _ => 0) ⟨#[], args, []⟩).memory :=
  laidMetH_of_parts3 (fuel := 8) (laidMet_of_run' 8 (by kernel_rfl) (by kernel_rfl)) (by kernel_rfl) (by kernel_rfl)
set_option maxRecDepth 100000 in
theorem lifted (P : PureFnExactNodeGet) (os : Os) (started : os.Started) (H : Type) (enc : TypeId × Value → H) :
    ReturnsInHanded {} Tryd.checked os 4 .any (fun w args => (Rows.fnExactNodeGetSpec.pre enc Tryd.prog Tryd.f4 [] false w args ∧ laidMetH Tryd.prog laidL w) ∧ sizedMet enc Tryd.prog Tryd.f4 (OpenSpec.ofChange Rows.fnExactNodeGetSpec) false w args)
      (Rows.fnExactNodeGetSpec.post enc Tryd.prog Tryd.f4 false true false false) := by
  refine Go.Rf.returnsInHanded_of_change_and_shaped (C := Tryd.checked) (X := fun w _ => laidMetH Tryd.prog laidL w) (fun _ _ _ hh h => h.of_heap hh) own started (by kernel_rfl) Tryd.func4
    (ChangeSpec.witness_shaped (enc := enc) (C := Tryd.checked) (os := os) (X := fun w _ => laidMetH Tryd.prog laidL w) false (door os) #[.string ByteArray.empty] 12 rfl (World.shaped_of_RefB (by kernel_rfl) (by kernel_rfl)) (by kernel_rfl) (by kernel_rfl) (by kernel_rfl) (door_met os _)) ?_
  intro W base args ds gs before hval0 hW _ _ hL hsh _
  have hGL := gl_of hL hsh
  have hval : ∀ (j : Nat) t v, Tryd.f4.params[j]? = some t → args[j]? = some v → Value.okWide Tryd.prog W .any base t v := hval0
  have hW' := hW
  obtain ⟨p, q, hA0, hV, rfl, hfz, hnd⟩ := hW
  have hA : DataW.TrodAll enc Tryd.prog W 0 (fun _ => true) true Tryd.f4.params.toList args.toList ds p := hA0
  rw [Tryd.params4] at hA hval
  obtain ⟨v0, vs0, d0, ds0, p0, q0, hargs, rfl, rfl, h0, r0⟩ := trodAll_cons hA
  obtain ⟨rfl, rfl, rfl⟩ := trodAll_nil r0
  obtain rfl : args = #[v0] := by cases args; simp_all
  obtain ⟨rfl, rfl⟩ := trodVars_none hV
  have k0 := h0
  have lt0 : ∀ x ∈ p0, x.block < W.heap.size := by obtain ⟨m, hm⟩ := k0; exact DataW.trod_lt m _ _ _ hm
  obtain ⟨y0, hy0, w0⟩ := opnArg_ok (tab := tabs.ty) (P := Tryd.prog) (t := 9) (i := ⟨false, [.str], [], 16⟩) (by kernel_rfl) (hval 0 9 v0 rfl rfl) h0
  clear hA0 hval0
  refine (walk P W hGL v0 y0 hy0 w0).mono fun e W' ⟨he, bel⟩ => ?_
  subst he
  exact ⟨_, rfl, _, _, _, [], _, [], hW', trodAll_mk1 (shut_bool Tryd.underlying4 _), (trodAll_cons_mk (Below.trod laidOut (by kernel_rfl) (of_decide_eq_true (by kernel_rfl)) k0 bel lt0) trodAll_mk0), rfl, bel.frame _, fun h => by cases h⟩
theorem over (P : PureFnExactNodeGet) : Rows.fnExactNodeGetRow.holds Tryd.pinned (OpenSpec.ofChange Rows.fnExactNodeGetSpec) :=
  OpenClaim.holds_of_wide 4 Tryd.f4 rfl rfl rfl rfl rfl rfl rfl ⟨rfl, rfl, rfl, rfl, rfl⟩ rfl rfl rfl rfl rfl (by kernel_rfl) Tryd.func4 (by kernel_rfl)
    (of_decide_eq_true (by kernel_rfl)) (by unfold Func.isWrapper; first | (rw [if_pos (by decide +kernel)]; kernel_rfl) | (rw [if_neg (by decide +kernel)]; exact ⟨rfl, rfl⟩))
    (fun os started H enc _ => lifted P os started H enc)
/-- THE TIED CARD. -/
theorem card (P : PureFnExactNodeGet) : Rows.FnExactNodeGetCardSaid :=
  Claim7.holds_tied_plain_at .later [] [.data, .data, .data, .sentinel, .sentinel] true (true, "cabd6bdaf4996521c424c943e3af5e3ec32b86ea02d917f2e2d511cb876725be") true
    (over P) (fun _ h => by cases h) (by kernel_rfl) (fun _ h => by cases h) fnExactNodeGet_row_tie rfl ⟨rfl, rfl⟩ (by kernel_rfl) rfl
    (fun f fn hf hfn => by
      obtain rfl : f = 4 := Option.some.inj ((show Tryd.prog.funcNamed "loop.example/jetton/laws.FnExactNodeGet" = some 4 by kernel_rfl).symm.trans hf) |>.symm
      obtain rfl : fn = Tryd.f4 := (Option.some.inj (Tryd.func4.symm.trans hfn)).symm
      exact ⟨by kernel_rfl, fun j t ht => by
        rw [Tryd.params4] at ht
        have hm : t ∈ [9] := by simpa using Array.mem_of_getElem? ht
        have hall : ([9].all fun u => !Tryd.prog.wantsStandIn u) = true := by kernel_rfl
        exact (show Tryd.prog.wantsStandIn t = false by simpa using List.all_eq_true.1 hall t hm)⟩)
    (by kernel_rfl)
end Go.Proofs.YtcolgghllacloaaDoor.fnExactNodeGet
end

section
/-! Rf, trees: copies, comparisons, bulk. -/
set_option autoImplicit false
namespace Go.Proofs.YtcolgghllacloaaDoor.R
open Go.Rf

abbrev NodeT : Type := Bool × List ByteArray × List ByteArray × List Int × Unit
def okLen (n : Nat) : Prop := n ≤ 1048576
def okNode (n : NodeT) : Prop := okLen n.2.1.length ∧ okLen n.2.2.1.length ∧ okLen n.2.2.2.1.length

theorem F26_ev (l : List ByteArray) (h : okLen l.length) : Ev (fun k => F26 k l l) ((true, ()), ((), (), ())) := by
  unfold okLen at h
  refine Ev.step 2 (fun k => F26_eq k l l) ?_
  simp only [bne_self_eq_false, Bool.false_eq_true, if_false]
  exact same_loop (L := fun k i => F26c4 k l l i) (x0 := l) (g := fun _ y1 y2 => some (y1.toList == y2.toList)) (p := id) (no := ((false, ()), ((), (), ()))) (h := fun _ => true) (by omega) (fun k i => F26c4_eq k l l i) (fun y _ => by
    simp only [beq_self_eq_true]
    exact ⟨Ev.now _, rfl⟩)
theorem F27_ev (l : List Int) (h : okLen l.length) : Ev (fun k => F27 k l l) ((true, ()), ((), (), ())) := by
  unfold okLen at h
  refine Ev.step 2 (fun k => F27_eq k l l) ?_
  simp only [bne_self_eq_false, Bool.false_eq_true, if_false]
  exact same_loop (L := fun k i => F27c4 k l l i) (x0 := l) (g := fun _ y1 y2 => some (y1 == y2)) (p := id) (no := ((false, ()), ((), (), ()))) (h := fun _ => true) (by omega) (fun k i => F27c4_eq k l l i) (fun y _ => by
    simp only [beq_self_eq_true]
    exact ⟨Ev.now _, rfl⟩)
theorem F9_ev (n : NodeT) (h : okNode n) : Ev (fun k => F9 k n.1 n.2.1 n.2.2.1 n.2.2.2.1 n.1 n.2.1 n.2.2.1 n.2.2.2.1) ((true, ()), (((), (), (), (), ()), ((), (), (), (), ()), ())) := by
  obtain ⟨h1, h2, h3⟩ := h
  refine Ev.step 2 (fun k => F9_eq k _ _ _ _ _ _ _ _) ?_
  simp only [beq_self_eq_true, Bool.not_true, Bool.false_eq_true, if_false]
  refine Ev.bind (F26_ev _ h1) ?_
  simp only [Bool.not_true, Bool.false_eq_true, if_false]
  refine Ev.bind (F26_ev _ h2) ?_
  simp only [Bool.not_true, Bool.false_eq_true, if_false]
  refine Ev.bind (F27_ev _ h3) ?_
  simp only [Bool.not_true, Bool.false_eq_true, if_false]
  exact Ev.now _
/-- no string and no row longer than can be counted -/
def fitsN (n : NodeT) : Prop := n.2.1.length ≤ 9223372036854775807 ∧ (∀ y, y ∈ n.2.1 → y.size ≤ 9223372036854775807) ∧ n.2.2.1.length ≤ 9223372036854775807 ∧ (∀ y, y ∈ n.2.2.1 → y.size ≤ 9223372036854775807) ∧ n.2.2.2.1.length ≤ 9223372036854775807
end Go.Proofs.YtcolgghllacloaaDoor.R
end

section
/-! Rf, trees: what a node must meet; both sides ask the same. -/
set_option autoImplicit false
namespace Go.Proofs.YtcolgghllacloaaDoor.R
open Go.Rf

def inNode (n lo hi : Int) : Bool := decide (n ≥ lo) && decide (n ≤ hi)
theorem F41_ev (n lo hi : Int) : Ev (fun k => F41 k n lo hi) ((inNode n lo hi, ()), ((), (), (), ())) := by
  refine Ev.step 2 (fun k => F41_eq k n lo hi) ?_
  unfold inNode
  cases h : decide (n ≥ lo) with
  | true => exact Ev.now _
  | false => exact Ev.now _
theorem F33_ev (n lo hi : Int) : Ev (fun k => F33 k n lo hi) ((inNode n lo hi, ()), ((), (), (), ())) := by
  refine Ev.step 2 (fun k => F33_eq k n lo hi) ?_
  unfold inNode
  cases h : decide (n ≥ lo) with
  | true => exact Ev.now _
  | false => exact Ev.now _
/-- the i-th key: its size, its place behind the one before -/
def keyOk (l : List ByteArray) (i : Nat) : Bool := inNode ((l.getD i ByteArray.empty).size : Int) 1 96 && (i == 0 || Op.bytesLess (l.getD (i - 1) ByteArray.empty).toList (l.getD i ByteArray.empty).toList)
def keysOk' (l : List ByteArray) : Bool := (List.range l.length).all (keyOk l)
theorem getD_of {l : List ByteArray} {i : Nat} (h : i < l.length) : l[i]? = some (l.getD i ByteArray.empty) := by
  rw [List.getD_eq_getElem?_getD, List.getElem?_eq_getElem h]
  rfl
theorem gt0 {i : Nat} : decide ((i : Int) > 0) = !(i == 0) := by
  cases i with
  | zero => rfl
  | succ i => simp
theorem pred64 {i : Nat} (h : 0 < i) (hn : i ≤ 4611686018427387904) : IntKind.i64.wrap ((i : Int) - 1) = ((i - 1 : Nat) : Int) := by
  rw [wrap64 (by omega) (by omega)]
  omega
theorem F40_ev (l : List ByteArray) (h : okLen l.length) : Ev (fun k => F40 k l) ((keysOk' l && decide ((l.length : Int) ≤ 4), ()), ((), ())) := by
  unfold okLen at h
  refine Ev.step 2 (fun k => F40_eq k l) ?_
  have := all_loop (L := fun k i => F40c2 k l i) (n := l.length) (no := ((false, ()), ((), ()))) (yes := ((decide ((l.length : Int) ≤ 4), ()), ((), ()))) (c := keyOk l) ?_ ?_ ?_
  · unfold keysOk'
    refine (congrArg (Ev _) ?_).mp this
    cases (List.range l.length).all (keyOk l) <;> rfl
  · intro i hi hc
    refine Ev.step 1 (fun k => F40c2_eq k l i) ?_
    simp only [lt_true hi, ge0, if_true, Int.toNat_natCast, getD_of hi, Option.bind_some]
    refine Ev.bind (F41_ev _ 1 96) ?_
    simp only [gt0]
    unfold keyOk at hc
    cases hw : inNode ((l.getD i ByteArray.empty).size : Int) 1 96 with
    | false => exact Ev.now _
    | true =>
      rw [hw] at hc
      simp only [Bool.true_and, Bool.or_eq_false_iff] at hc
      have hp : 0 < i := by
        rcases Nat.eq_zero_or_pos i with h0 | h0
        · rw [h0] at hc; cases hc.1
        · exact h0
      have hi2 : i - 1 < l.length := by omega
      simp only [hc.1, Bool.not_false, Bool.not_true, Bool.false_eq_true, if_false, if_true, pred64 hp (by omega), ge0, Int.toNat_natCast, getD_of hi2, Option.bind_some]
      have := not_less (l.getD (i - 1) ByteArray.empty).toList (l.getD i ByteArray.empty).toList
      rw [hc.2] at this
      simp only [← this, Bool.not_false, if_true]
      exact Ev.now _
  · intro i hi hc r hr
    refine Ev.step 1 (fun k => F40c2_eq k l i) ?_
    simp only [lt_true hi, ge0, if_true, Int.toNat_natCast, getD_of hi, Option.bind_some]
    refine Ev.bind (F41_ev _ 1 96) ?_
    unfold keyOk at hc
    simp only [Bool.and_eq_true, Bool.or_eq_true] at hc
    simp only [gt0, hc.1, Bool.not_true, Bool.false_eq_true, if_false]
    rw [wrap_succ (by omega)]
    cases h0 : (i == 0) with
    | true => exact hr
    | false =>
      have hp : 0 < i := by
        rcases Nat.eq_zero_or_pos i with h1 | h1
        · rw [h1] at h0; cases h0
        · exact h1
      have hi2 : i - 1 < l.length := by omega
      rcases hc.2 with hc2 | hc2
      · rw [h0] at hc2; cases hc2
      · simp only [Bool.not_false, if_true, pred64 hp (by omega), ge0, Int.toNat_natCast, getD_of hi2, Option.bind_some]
        have := not_less (l.getD (i - 1) ByteArray.empty).toList (l.getD i ByteArray.empty).toList
        rw [hc2] at this
        simp only [← this, Bool.not_true, Bool.false_eq_true, if_false]
        exact hr
  · refine Ev.step 1 (fun k => F40c2_eq k l l.length) ?_
    simp only [lt_false (Nat.le_refl l.length), Bool.false_eq_true, if_false]
    exact Ev.now _
def valsOk (l : List ByteArray) : Bool := (List.range l.length).all fun i => !decide (((l.getD i ByteArray.empty).size : Int) > 140)
def kidsOk (l : List Int) : Bool := (List.range l.length).all fun i => inNode (l.getD i 0) 0 18
def nodeOk (n : NodeT) : Bool := keysOk' n.2.1 && decide ((n.2.1.length : Int) ≤ 4) && (if n.1 = true then valsOk n.2.2.1 && ((n.2.2.1.length : Int) == (n.2.1.length : Int)) && ((n.2.2.2.1.length : Int) == 0)
  else kidsOk n.2.2.2.1 && ((n.2.2.1.length : Int) == 0) && decide ((n.2.1.length : Int) > 0) && ((n.2.2.2.1.length : Int) == (n.2.1.length : Int) + 1))
theorem getI_of {l : List Int} {i : Nat} (h : i < l.length) : l[i]? = some (l.getD i 0) := by
  rw [List.getD_eq_getElem?_getD, List.getElem?_eq_getElem h]
  rfl
theorem F17_ev (n : NodeT) (h : okNode n) : Ev (fun k => F17 k n.1 n.2.1 n.2.2.1 n.2.2.2.1) ((nodeOk n, ()), (((), (), (), (), ()), ())) := by
  obtain ⟨h1, h2, h3⟩ := h
  obtain ⟨leaf, keys, vals, kids, u⟩ := n
  simp only at h1 h2 h3 ⊢
  refine Ev.step 2 (fun k => F17_eq k leaf keys vals kids) ?_
  refine Ev.bind (F40_ev keys h1) ?_
  unfold okLen at h1 h2 h3
  unfold nodeOk
  cases hk : (keysOk' keys && decide ((keys.length : Int) ≤ 4)) with
  | false =>
    simp only [Bool.false_and]
    exact Ev.now _
  | true =>
    simp only [Bool.true_and, Bool.not_true, Bool.false_eq_true, if_false]
    cases leaf with
    | true =>
      simp only [if_true]
      have := all_loop (L := fun k i => F17c5 k true keys vals kids i) (n := vals.length) (no := ((false, ()), (((), (), (), (), ()), ()))) (yes := ((((vals.length : Int) == (keys.length : Int)) && ((kids.length : Int) == 0), ()), (((), (), (), (), ()), ())))
        (c := fun i => !decide (((vals.getD i ByteArray.empty).size : Int) > 140)) ?_ ?_ ?_
      · unfold valsOk
        refine (congrArg (Ev _) ?_).mp this
        cases (List.range vals.length).all _ <;> simp
      · intro i hi hc
        refine Ev.step 1 (fun k => F17c5_eq k true keys vals kids i) ?_
        simp only [Bool.not_eq_false'] at hc
        simp only [lt_true hi, ge0, if_true, Int.toNat_natCast, getD_of hi, Option.bind_some, hc]
        exact Ev.now _
      · intro i hi hc r hr
        refine Ev.step 1 (fun k => F17c5_eq k true keys vals kids i) ?_
        simp only [Bool.not_eq_true'] at hc
        simp only [lt_true hi, ge0, if_true, Int.toNat_natCast, getD_of hi, Option.bind_some, hc, Bool.false_eq_true, if_false]
        rw [wrap_succ (by omega)]
        exact hr
      · refine Ev.step 1 (fun k => F17c5_eq k true keys vals kids vals.length) ?_
        simp only [lt_false (Nat.le_refl vals.length), Bool.false_eq_true, if_false]
        cases ((vals.length : Int) == (keys.length : Int)) with
        | true => exact Ev.now _
        | false => exact Ev.now _
    | false =>
      simp only [Bool.false_eq_true, if_false]
      have := all_loop (L := fun k i => F17c11 k false keys vals kids i) (n := kids.length) (no := ((false, ()), (((), (), (), (), ()), ()))) (yes := ((((vals.length : Int) == 0) && decide ((keys.length : Int) > 0) && ((kids.length : Int) == (keys.length : Int) + 1), ()), (((), (), (), (), ()), ())))
        (c := fun i => inNode (kids.getD i 0) 0 18) ?_ ?_ ?_
      · unfold kidsOk
        refine (congrArg (Ev _) ?_).mp this
        cases (List.range kids.length).all _ <;> simp
      · intro i hi hc
        refine Ev.step 1 (fun k => F17c11_eq k false keys vals kids i) ?_
        simp only [lt_true hi, ge0, if_true, Int.toNat_natCast, getI_of hi, Option.bind_some]
        refine Ev.bind (F41_ev _ 0 18) ?_
        simp only [hc, Bool.not_false, if_true]
        exact Ev.now _
      · intro i hi hc r hr
        refine Ev.step 1 (fun k => F17c11_eq k false keys vals kids i) ?_
        simp only [lt_true hi, ge0, if_true, Int.toNat_natCast, getI_of hi, Option.bind_some]
        refine Ev.bind (F41_ev _ 0 18) ?_
        simp only [hc, Bool.not_true, Bool.false_eq_true, if_false]
        rw [wrap_succ (by omega)]
        exact hr
      · refine Ev.step 1 (fun k => F17c11_eq k false keys vals kids kids.length) ?_
        simp only [lt_false (Nat.le_refl kids.length), Bool.false_eq_true, if_false]
        rw [wrap64 (n := (keys.length : Int) + 1) (by omega) (by omega)]
        cases ((vals.length : Int) == 0) with
        | false => exact Ev.now _
        | true =>
          cases decide ((keys.length : Int) > 0) with
          | true => exact Ev.now _
          | false => exact Ev.now _
/-! the other side -/
def nodeZero (n : NodeT) : Bool := !n.1 && ((n.2.1.length : Int) == 0) && ((n.2.2.1.length : Int) == 0) && ((n.2.2.2.1.length : Int) == 0)
def inKey (l : List ByteArray) (low high : ByteArray) (i : Nat) : Bool := !(Op.bytesLess (l.getD i ByteArray.empty).toList low.toList) && (high.toList == (⟨#[]⟩ : ByteArray).toList || Op.bytesLess (l.getD i ByteArray.empty).toList high.toList)
def inKeys (l : List ByteArray) (low high : ByteArray) : Bool := (List.range l.length).all (inKey l low high)
end Go.Proofs.YtcolgghllacloaaDoor.R
end

section
/-! Rf, limbs: noughts at the end; which is greater. -/
set_option autoImplicit false
namespace Go.Proofs.YtcolgghllacloaaDoor.R
open Go.Rf

theorem digs_len_le {n : Nat} {m : Nat} (h : n < 10000 ^ m) : (digs n).length ≤ m := by
  induction m generalizing n with
  | zero =>
    have : n = 0 := by simp at h; omega
    rw [this, digs_zero]
    simp
  | succ m ih =>
    by_cases h0 : n = 0
    · rw [h0, digs_zero]
      simp
    · rw [digs_pos h0, List.length_cons]
      have := ih (n := n / 10000) (by rw [Nat.pow_succ] at h; omega)
      omega
section
variable {a b : List Int} {A B : Nat}
theorem clamp_neg {D : Int} (h : D < 0) : (if (if D < 1 then D else 1) > -1 then (if D < 1 then D else 1) else -1) = -1 := by
  rw [if_pos (show D < 1 by omega), if_neg (by omega)]
theorem clamp_pos {D : Int} (h : 0 < D) : (if (if D < 1 then D else 1) > -1 then (if D < 1 then D else 1) else -1) = 1 := by
  rw [if_neg (show ¬ D < 1 by omega), if_pos (by omega)]
end
end Go.Proofs.YtcolgghllacloaaDoor.R
end

section
/-! Rf, limbs: products, powers of ten. -/
set_option autoImplicit false
namespace Go.Proofs.YtcolgghllacloaaDoor.R
open Go.Rf
theorem mul_small {x y : Int} (hx : 0 ≤ x ∧ x ≤ 9999) (hy : 0 ≤ y ∧ y ≤ 9999) : 0 ≤ x * y ∧ x * y ≤ 99980001 := by
  refine ⟨Int.mul_nonneg hx.1 hy.1, ?_⟩
  have := Int.mul_le_mul hx.2 hy.2 hy.1 (show (0 : Int) ≤ 9999 by omega)
  omega
theorem addN {i k : Nat} (h : i + k < 4611686018427387904) : IntKind.i64.wrap ((i : Int) + (k : Int)) = ((i + k : Nat) : Int) := by
  rw [wrap64 (by omega) (by omega)]
  omega
/-- one limb more of a product's row -/
theorem VI_row {x : List Int} {i k : Nat} {V0 ai c s n : Int} {b : List Int} (hk : k < b.length) (hx : i + k < x.length) (hV : VI x + c * 10000 ^ (i + k) = V0 + ai * VI (b.take k) * 10000 ^ i) (hn : n = x.getD (i + k) 0 + ai * b.getD k 0 + c) (hs : s = n % 10000) :
    VI (x.set (i + k) s) + n / 10000 * 10000 ^ (i + (k + 1)) = V0 + ai * VI (b.take (k + 1)) * 10000 ^ i := by
  have e1 : n = 10000 * (n / 10000) + s := by omega
  have e2 : (10000 : Int) ^ (i + (k + 1)) = 10000 ^ (i + k) * 10000 := by rw [← Nat.add_assoc, Int.pow_succ]
  have e3 : (10000 : Int) ^ (i + k) = 10000 ^ i * 10000 ^ k := Int.pow_add 10000 i k
  rw [VI_set hx, VI_take_succ hk, e2]
  rw [e3] at hV ⊢
  grind
section
variable {a b : List Int}
end
theorem digs_small {n : Nat} (h : 0 < n) (h2 : n < 10000) : digs n = [(n : Int)] := by
  rw [digs_pos (by omega), Nat.div_eq_of_lt h2, Nat.mod_eq_of_lt h2, digs_zero]
theorem VI_digs (n : Nat) : VI (digs n) = (n : Int) := (digs_spec n).2.2
theorem ten_len (i : Nat) : (digs (10 ^ i)).length ≤ i + 1 := digs_len_le (by
  have h1 : 10 ^ i ≤ 10000 ^ i := Nat.pow_le_pow_left (by omega) i
  have h2 : 0 < 10000 ^ i := Nat.pow_pos (by omega)
  rw [Nat.pow_succ]
  omega)
theorem tens_digs (q : Nat) {t : Nat} (h0 : 0 < t) (h1 : t < 10000) : List.replicate q (0 : Int) ++ [(t : Int)] = digs (t * 10000 ^ q) := by
  refine digs_of (fun d hd => ?_) (.inr ?_) ?_
  · rcases List.mem_append.1 hd with hd | hd
    · rw [(List.mem_replicate.1 hd).2]
      omega
    · rw [List.mem_singleton.1 hd]
      omega
  · rw [List.length_append, List.length_replicate, List.getD_eq_getElem?_getD, List.getElem?_append_right (by simp)]
    simp
    omega
  · rw [VI_append, VI_zeros, List.length_replicate]
    show (0 : Int) + 10000 ^ q * ((t : Int) + 10000 * 0) = ((t * 10000 ^ q : Nat) : Int)
    rw [Int.natCast_mul, Int.natCast_pow]
    grind
end Go.Proofs.YtcolgghllacloaaDoor.R
end

section
/-! Rf: a node as the reference writes it. -/
set_option autoImplicit false
set_option linter.unusedSimpArgs false
set_option linter.unusedVariables false
namespace Go.Proofs.YtcolgghllacloaaDoor.R
open Go.Rf
theorem sz_mk (l : List UInt8) : (⟨l.toArray⟩ : ByteArray).size = l.length := rfl
theorem ble9 {n : Nat} (h : n ≤ 9223372036854775807) : Nat.ble n 9223372036854775807 = true := Nat.ble_eq_true_of_le h
theorem ba_ext {a b : ByteArray} (h : a.data.toList = b.data.toList) : a = b := ByteArray.ext (Array.toList_inj.1 h)
theorem dec_len {n : Nat} (h : n ≤ 1000000) : (Lib.decDigits n).length ≤ 21 := by
  rw [← itoa_nat]
  exact Lib.itoa_length_le (n : Int) (by omega) (by omega)
theorem npL_succ (K V : List ByteArray) (i : Nat) : npL K V (i + 1) = npL K V i ++ npEntL (K.getD i ByteArray.empty) (V.getD i ByteArray.empty) := by
  unfold npL
  rw [List.range_succ, List.flatMap_append, List.flatMap_singleton, List.append_assoc]
theorem npN_succ (K : List ByteArray) (I : List Int) (i : Nat) : npN K I (i + 1) = npN K I i ++ npEntN (K.getD i ByteArray.empty) (I.getD (i + 1) 0) := by
  unfold npN
  simp only [List.range_succ, List.flatMap_append, List.flatMap_singleton, List.append_assoc]
theorem npEntL_nat (x y : ByteArray) : npEntL x y = Lib.decDigits x.size ++ [44] ++ Lib.decDigits y.size ++ [58] ++ x.data.toList ++ y.data.toList := by unfold npEntL; rw [itoa_nat, itoa_nat]
theorem npEntN_nat (x : ByteArray) (y : Nat) : npEntN x (y : Int) = Lib.decDigits x.size ++ [44] ++ Lib.decDigits y ++ [58] ++ x.data.toList := by unfold npEntN; rw [itoa_nat, itoa_nat]
theorem getS {l : List ByteArray} {i : Nat} {x : ByteArray} (h : l[i]? = some x) : l.getD i ByteArray.empty = x := by rw [List.getD_eq_getElem?_getD, h]; rfl
theorem getN {l : List Int} {i : Nat} {x : Int} (h : l[i]? = some x) : l.getD i 0 = x := by rw [List.getD_eq_getElem?_getD, h]; rfl
theorem npEntL_len {x y : ByteArray} (hx : x.size ≤ 200) (hy : y.size ≤ 200) : (npEntL x y).length ≤ 444 := by
  have h1 := dec_len (n := x.size) (by omega)
  have h2 := dec_len (n := y.size) (by omega)
  have h3 : x.data.toList.length = x.size := rfl
  have h4 : y.data.toList.length = y.size := rfl
  simp only [npEntL_nat, List.length_append, List.length_cons, List.length_nil, h3, h4]
  omega
theorem npEntN_len {x : ByteArray} {y : Nat} (hx : x.size ≤ 200) (hy : y ≤ 100) : (npEntN x (y : Int)).length ≤ 444 := by
  have h1 := dec_len (n := x.size) (by omega)
  have h2 := dec_len (n := y) (by omega)
  have h3 : x.data.toList.length = x.size := rfl
  simp only [npEntN_nat, List.length_append, List.length_cons, List.length_nil, h3]
  omega
theorem npOk_leaf {K V : List ByteArray} {I : List Int} (h : nodeOk (true, K, V, I, ()) = true) : V.length = K.length ∧ K.length ≤ 4 ∧ (∀ (i : Nat) x, K[i]? = some x → 1 ≤ x.size ∧ x.size ≤ 96) ∧ (∀ (i : Nat) y, V[i]? = some y → y.size ≤ 140) ∧ I = [] := by
  unfold nodeOk at h
  simp only [Bool.and_eq_true, decide_eq_true_eq, if_true, beq_iff_eq] at h
  obtain ⟨⟨h1, h2⟩, ⟨h3, h4⟩, h5⟩ := h
  refine ⟨by omega, by omega, fun i x hx => ?_, fun i y hy => ?_, List.eq_nil_of_length_eq_zero (by omega)⟩
  · have := List.all_eq_true.1 h1 i (List.mem_range.2 (List.getElem?_eq_some_iff.1 hx).1)
    unfold keyOk inNode at this
    rw [getS hx] at this
    simp only [Bool.and_eq_true, decide_eq_true_eq] at this
    omega
  · have := List.all_eq_true.1 h3 i (List.mem_range.2 (List.getElem?_eq_some_iff.1 hy).1)
    rw [getS hy] at this
    simp only [Bool.not_eq_true', decide_eq_false_iff_not] at this
    omega
theorem npOk_inner {K V : List ByteArray} {I : List Int} (h : nodeOk (false, K, V, I, ()) = true) : I.length = K.length + 1 ∧ 0 < K.length ∧ K.length ≤ 4 ∧ (∀ (i : Nat) x, K[i]? = some x → 1 ≤ x.size ∧ x.size ≤ 96) ∧ (∀ (i : Nat) y, I[i]? = some y → 0 ≤ y ∧ y ≤ 18) ∧ V = [] := by
  unfold nodeOk at h
  simp only [Bool.and_eq_true, decide_eq_true_eq, Bool.false_eq_true, if_false, beq_iff_eq] at h
  obtain ⟨⟨h1, h2⟩, ⟨⟨h3, h4⟩, h5⟩, h6⟩ := h
  refine ⟨by omega, by omega, by omega, fun i x hx => ?_, fun i y hy => ?_, List.eq_nil_of_length_eq_zero (by omega)⟩
  · have := List.all_eq_true.1 h1 i (List.mem_range.2 (List.getElem?_eq_some_iff.1 hx).1)
    unfold keyOk inNode at this
    rw [getS hx] at this
    simp only [Bool.and_eq_true, decide_eq_true_eq] at this
    omega
  · have := List.all_eq_true.1 h3 i (List.mem_range.2 (List.getElem?_eq_some_iff.1 hy).1)
    rw [getN hy] at this
    unfold inNode at this
    simp only [Bool.and_eq_true, decide_eq_true_eq] at this
    omega
theorem npZero_eq (n : NodeT) : npZero n = nodeZero n := rfl
theorem npOk_eq (n : NodeT) : npOk n = nodeOk n := rfl
theorem implNodePut_ev (n : NodeT) (h : okNode n) : Ev (fun k => F8 k n.1 n.2.1 n.2.2.1 n.2.2.2.1) ((npText n, ()), (((), (), (), (), ()), ())) := by
  refine Ev.step 1 (fun k => F8_eq k _ _ _ _) ?_
  unfold nodeputR
  dsimp only
  rw [Nat.ble_eq_true_of_le h.1, Nat.ble_eq_true_of_le h.2.1, Nat.ble_eq_true_of_le h.2.2]
  exact Ev.now _
end Go.Proofs.YtcolgghllacloaaDoor.R
end

section
/-! Rf, decimals: compared; the law's helpers. -/
set_option autoImplicit false
namespace Go.Proofs.YtcolgghllacloaaDoor.R
open Go.Rf
/-- a decimal in order: its number -/
def num (l : List Int) : Nat := (VI l).toNat
theorem num_spec {l : List Int} (h : InR l) : VI l = (num l : Int) := by
  have := VI_nonneg h
  unfold num
  omega
theorem digs_num {l : List Int} (h : InR l) (t : Trim l) : digs (num l) = l := digs_VI h t
theorem num_pos {neg : Bool} {l : List Int} (h : bOk neg l = true) (hn : neg = true) : 0 < num l := by
  obtain ⟨_, hr, ht, h0⟩ := bOk_of h
  have := VI_pos hr ht (fun e => by have := h0 e; rw [hn] at this; cases this)
  have := num_spec hr
  omega
theorem num_lt {l : List Int} (h : InR l) (hl : l.length ≤ 16) : num l < 10000 ^ 16 := by
  have h1 : VI l < ((10000 ^ l.length : Nat) : Int) := by
    rw [Int.natCast_pow]
    exact VI_lt h
  have h2 := num_spec h
  have h3 : (10000 : Nat) ^ l.length ≤ 10000 ^ 16 := Nat.pow_le_pow_right (by omega) hl
  exact Nat.lt_of_lt_of_le (by omega) h3
theorem at_len {V m : Nat} (hV : V < 10000 ^ 16) (hm : m ≤ 24) : (digs (V * 10 ^ m)).length ≤ 40 := by
  refine digs_len_le ?_
  have h1 : 10 ^ m ≤ 10 ^ 24 := Nat.pow_le_pow_right (by omega) hm
  have h2 : V * 10 ^ m ≤ V * 10 ^ 24 := Nat.mul_le_mul_left V h1
  have h3 : V * 10 ^ 24 < 10000 ^ 16 * 10 ^ 24 := Nat.mul_lt_mul_of_pos_right hV (Nat.pow_pos (by omega))
  have h4 : 10000 ^ 16 * 10 ^ 24 ≤ 10000 ^ 40 := by decide
  omega
/-- a sum with signs -/
def sSum (na : Bool) (A : Nat) (nb : Bool) (B : Nat) : Bool × Nat := if na = nb then (na, A + B) else if B ≤ A then (na, A - B) else (nb, B - A)
theorem cmpI_ge {A B : Nat} : decide (cmpI A B ≥ 0) = decide (B ≤ A) := by
  unfold cmpI
  split
  · rw [decide_eq_false (by omega), decide_eq_false (by omega)]
  · split
    · rw [decide_eq_true (by omega), decide_eq_true (by omega)]
    · rw [decide_eq_true (by omega), decide_eq_true (by omega)]
/-- numbers with signs compared -/
def sCmp (na : Bool) (A : Nat) (nb : Bool) (B : Nat) : Int := if na = nb then if na = true then cmpI B A else cmpI A B else if na = true then -1 else 1
theorem sSum_sCmp {na nb : Bool} {A B : Nat} (ha : na = true → 0 < A) (hb : nb = true → 0 < B) : (if (sSum na A (!nb) B).2 = 0 then 0 else if (sSum na A (!nb) B).1 = true then -1 else 1 : Int) = sCmp na A nb B := by
  unfold sSum sCmp
  cases na with
  | true =>
    have h1 := ha rfl
    cases nb with
    | true =>
      simp only [Bool.not_true, Bool.true_eq_false, if_false, if_true]
      rcases Nat.lt_trichotomy A B with h | h | h
      · rw [if_neg (show ¬ B ≤ A by omega), cmpI_gt h]
        simp only [Bool.false_eq_true, if_false]
        rw [if_neg (by omega)]
      · subst h
        simp [cmpI_eq]
      · rw [if_pos (show B ≤ A by omega), cmpI_lt h]
        simp only [if_true]
        rw [if_neg (by omega)]
    | false =>
      simp only [Bool.not_false, if_true, Bool.true_eq_false, if_false]
      rw [if_neg (by omega)]
  | false =>
    cases nb with
    | true =>
      have h2 := hb rfl
      simp only [Bool.not_true, if_true, Bool.false_eq_true, if_false]
      rw [if_neg (by omega)]
    | false =>
      simp only [Bool.not_false, Bool.false_eq_true, if_false, if_true]
      rcases Nat.lt_trichotomy A B with h | h | h
      · rw [if_neg (show ¬ B ≤ A by omega), cmpI_lt h]
        simp only [if_true]
        rw [if_neg (by omega)]
      · subst h
        simp [cmpI_eq]
      · rw [if_pos (show B ≤ A by omega), cmpI_gt h]
        simp only [Bool.false_eq_true, if_false]
        rw [if_neg (by omega)]
/-- how decimals in order compare -/
def dCmp (n1 : Bool) (l1 : List Int) (s1 : Nat) (n2 : Bool) (l2 : List Int) (s2 : Nat) : Int := sCmp n1 (num l1 * 10 ^ (max s1 s2 - s1)) n2 (num l2 * 10 ^ (max s1 s2 - s2))
section
variable {n1 n2 : Bool} {l1 l2 : List Int} {s1 s2 : Nat}
end
/-! ### the law's helpers -/
end Go.Proofs.YtcolgghllacloaaDoor.R
end

section
/-! Rf, decimals: added; fresh memory. -/
set_option autoImplicit false
set_option linter.unusedSimpArgs false
namespace Go.Proofs.YtcolgghllacloaaDoor.R
open Go.Rf
theorem VI_take_succ' {l : List Int} {i : Nat} : VI (l.take (i + 1)) = VI (l.take i) + l.getD i 0 * 10000 ^ i := by
  rcases Nat.lt_or_ge i l.length with h | h
  · exact VI_take_succ h
  · rw [List.take_of_length_le h, List.take_of_length_le (by omega), List.getD_eq_getElem?_getD, List.getElem?_eq_none h]
    simp
theorem getD0 {l : List Int} (h : InR l) (i : Nat) : 0 ≤ l.getD i 0 ∧ l.getD i 0 ≤ 9999 := by
  rcases Nat.lt_or_ge i l.length with h1 | h1
  · exact h.at h1
  · rw [List.getD_eq_getElem?_getD, List.getElem?_eq_none h1]
    exact ⟨Int.le_refl _, by decide⟩
theorem inrSnoc {l : List Int} {d : Int} (h : InR l) (hd : 0 ≤ d ∧ d ≤ 9999) : InR (l ++ [d]) := fun x hx => by
  rcases List.mem_append.1 hx with hx | hx
  · exact h x hx
  · rw [List.mem_singleton.1 hx]
    exact hd
theorem VI_snoc (l : List Int) (d : Int) : VI (l ++ [d]) = VI l + d * 10000 ^ l.length := by
  rw [VI_append]
  show VI l + 10000 ^ l.length * (d + 10000 * 0) = _
  grind
section
variable {a b : List Int}
end
def made (neg : Bool) (n : Nat) (s : Int) : (Bool × List Int × Int × Unit) × Int × Unit := if long (digs n) > 30 then ((false, [], 0, ()), 3, ()) else ((neg && decide (((digs n).length : Int) > 0), digs n, s, ()), 0, ())
theorem clone_int_ev (l : List Int) (h : l.length ≤ 1000000) : Ev (fun k => F35 k l) ((l, ()), ((), ())) := by
  have h1 : Ev (fun k => F58 k l) ((l, ()), ((), ())) := by
    refine Ev.step 2 (fun k => F58_eq k l) ?_
    have hc : decide (([] : List Int).length + l.length ≤ 17592186044416) = true := decide_eq_true (by simp; omega)
    simp only [hc, if_true, List.nil_append]
    cases l with
    | nil =>
      rw [bothK_same]
      exact Ev.now _
    | cons x l =>
      have : emptyL (x :: l) = false := rfl
      rw [this, bothK_false]
      exact Ev.now _
  have h2 : Ev (fun k => F57 k l) ((l, ()), ((), ())) := by
    refine Ev.step 2 (fun k => F57_eq k l) ?_
    simp only [beq_self_eq_true, Bool.and_self, if_true]
    exact Ev.now _
  exact Ev.step 2 (fun k => F35_eq k l) (Ev.bind h1 (Ev.bind h2 (Ev.now _)))
theorem figs_ge : ∀ {l : List Int}, InR l → l ≠ [] → 4 * l.length ≤ (figs l).length + 4
  | [], _, h => absurd rfl h
  | [d], _, _ => by simp
  | d :: e :: l, h, _ => by
    have h1 := figs_ge h.cons.2 (by simp)
    have h2 := fig4_len h.cons.1
    rw [figs, List.length_append, h2, List.length_cons]
    omega
theorem long_small {l : List Int} (h : InR l) (hl : ¬ long l > 30) : l.length ≤ 16 := by
  unfold long at hl
  by_cases h0 : l.length = 0
  · omega
  · rw [if_neg h0, textL_pos (fun e => h0 (by rw [e]; rfl)), bytes_size] at hl
    have := figs_ge h (fun e => h0 (by rw [e]; rfl))
    omega
theorem sSum_lt {na nb : Bool} {A B C : Nat} (ha : A < C) (hb : B < C) : (sSum na A nb B).2 < 2 * C := by
  unfold sSum
  split
  · show A + B < _
    omega
  · split
    · show A - B < _
      omega
    · show B - A < _
      omega
theorem at_lt {V m : Nat} (hV : V < 10000 ^ 16) (hm : m ≤ 24) : V * 10 ^ m < 10000 ^ 40 := by
  have h1 : 10 ^ m ≤ 10 ^ 24 := Nat.pow_le_pow_right (by omega) hm
  have h2 : V * 10 ^ m ≤ V * 10 ^ 24 := Nat.mul_le_mul_left V h1
  have h3 : V * 10 ^ 24 < 10000 ^ 16 * 10 ^ 24 := Nat.mul_lt_mul_of_pos_right hV (Nat.pow_pos (by omega))
  have h4 : 10000 ^ 16 * 10 ^ 24 ≤ 10000 ^ 40 := by decide
  omega
theorem sum_len {na nb : Bool} {A B : Nat} (ha : A < 10000 ^ 40) (hb : B < 10000 ^ 40) : (digs (sSum na A nb B).2).length ≤ 41 := by
  refine digs_len_le ?_
  have h1 := sSum_lt (na := na) (nb := nb) ha hb
  have h2 : 2 * 10000 ^ 40 ≤ 10000 ^ 41 := by
    rw [Nat.pow_succ]
    have : 0 < 10000 ^ 40 := Nat.pow_pos (by omega)
    omega
  omega
section
variable {n1 n2 : Bool} {l1 l2 : List Int} {s1 s2 : Nat}
end
/-! ### marks -/
def marks (b : Int) (l : List Int) : List Int := (List.range l.length).map fun (i : Nat) => b + (i : Int)
theorem marks_len (b : Int) (l : List Int) : (marks b l).length = l.length := by simp [marks]
theorem marks_at {b : Int} {l : List Int} {i : Nat} (h : i < l.length) : (marks b l).getD i 0 = b + i := by
  rw [List.getD_eq_getElem?_getD]
  unfold marks
  rw [List.getElem?_map, List.getElem?_range h]
  rfl
end Go.Proofs.YtcolgghllacloaaDoor.R
end

section
/-! Rf: division of limbs: both divisions come to the quotient and the rest. -/
set_option autoImplicit false
set_option linter.unusedSimpArgs false
set_option linter.unusedVariables false
namespace Go.Proofs.YtcolgghllacloaaDoor.R
open Go.Rf
theorem u64_small {x : Int} (h0 : 0 ≤ x) (h1 : x ≤ 9999) : IntKind.u64.wrap x = x := by
  unfold IntKind.wrap
  simp [IntKind.bits, IntKind.signed]
  omega
theorem mid_eq {lo hi : Nat} (h : hi ≤ 10000) (hl : lo ≤ 10000) : IntKind.i64.wrap ((IntKind.i64.wrap ((IntKind.i64.wrap ((lo : Int) + (hi : Int))) + (1 : Int))).tdiv (2 : Int)) = (((lo + hi + 1) / 2 : Nat) : Int) := by
  rw [wrap64 (n := (lo : Int) + (hi : Int)) (by omega) (by omega), wrap64 (n := (lo : Int) + (hi : Int) + 1) (by omega) (by omega), Int.tdiv_eq_ediv_of_nonneg (by omega), wrap64 (by omega) (by omega)]
  omega
theorem mid_eq0 {lo hi : Nat} (h : hi ≤ 10000) (hl : lo ≤ 10000) : IntKind.i64.wrap ((IntKind.i64.wrap ((lo : Int) + (hi : Int))).tdiv (2 : Int)) = (((lo + hi) / 2 : Nat) : Int) := by
  rw [wrap64 (n := (lo : Int) + (hi : Int)) (by omega) (by omega), Int.tdiv_eq_ediv_of_nonneg (by omega), wrap64 (by omega) (by omega)]
  omega
theorem digs_InR (n : Nat) : InR (digs n) := (digs_spec n).1
theorem digs_Trim (n : Nat) : Trim (digs n) := (digs_spec n).2.1
theorem InR.one {d : Int} (h : 0 ≤ d ∧ d ≤ 9999) : InR [d] := InR.mk h InR.nil
theorem VI_one (d : Int) : VI [d] = d := by
  show d + 10000 * 0 = d
  omega
theorem cmpI_le {a b : Nat} : decide (cmpI a b ≤ 0) = decide (a ≤ b) := by
  unfold cmpI
  split
  · rw [decide_eq_true (by omega), decide_eq_true (by omega)]
  · split
    · rw [decide_eq_true (by omega), decide_eq_true (by omega)]
    · rw [decide_eq_false (by omega), decide_eq_false (by omega)]
section
variable {b : List Int} {B X : Nat}
theorem BN_len (hb : InR b) (lb : b.length ≤ 1000) (hB : VI b = (B : Int)) {n : Nat} (hn : n ≤ 10000) : (digs (B * n)).length ≤ 1001 := by
  have h1 := VI_lt hb
  rw [hB] at h1
  have h2 : B < 10000 ^ b.length := by
    have : ((B : Nat) : Int) < ((10000 ^ b.length : Nat) : Int) := by rw [Int.natCast_pow]; exact h1
    omega
  have h3 : B * n < 10000 ^ (b.length + 1) := by
    rw [Nat.pow_succ]
    exact Nat.lt_of_le_of_lt (Nat.mul_le_mul_left B hn) (Nat.mul_lt_mul_of_pos_right h2 (by omega))
  have := digs_len_le h3
  omega
theorem quo_of {n : Nat} (h1 : B * n ≤ X) (h2 : X < B * (n + 1)) : n = X / B := by
  have hp : 0 < B := by
    rcases Nat.eq_zero_or_pos B with h | h
    · subst h; omega
    · exact h
  symm
  rw [Nat.div_eq_iff hp]
  constructor
  · rw [Nat.mul_comm]; omega
  · rw [Nat.mul_comm]
    have : B * (n + 1) = B * n + B := Nat.mul_succ B n
    omega
end
end Go.Proofs.YtcolgghllacloaaDoor.R
end

section
/-! Rf: quotients that are rounded; the least scale. -/
set_option autoImplicit false
set_option linter.unusedSimpArgs false
set_option linter.unusedVariables false
namespace Go.Proofs.YtcolgghllacloaaDoor.R
open Go.Rf
theorem len_gt (n : Nat) : decide (((digs n).length : Int) > 0) = decide (n ≠ 0) := by
  by_cases h : n = 0
  · subst h
    rw [digs_zero]; rfl
  · rw [digs_pos h]
    rw [decide_eq_true h, decide_eq_true (by simp)]
theorem len_is0 (n : Nat) : (((digs n).length : Int) == 0) = decide (n = 0) := by
  by_cases h : n = 0
  · subst h
    rw [digs_zero]; rfl
  · rw [digs_pos h, decide_eq_false h, beq_eq_false_iff_ne]
    simp; omega
/-- whether what is left is rounded away from nought -/
def rmore (mode : Int) (neg odd : Bool) (half : Int) : Bool := if mode = 1 then true else if mode = 2 then false else if mode = 3 then !neg else if mode = 4 then neg else if mode = 5 then decide (half ≥ 0) else if mode = 6 then decide (half > 0) else (decide (half > 0) || (half == 0 && odd))
/-- a quotient that is rounded -/
def rquo (neg : Bool) (V D : Nat) (mode : Int) : Nat := if V % D = 0 then V / D else if rmore mode neg (decide (V / D % 2 = 1)) (cmpI (V % D + V % D) D) = true then V / D + 1 else V / D
def trimN : Nat → Nat → Nat × Nat
  | V, 0 => (V, 0)
  | V, s + 1 => if V % 10 = 0 then trimN (V / 10) s else (V, s + 1)
theorem div10_len {V : Nat} {m : Nat} (h : (digs V).length ≤ m) : (digs (V / 10)).length ≤ m := by
  have h1 := VI_lt (digs_InR V)
  rw [VI_digs] at h1
  have h2 : V < 10000 ^ (digs V).length := by
    have : ((V : Nat) : Int) < ((10000 ^ (digs V).length : Nat) : Int) := by rw [Int.natCast_pow]; exact h1
    omega
  have := digs_len_le (Nat.lt_of_le_of_lt (Nat.div_le_self V 10) h2)
  omega
/-- a decimal at its least scale -/
def dTrim (n : Bool) (l : List Int) (s : Int) : Bool × List Int × Int × Unit := if decOk n l s = true then (n, digs (trimN (num l) s.toNat).1, ((trimN (num l) s.toNat).2 : Int), ()) else (false, [], 0, ())
end Go.Proofs.YtcolgghllacloaaDoor.R
end

section
/-! Rf: rounding to a scale. -/
set_option autoImplicit false
set_option linter.unusedSimpArgs false
set_option linter.unusedVariables false
namespace Go.Proofs.YtcolgghllacloaaDoor.R
open Go.Rf
theorem made_len1 {neg : Bool} {n : Nat} {s : Int} (h : (digs n).length ≤ 1000) : (made neg n s).1.2.1.length ≤ 1000 := by
  unfold made
  split
  · show ([] : List Int).length ≤ 1000
    simp
  · exact h
theorem pow_len {V m : Nat} (hV : V < 10000 ^ 16) (hm : m ≤ 24) : (digs (V * 10 ^ m)).length ≤ 40 := digs_len_le (at_lt hV hm)
/-- what is not in order -/
def dForm : (Bool × List Int × Int × Unit) × Int × Unit := ((false, [], 0, ()), 1, ())
/-- a decimal rounded to a scale -/
def dRound (n : Bool) (l : List Int) (s sc mode : Int) : (Bool × List Int × Int × Unit) × Int × Unit := if decOk n l s = true ∧ within sc 0 12 = true ∧ within mode 1 7 = true then
  (if s.toNat ≤ sc.toNat then made n (num l * 10 ^ (sc.toNat - s.toNat)) sc else made n (rquo n (num l) (10 ^ (s.toNat - sc.toNat)) mode) sc) else dForm
end Go.Proofs.YtcolgghllacloaaDoor.R
end

section
/-! Rf: products of decimals. -/
set_option autoImplicit false
set_option linter.unusedSimpArgs false
set_option linter.unusedVariables false
namespace Go.Proofs.YtcolgghllacloaaDoor.R
open Go.Rf
def dMul (n1 : Bool) (l1 : List Int) (s1 : Int) (n2 : Bool) (l2 : List Int) (s2 : Int) : (Bool × List Int × Int × Unit) × Int × Unit := if decOk n1 l1 s1 = true ∧ decOk n2 l2 s2 = true then
  (if s1 + s2 > 12 then made (!(n1 == n2)) (rquo (!(n1 == n2)) (num l1 * num l2) (10 ^ (s1.toNat + s2.toNat - 12)) 7) 12 else made (!(n1 == n2)) (num l1 * num l2) (s1 + s2)) else dForm
section
variable (n1 : Bool) (l1 : List Int) (s1 : Int) (n2 : Bool) (l2 : List Int) (s2 : Int)
end
end Go.Proofs.YtcolgghllacloaaDoor.R
end

section
/-! Rf, decimals: sums and differences, on both sides. -/
set_option autoImplicit false
set_option linter.unusedSimpArgs false
namespace Go.Proofs.YtcolgghllacloaaDoor.R
open Go.Rf
theorem made_len {neg : Bool} {n : Nat} {s : Int} (h : (digs n).length ≤ 100) : (made neg n s).1.2.1.length ≤ 1000 := by
  unfold made
  split
  · show ([] : List Int).length ≤ 1000
    simp
  · show (digs n).length ≤ 1000
    omega
theorem sSum_zero {na nb : Bool} {A : Nat} : sSum na A nb 0 = (na, A) := by
  unfold sSum
  split
  · rfl
  · rw [if_pos (Nat.zero_le _)]
    rfl
section
variable (n1 : Bool) (l1 : List Int) (s1 : Int) (n2 : Bool) (l2 : List Int) (s2 : Int)
/-- the sum of decimals; nb: the second's sign (turned where they are taken from each other) -/
def dSum (n1 : Bool) (l1 : List Int) (s1 : Int) (n2 : Bool) (l2 : List Int) (s2 : Int) (nb : Bool) : (Bool × List Int × Int × Unit) × Int × Unit := if decOk n1 l1 s1 = true ∧ decOk n2 l2 s2 = true then
  made (sSum n1 (num l1 * 10 ^ (max s1.toNat s2.toNat - s1.toNat)) nb (num l2 * 10 ^ (max s1.toNat s2.toNat - s2.toNat))).1 (sSum n1 (num l1 * 10 ^ (max s1.toNat s2.toNat - s1.toNat)) nb (num l2 * 10 ^ (max s1.toNat s2.toNat - s2.toNat))).2 ((max s1.toNat s2.toNat : Nat) : Int) else ((false, [], 0, ()), 1, ())
end
end Go.Proofs.YtcolgghllacloaaDoor.R
end

section
/-! Rf: decimals as whole numbers with a scale. -/
set_option autoImplicit false
set_option linter.unusedSimpArgs false
set_option linter.unusedVariables false
namespace Go.Proofs.YtcolgghllacloaaDoor.R
open Go.Rf
/-! ### figures -/
theorem decDigits_le : ∀ (k u : Nat), (Lib.decDigits u).length ≤ k + 1 → u < 10 ^ (k + 1)
  | 0, u, h => by
    by_cases hu : u < 10
    · simpa using hu
    · rw [Lib.decDigits, dif_neg hu, List.length_append] at h
      have : 0 < (Lib.decDigits (u / 10)).length := by
        rw [Lib.decDigits]; split <;> simp
      simp only [List.length_singleton] at h; omega
  | k + 1, u, h => by
    by_cases hu : u < 10
    · have : (1 : Nat) ≤ 10 ^ (k + 1) := Nat.pow_pos (by omega)
      rw [Nat.pow_succ]; omega
    · rw [Lib.decDigits, dif_neg hu, List.length_append] at h
      have := decDigits_le k (u / 10) (by simpa using h)
      rw [Nat.pow_succ]; omega
theorem dd1 {n : Nat} (h : n < 10) : Lib.decDigits n = [UInt8.ofNat (48 + n)] := by rw [Lib.decDigits, dif_pos h]
theorem ddS {n : Nat} (h : ¬ n < 10) : Lib.decDigits n = Lib.decDigits (n / 10) ++ [UInt8.ofNat (48 + n % 10)] := by rw [Lib.decDigits, dif_neg h]
theorem fig4_nat {n : Nat} (h : n < 10000) : fig4 (n : Int) = [UInt8.ofNat (48 + n / 1000), UInt8.ofNat (48 + n / 100 % 10), UInt8.ofNat (48 + n / 10 % 10), UInt8.ofNat (48 + n % 10)] := by
  rw [fig4, itoa_nat]
  by_cases h1 : n < 10
  · rw [dd1 h1, show n / 1000 = 0 by omega, show n / 100 = 0 by omega, show n / 10 = 0 by omega, show n % 10 = n by omega]
    rfl
  · by_cases h2 : n < 100
    · rw [ddS h1, dd1 (show n / 10 < 10 by omega), show n / 1000 = 0 by omega, show n / 100 = 0 by omega, show n / 10 % 10 = n / 10 by omega]
      rfl
    · by_cases h3 : n < 1000
      · rw [ddS h1, ddS (show ¬ n / 10 < 10 by omega), dd1 (show n / 10 / 10 < 10 by omega), show n / 1000 = 0 by omega, show n / 10 / 10 = n / 100 by omega, show n / 100 % 10 = n / 100 by omega]
        rfl
      · rw [ddS h1, ddS (show ¬ n / 10 < 10 by omega), ddS (show ¬ n / 10 / 10 < 10 by omega), dd1 (show n / 10 / 10 / 10 < 10 by omega), show n / 10 / 10 / 10 = n / 1000 by omega, show n / 10 / 10 = n / 100 by omega]
        rfl
theorem dd4 {n : Nat} (h : 10000 ≤ n) : Lib.decDigits n = Lib.decDigits (n / 10000) ++ fig4 ((n % 10000 : Nat) : Int) := by
  rw [fig4_nat (Nat.mod_lt _ (by omega)), ddS (show ¬ n < 10 by omega), ddS (show ¬ n / 10 < 10 by omega), ddS (show ¬ n / 10 / 10 < 10 by omega), ddS (show ¬ n / 10 / 10 / 10 < 10 by omega)]
  rw [show n / 10 / 10 / 10 / 10 = n / 10000 by omega, show n / 10 / 10 / 10 % 10 = n % 10000 / 1000 by omega, show n / 10 / 10 % 10 = n % 10000 / 100 % 10 by omega, show n / 10 % 10 = n % 10000 / 10 % 10 by omega, show n % 10 = n % 10000 % 10 by omega]
  simp only [List.append_assoc, List.singleton_append, List.cons_append, List.nil_append]
theorem figs_digs (n : Nat) (h : 0 < n) : figs (digs n) = Lib.decDigits n := by
  induction n using Nat.strongRecOn with
  | _ n ih =>
    rw [digs_pos (by omega)]
    by_cases h2 : n / 10000 = 0
    · rw [h2, digs_zero]
      show Lib.itoa _ = _
      rw [itoa_nat, show n % 10000 = n by omega]
    · have := ih (n / 10000) (by omega) (by omega)
      rw [dd4 (by omega), ← this]
      rw [digs_pos h2]
      rfl
theorem textL_digs (n : Nat) : textL (digs n) = ⟨(Lib.decDigits n).toArray⟩ := by
  by_cases h : n = 0
  · subst h
    rw [digs_zero, dd1 (by omega)]
    rfl
  · rw [textL_pos (by rw [digs_pos h]; simp), figs_digs n (by omega)]
theorem long_digs (n : Nat) : long (digs n) = if n = 0 then 0 else ((Lib.decDigits n).length : Int) := by
  unfold long
  by_cases h : n = 0
  · subst h; rw [digs_zero]; rfl
  · rw [if_neg h, if_neg (by rw [digs_pos h]; simp), textL_digs]
    rfl
theorem long30 (n : Nat) : long (digs n) > 30 ↔ ¬ n < 10 ^ 30 := by
  rw [long_digs]
  have h1 := decDigits_le 29 n
  have h2 := decDigits_len 29 n
  have h3 : (0 : Nat) < 10 ^ 30 := Nat.pow_pos (by omega)
  split
  · subst_vars
    constructor
    · intro h; omega
    · intro h; omega
  · constructor
    · intro h h'
      have := h2 h'
      omega
    · intro h
      have : ¬ (Lib.decDigits n).length ≤ 29 + 1 := fun h' => h (h1 h')
      omega
theorem lt30_16 {n : Nat} (h : n < 10 ^ 30) : n < 10000 ^ 16 := by
  have : (10 : Nat) ^ 30 < 10000 ^ 16 := by decide
  omega
theorem len16 {n : Nat} (h : n < 10 ^ 30) : (digs n).length ≤ 16 := digs_len_le (lt30_16 h)
theorem num_digs (n : Nat) : num (digs n) = n := by unfold num; rw [VI_digs]; rfl
/-! ### decimals -/
def sg (n : Bool) (A : Nat) : Int := if n = true then -(A : Int) else A
def D (z : Int) (s : Nat) : Bool × List Int × Int × Unit := (decide (z < 0), digs z.natAbs, (s : Int), ())
def mk (z : Int) (s : Nat) : (Bool × List Int × Int × Unit) × Int × Unit := if z.natAbs < 10 ^ 30 then (D z s, 0, ()) else ((false, [], 0, ()), 3, ())
theorem D_zero : D 0 0 = (false, [], 0, ()) := by
  unfold D
  rw [show (0 : Int).natAbs = 0 from rfl, digs_zero]
  rfl
theorem bOk_digs (z : Int) (h : z.natAbs < 10000 ^ 16) : bOk (decide (z < 0)) (digs z.natAbs) = true := by
  unfold bOk lastOk
  have h1 := digs_len_le h
  have h2 := digs_spec z.natAbs
  simp only [Bool.and_eq_true, decide_eq_true_eq]
  refine ⟨⟨h1, rangeOk_iff.2 h2.1⟩, ?_⟩
  by_cases h0 : z = 0
  · subst h0; rw [show (0 : Int).natAbs = 0 from rfl, digs_zero]; rfl
  · have hne : digs z.natAbs ≠ [] := fun e => h0 (by rw [digs_nil] at e; omega)
    rw [if_neg (fun e => hne (List.length_eq_zero_iff.1 e))]
    rcases h2.2.1 with h3 | h3
    · exact absurd h3 hne
    · exact bne_iff_ne.2 h3
theorem decOk_D {z : Int} {s : Nat} (h : z.natAbs < 10 ^ 30) (hs : s ≤ 12) : decOk (decide (z < 0)) (digs z.natAbs) (s : Int) = true := by
  unfold decOk
  rw [bOk_digs z (lt30_16 h), Bool.true_and, Bool.and_eq_true, decide_eq_true_eq]
  refine ⟨?_, ?_⟩
  · have h5 : ¬ long (digs z.natAbs) > 30 := fun h' => (long30 z.natAbs).1 h' h
    omega
  · unfold within
    simp; omega
theorem bOk_ex {n : Bool} {l : List Int} (h : bOk n l = true) : ∃ z : Int, n = decide (z < 0) ∧ l = digs z.natAbs ∧ z.natAbs < 10000 ^ 16 := by
  obtain ⟨h16, hr, ht, h0⟩ := bOk_of h
  refine ⟨sg n (num l), ?_, ?_, ?_⟩
  · unfold sg
    cases n with
    | false => simp
    | true =>
      have : l ≠ [] := fun e => by have := h0 e; cases this
      have := VI_pos hr ht this
      have h3 := num_spec hr
      simp; omega
  · have : (sg n (num l)).natAbs = num l := by unfold sg; split <;> omega
    rw [this, digs_num hr ht]
  · have : (sg n (num l)).natAbs = num l := by unfold sg; split <;> omega
    rw [this]
    have h1 := VI_lt hr
    rw [num_spec hr] at h1
    have h2 : num l < 10000 ^ l.length := by
      have : ((num l : Nat) : Int) < ((10000 ^ l.length : Nat) : Int) := by rw [Int.natCast_pow]; exact h1
      omega
    have h3 : 10000 ^ l.length ≤ 10000 ^ 16 := Nat.pow_le_pow_right (by omega) h16
    omega
theorem decOk_ex {n : Bool} {l : List Int} {s : Int} (h : decOk n l s = true) : ∃ (z : Int) (t : Nat), n = decide (z < 0) ∧ l = digs z.natAbs ∧ s = (t : Int) ∧ z.natAbs < 10 ^ 30 ∧ t ≤ 12 := by
  obtain ⟨h1, h2, t, h3, h4⟩ := decOk_of h
  obtain ⟨z, rfl, rfl, _⟩ := bOk_ex h1
  refine ⟨z, t, rfl, rfl, h3, ?_, h4⟩
  have h5 : ¬ ¬ z.natAbs < 10 ^ 30 := fun h' => by have := (long30 z.natAbs).2 h'; omega
  exact Decidable.not_not.1 h5
theorem sg_abs (n : Bool) (A : Nat) : (sg n A).natAbs = A := by unfold sg; split <;> omega
theorem made_mk (n : Bool) (A s : Nat) : made n A (s : Int) = mk (sg n A) s := by
  unfold made mk
  rw [sg_abs]
  have h := long30 A
  by_cases hA : A < 10 ^ 30
  · rw [if_neg (fun h' => h.1 h' hA), if_pos hA]
    unfold D
    rw [sg_abs, len_gt]
    have : (n && decide (A ≠ 0)) = decide (sg n A < 0) := by
      unfold sg
      cases n with
      | false => simp
      | true =>
        simp only [Bool.true_and, if_true]
        congr 1
        exact propext ⟨fun h => by omega, fun h => by omega⟩
    rw [this]
  · rw [if_pos (h.2 hA), if_neg hA]
theorem sg_sum (na : Bool) (A : Nat) (nb : Bool) (B : Nat) : sg (sSum na A nb B).1 (sSum na A nb B).2 = sg na A + sg nb B := by
  unfold sSum
  split
  · subst_vars
    unfold sg
    split <;> simp <;> omega
  · split
    · rename_i h1 h2
      unfold sg
      cases na <;> cases nb <;> simp_all <;> omega
    · rename_i h1 h2
      unfold sg
      cases na <;> cases nb <;> simp_all <;> omega
theorem sg_D (z : Int) : sg (decide (z < 0)) z.natAbs = z := by
  unfold sg
  by_cases h : z < 0
  · rw [if_pos (decide_eq_true h)]; omega
  · rw [if_neg (by simpa using h)]; omega
theorem sg_Dn (z : Int) : sg (!decide (z < 0)) z.natAbs = -z := by
  unfold sg
  by_cases h : z < 0
  · rw [decide_eq_true h]; simp; omega
  · rw [decide_eq_false h]; simp; omega
theorem sg_mul (n : Bool) (A k : Nat) : sg n (A * k) = sg n A * k := by
  unfold sg
  split
  · rw [Int.natCast_mul, Int.neg_mul]
  · rw [Int.natCast_mul]
theorem dSum_D {z1 z2 : Int} {s1 s2 : Nat} (h1 : z1.natAbs < 10 ^ 30) (h2 : z2.natAbs < 10 ^ 30) (t1 : s1 ≤ 12) (t2 : s2 ≤ 12) :
    dSum (decide (z1 < 0)) (digs z1.natAbs) (s1 : Int) (decide (z2 < 0)) (digs z2.natAbs) (s2 : Int) (decide (z2 < 0)) = mk (z1 * 10 ^ (max s1 s2 - s1) + z2 * 10 ^ (max s1 s2 - s2)) (max s1 s2) := by
  unfold dSum
  rw [if_pos ⟨decOk_D h1 t1, decOk_D h2 t2⟩, Int.toNat_natCast, Int.toNat_natCast, made_mk, sg_sum, sg_mul, sg_mul, num_digs, num_digs, sg_D, sg_D]
  simp only [Int.natCast_pow]
  rfl
theorem dSub_D {z1 z2 : Int} {s1 s2 : Nat} (h1 : z1.natAbs < 10 ^ 30) (h2 : z2.natAbs < 10 ^ 30) (t1 : s1 ≤ 12) (t2 : s2 ≤ 12) :
    dSum (decide (z1 < 0)) (digs z1.natAbs) (s1 : Int) (decide (z2 < 0)) (digs z2.natAbs) (s2 : Int) (!decide (z2 < 0)) = mk (z1 * 10 ^ (max s1 s2 - s1) - z2 * 10 ^ (max s1 s2 - s2)) (max s1 s2) := by
  unfold dSum
  rw [if_pos ⟨decOk_D h1 t1, decOk_D h2 t2⟩, Int.toNat_natCast, Int.toNat_natCast, made_mk, sg_sum, sg_mul, sg_mul, num_digs, num_digs, sg_D, sg_Dn]
  simp only [Int.natCast_pow, Int.neg_mul]
  rfl
def cmpZ (x y : Int) : Int := if x < y then -1 else if x = y then 0 else 1
theorem sCmp_sg {na nb : Bool} {A B : Nat} (ha : na = true → 0 < A) (hb : nb = true → 0 < B) : sCmp na A nb B = cmpZ (sg na A) (sg nb B) := by
  unfold sCmp cmpZ sg cmpI
  cases na <;> cases nb <;> simp at ha hb ⊢ <;> (repeat' split) <;> omega
theorem pow10_pos (k : Nat) : (0 : Int) < 10 ^ k := Int.pow_pos (by omega)
theorem dCmp_D {z1 z2 : Int} {s1 s2 : Nat} : dCmp (decide (z1 < 0)) (digs z1.natAbs) s1 (decide (z2 < 0)) (digs z2.natAbs) s2 = cmpZ (z1 * 10 ^ (max s1 s2 - s1)) (z2 * 10 ^ (max s1 s2 - s2)) := by
  unfold dCmp
  rw [num_digs, num_digs, sCmp_sg, sg_mul, sg_mul, sg_D, sg_D]
  · simp only [Int.natCast_pow]; rfl
  · intro h
    have : z1 < 0 := by simpa using h
    exact Nat.mul_pos (by omega) (Nat.pow_pos (by omega))
  · intro h
    have : z2 < 0 := by simpa using h
    exact Nat.mul_pos (by omega) (Nat.pow_pos (by omega))
/-- a quotient that is rounded, with sign -/
def rdiv (mode : Int) (z : Int) (d : Nat) : Int := sg (decide (z < 0)) (rquo (decide (z < 0)) z.natAbs d mode)
theorem dRound_D {z : Int} {s sc : Nat} {mode : Int} (h : z.natAbs < 10 ^ 30) (t : s ≤ 12) (hc : sc ≤ 12) (hm : 1 ≤ mode ∧ mode ≤ 7) :
    dRound (decide (z < 0)) (digs z.natAbs) (s : Int) (sc : Int) mode = if s ≤ sc then mk (z * 10 ^ (sc - s)) sc else mk (rdiv mode z (10 ^ (s - sc))) sc := by
  unfold dRound
  rw [if_pos ⟨decOk_D h t, by unfold within; simp; omega, by unfold within; simp; omega⟩, Int.toNat_natCast, Int.toNat_natCast]
  split
  · rw [made_mk, sg_mul, num_digs, sg_D]
    simp only [Int.natCast_pow]; rfl
  · rw [made_mk, num_digs]
    rfl
theorem sg_neg_zero (n : Bool) : sg n 0 = 0 := by unfold sg; split <;> rfl
theorem rquo_zero (n : Bool) (d : Nat) (mode : Int) : rquo n 0 d mode = 0 := by unfold rquo; simp
theorem neg_mul_lt {x y : Int} (hx : x < 0) (hy : 0 < y) : x * y < 0 := Int.mul_neg_of_neg_of_pos hx hy
/-- the sign of a product -/
theorem mul_neg (x y : Int) (h : x * y ≠ 0) : (!(decide (x < 0) == decide (y < 0))) = decide (x * y < 0) := by
  have hx : x ≠ 0 := fun e => h (by rw [e]; simp)
  have hy : y ≠ 0 := fun e => h (by rw [e]; simp)
  by_cases h1 : x < 0 <;> by_cases h2 : y < 0
  · have := Int.mul_pos_of_neg_of_neg h1 h2
    simp [h1, h2]; omega
  · have := Int.mul_neg_of_neg_of_pos h1 (show 0 < y by omega)
    simp [h1, h2]; omega
  · have := Int.mul_neg_of_pos_of_neg (show 0 < x by omega) h2
    simp [h1, h2]; omega
  · have := Int.mul_pos (show 0 < x by omega) (show 0 < y by omega)
    simp [h1, h2]; omega
theorem sg_prod (x y : Int) : sg (!(decide (x < 0) == decide (y < 0))) (x.natAbs * y.natAbs) = x * y := by
  rw [← Int.natAbs_mul]
  by_cases h : x * y = 0
  · rw [h]; exact sg_neg_zero _
  · rw [mul_neg x y h, sg_D]
theorem rdiv_prod (x y : Int) (d : Nat) (mode : Int) : sg (!(decide (x < 0) == decide (y < 0))) (rquo (!(decide (x < 0) == decide (y < 0))) (x.natAbs * y.natAbs) d mode) = rdiv mode (x * y) d := by
  rw [← Int.natAbs_mul]
  by_cases h : x * y = 0
  · rw [h]
    unfold rdiv
    rw [show (0 : Int).natAbs = 0 from rfl, rquo_zero, rquo_zero, sg_neg_zero, sg_neg_zero]
  · rw [mul_neg x y h]
    rfl
theorem dMul_D {z1 z2 : Int} {s1 s2 : Nat} (h1 : z1.natAbs < 10 ^ 30) (h2 : z2.natAbs < 10 ^ 30) (t1 : s1 ≤ 12) (t2 : s2 ≤ 12) :
    dMul (decide (z1 < 0)) (digs z1.natAbs) (s1 : Int) (decide (z2 < 0)) (digs z2.natAbs) (s2 : Int) = if s1 + s2 > 12 then mk (rdiv 7 (z1 * z2) (10 ^ (s1 + s2 - 12))) 12 else mk (z1 * z2) (s1 + s2) := by
  unfold dMul
  rw [if_pos ⟨decOk_D h1 t1, decOk_D h2 t2⟩, Int.toNat_natCast, Int.toNat_natCast, num_digs, num_digs]
  by_cases h : s1 + s2 > 12
  · rw [if_pos (by omega), if_pos h, show (12 : Int) = ((12 : Nat) : Int) from rfl, made_mk, rdiv_prod]
  · rw [if_neg (by omega), if_neg h, ← Int.natCast_add, made_mk, sg_prod]
theorem trimN_spec : ∀ (s V : Nat), (trimN V s).2 ≤ s ∧ (trimN V s).1 * 10 ^ (s - (trimN V s).2) = V ∧ ((trimN V s).2 = 0 ∨ (trimN V s).1 % 10 ≠ 0)
  | 0, V => by simp [trimN]
  | s + 1, V => by
    rw [trimN]
    split
    · obtain ⟨h1, h2, h3⟩ := trimN_spec s (V / 10)
      refine ⟨by omega, ?_, h3⟩
      rw [show s + 1 - (trimN (V / 10) s).2 = (s - (trimN (V / 10) s).2) + 1 by omega, Nat.pow_succ, ← Nat.mul_assoc, h2]
      omega
    · exact ⟨Nat.le_refl _, by simp, .inr (by assumption)⟩
theorem trimN_same {s V : Nat} (h : s = 0 ∨ V % 10 ≠ 0) : trimN V s = (V, s) := by
  cases s with
  | zero => rfl
  | succ s =>
    rw [trimN, if_neg (by omega)]
theorem dTrim_D {z : Int} {s : Nat} (h : z.natAbs < 10 ^ 30) (t : s ≤ 12) : ∃ (y : Int) (r : Nat), dTrim (decide (z < 0)) (digs z.natAbs) (s : Int) = D y r ∧ y.natAbs < 10 ^ 30 ∧ r ≤ s ∧ y * 10 ^ (s - r) = z ∧ (r = 0 ∨ y % 10 ≠ 0) := by
  obtain ⟨h1, h2, h3⟩ := trimN_spec s z.natAbs
  refine ⟨sg (decide (z < 0)) (trimN z.natAbs s).1, (trimN z.natAbs s).2, ?_, ?_, h1, ?_, ?_⟩
  · unfold dTrim
    rw [if_pos (decOk_D h t), Int.toNat_natCast, num_digs]
    unfold D
    rw [sg_abs]
    refine Prod.ext ?_ rfl
    show decide (z < 0) = decide (sg _ _ < 0)
    unfold sg
    by_cases hz : z < 0
    · have : (trimN z.natAbs s).1 ≠ 0 := fun e => by rw [e, Nat.zero_mul] at h2; omega
      simp [hz]; omega
    · simp [hz]
  · rw [sg_abs]
    have : (trimN z.natAbs s).1 ≤ z.natAbs := by
      conv => rhs; rw [← h2]
      exact Nat.le_mul_of_pos_right _ (Nat.pow_pos (by omega))
    omega
  · have : sg (decide (z < 0)) ((trimN z.natAbs s).1 * 10 ^ (s - (trimN z.natAbs s).2)) = z := by rw [h2, sg_D]
    rw [sg_mul, Int.natCast_pow] at this
    exact this
  · rcases h3 with h3 | h3
    · exact .inl h3
    · right
      unfold sg
      split <;> omega
theorem dTrim_same {z : Int} {s : Nat} (h : z.natAbs < 10 ^ 30) (t : s ≤ 12) (h3 : s = 0 ∨ z % 10 ≠ 0) : dTrim (decide (z < 0)) (digs z.natAbs) (s : Int) = D z s := by
  unfold dTrim
  rw [if_pos (decOk_D h t), Int.toNat_natCast, num_digs, trimN_same (by rcases h3 with h3 | h3; exact .inl h3; right; omega)]
  rfl
end Go.Proofs.YtcolgghllacloaaDoor.R
end

section
/-! Rf: values in order, types in order. -/
set_option autoImplicit false
set_option linter.unusedSimpArgs false
set_option linter.unusedVariables false
namespace Go.Proofs.YtcolgghllacloaaDoor.R
open Go.Rf
def bAt (s : ByteArray) (i : Nat) : Int := match s[i]? with
  | some u => (u.toNat : Int)
  | none => 0
theorem byteAt {s : ByteArray} {i : Nat} (h : i < s.size) : ∃ u : UInt8, s[i]? = some u ∧ bAt s i = (u.toNat : Int) := by
  have : s[i]? = some s[i] := getElem?_pos s i h
  exact ⟨s[i], this, by unfold bAt; rw [this]⟩
def figOk (s : ByteArray) : Bool := (List.range s.size).all fun i => within (bAt s i) 32 126
def textOk (s : ByteArray) : Bool := decide ((s.size : Int) ≤ 12) && figOk s
def noText (s : ByteArray) : Bool := s.toList == (⟨#[]⟩ : ByteArray).toList
def decZ (n : Bool) (l : List Int) (s : Int) : Bool := !n && (((l.length : Int) == 0) && (s == 0))
def dayOk (d : Int) : Bool := within d 1 3652059
def spanOk (m d : Int) : Bool := within m (-120000) 120000 && within d (-4000000) 4000000
/-- nothing but what the kind bears -/
def bareOk (k : Int) (y n : Bool) (l : List Int) (s day mo da : Int) (t : ByteArray) : Bool := ((k == 1) || !y) && (((k == 2) || decZ n l s) && (((k == 3) || (day == 0)) && (((k == 4) || ((mo == 0) && (da == 0))) && ((k == 5) || noText t))))
def bodyOk (k : Int) (n : Bool) (l : List Int) (s day mo da : Int) (t : ByteArray) : Bool := if k = 2 then decOk n l s else if k = 3 then dayOk day else if k = 4 then spanOk mo da else if k = 5 then textOk t else true
def vOk (k : Int) (y n : Bool) (l : List Int) (s day mo da : Int) (t : ByteArray) : Bool := within k 0 5 && (bareOk k y n l s day mo da t && bodyOk k n l s day mo da t)
theorem noText_ok {t : ByteArray} (h : noText t = true) : textOk t = true := by
  have h2 : t.data.toList = [] := by
    have h1 := eq_of_beq h
    rw [Lib.toList_data, Lib.toList_data] at h1
    exact h1
  have h3 : t.size = 0 := by
    show t.data.size = 0
    rw [← Array.length_toList, h2]; rfl
  unfold textOk figOk
  rw [h3]
  rfl
section
variable (k0 : Int) (y n : Bool) (l : List Int) (s day mo da : Int) (t : ByteArray)
/-- what is left of a value: nothing -/
def restZ (y n : Bool) (l : List Int) (s day mo da : Int) (t : ByteArray) : Bool := !y && (decZ n l s && ((day == 0) && (((mo == 0) && (da == 0)) && noText t)))
end
end Go.Proofs.YtcolgghllacloaaDoor.R
end

section
/-! Rf: keys: bytes on both sides. -/
set_option autoImplicit false
set_option linter.unusedSimpArgs false
set_option linter.unusedVariables false
namespace Go.Proofs.YtcolgghllacloaaDoor.R
open Go.Rf
def ba (K : List UInt8) : ByteArray := ⟨K.toArray⟩
def ints (K : List UInt8) : List Int := K.map fun b => (b.toNat : Int)
def u8 (z : Int) : UInt8 := UInt8.ofNat (IntKind.u8.wrap z).toNat
theorem wrap8 (z : Int) : IntKind.u8.wrap z = z % 256 := by
  unfold IntKind.wrap IntKind.bits IntKind.signed
  simp
theorem u8w (z : Int) : IntKind.u8.wrap z = ((u8 z).toNat : Int) := by
  unfold u8
  rw [wrap8, UInt8.toNat_ofNat']
  have h1 : 0 ≤ z % 256 := by omega
  have h2 : z % 256 < 256 := by omega
  omega
theorem bytes_ints (K : List UInt8) : bytesOf (ints K) = ba K := by
  unfold bytesOf ints ba
  rw [List.map_map]
  congr 2
  refine (List.map_congr_left (fun b _ => ?_)).trans (List.map_id K)
  show UInt8.ofNat ((b.toNat : Int)).toNat = b
  rw [Int.toNat_natCast]
  simp
theorem ints_len (K : List UInt8) : (ints K).length = K.length := by unfold ints; simp
theorem ba_size (K : List UInt8) : (ba K).size = K.length := rfl
theorem ba_data (K : List UInt8) : (ba K).data.toList = K := rfl
theorem ints_app (K L : List UInt8) : ints K ++ ints L = ints (K ++ L) := by unfold ints; rw [List.map_append]
theorem ba_app (K L : List UInt8) : ba K ++ ba L = ba (K ++ L) := by
  have : ∀ x y : ByteArray, x.data.toList = y.data.toList → x = y := fun x y h => by
    rw [← Lib.mk_data x, ← Lib.mk_data y, h]
  refine this _ _ ?_
  simp [ba, ByteArray.data_append]
theorem ba_get (K : List UInt8) (i : Nat) : (ba K)[i]? = K[i]? := by
  rcases Nat.lt_or_ge i K.length with h | h
  · rw [List.getElem?_eq_getElem h, getElem?_pos (ba K) i h]
    rfl
  · rw [List.getElem?_eq_none h, getElem?_neg (ba K) i (by rw [ba_size]; omega)]
theorem ints_get (K : List UInt8) (i : Nat) : (ints K)[i]? = (K[i]?).map fun b => (b.toNat : Int) := by unfold ints; rw [List.getElem?_map]
theorem ints1 (z : Int) : [IntKind.u8.wrap z] = ints [u8 z] := by rw [u8w]; rfl
theorem of_data (t : ByteArray) : ba t.data.toList = t := Lib.mk_data t
def turn (b : UInt8) : UInt8 := u8 (255 - (b.toNat : Int))
def flip (K : List UInt8) : List UInt8 := K.map turn
theorem fill_set {g : List Int} {i : Nat} (h : i < g.length) : (g.take i ++ List.replicate (g.length - i) (0 : Int)).set i g[i] = g.take (i + 1) ++ List.replicate (g.length - (i + 1)) (0 : Int) := by
  have e : g.length - i = (g.length - (i + 1)) + 1 := by omega
  have hl : (g.take i).length = i := by rw [List.length_take]; omega
  rw [e, List.replicate_succ, List.set_append_right (h := by omega), hl, Nat.sub_self, List.set_cons_zero, List.take_add_one, List.getElem?_eq_getElem h, Option.toList_some, List.append_assoc, List.singleton_append]
theorem fill_len {g : List Int} {i : Nat} (h : i ≤ g.length) : (g.take i ++ List.replicate (g.length - i) (0 : Int)).length = g.length := by
  rw [List.length_append, List.length_take, List.length_replicate]; omega
theorem fill_get {g : List Int} {i : Nat} (h : i < g.length) : (g.take i ++ List.replicate (g.length - i) (0 : Int))[i]? = some 0 := by
  rw [List.getElem?_append_right (by rw [List.length_take]; omega), List.length_take, show i - min i g.length = 0 by omega]
  rw [List.getElem?_replicate, if_pos (by omega)]
theorem flip_len (K : List UInt8) : (flip K).length = K.length := by unfold flip; simp
theorem flip_get {K : List UInt8} {i : Nat} (h : i < K.length) : (ints (flip K))[i]'(by rw [ints_len, flip_len]; exact h) = IntKind.u8.wrap (255 - (K[i].toNat : Int)) := by
  rw [u8w]
  unfold ints flip turn
  simp
def k3 (z : Int) : List UInt8 := [u8 (z / 65536), u8 (z / 256), u8 z]
end Go.Proofs.YtcolgghllacloaaDoor.R
end

section
/-! Rf: keys of numbers. -/
set_option autoImplicit false
set_option linter.unusedSimpArgs false
set_option linter.unusedVariables false
namespace Go.Proofs.YtcolgghllacloaaDoor.R
open Go.Rf
def gb (b : UInt8) : UInt8 := u8 (IntKind.u8.wrap ((b.toNat : Int) - 48) + 1)
def dig (W : List UInt8) : List UInt8 := W.map gb ++ [0]
def nk (neg : Bool) (hdr : UInt8) (W : List UInt8) : List UInt8 := if neg = true then 127 :: flip (hdr :: dig W) else 129 :: (hdr :: dig W)
theorem dig_len (W : List UInt8) : (dig W).length = W.length + 1 := by unfold dig; simp
theorem trimB_zero (T : List UInt8) : Lib.trimRightB (T ++ [48]) 48 = Lib.trimRightB T 48 := by
  unfold Lib.trimRightB
  rw [List.reverse_append]
  simp
theorem trimB_keep (T : List UInt8) (b : UInt8) (h : b ≠ 48) : Lib.trimRightB (T ++ [b]) 48 = T ++ [b] := by
  unfold Lib.trimRightB
  rw [List.reverse_append]
  simp [h]
theorem trimB_len (T : List UInt8) : (Lib.trimRightB T 48).length ≤ T.length := by
  unfold Lib.trimRightB
  rw [List.length_reverse]
  have := (List.dropWhile_sublist (fun x => x == (48 : UInt8)) (l := T.reverse)).length_le
  rw [List.length_reverse] at this
  exact this
theorem dd_some : ∀ (n : Nat), 0 < n → ∃ b ∈ Lib.decDigits n, b ≠ 48 := by
  intro n
  induction n using Nat.strongRecOn with
  | _ n ih =>
    intro hn
    unfold Lib.decDigits
    by_cases h : n < 10
    · rw [dif_pos h]
      refine ⟨UInt8.ofNat (48 + n), List.mem_cons_self, fun e => ?_⟩
      have := congrArg UInt8.toNat e
      rw [UInt8.toNat_ofNat'] at this
      have h48 : (48 : UInt8).toNat = 48 := rfl
      omega
    · rw [dif_neg h]
      obtain ⟨b, hb, hb2⟩ := ih (n / 10) (by omega) (by omega)
      exact ⟨b, List.mem_append_left _ hb, hb2⟩
section
variable {n : Bool} {l : List Int} {s : Int}
end
/-- the key of a number in order -/
def numK (n : Bool) (V r : Nat) : List UInt8 := if V = 0 then [128] else nk n (u8 (64 + ((Lib.decDigits V).length : Int) - r)) (Lib.trimRightB (Lib.decDigits V) 48)
end Go.Proofs.YtcolgghllacloaaDoor.R
end

section
/-! Rf: how values compare. -/
set_option autoImplicit false
set_option linter.unusedSimpArgs false
set_option linter.unusedVariables false
namespace Go.Proofs.YtcolgghllacloaaDoor.R
open Go.Rf
def zc (x y : Int) : Int := if x < y then -1 else if x > y then 1 else 0
def tc (a b : ByteArray) : Int := Lib.compareBytes a.data.toList b.data.toList
theorem less_cmp : ∀ (a b : List UInt8), (Op.bytesLess a b = true ↔ Lib.compareBytes a b = -1) ∧ ((Lib.compareBytes a b = 0) ↔ a = b) ∧ (Lib.compareBytes a b = -1 ∨ Lib.compareBytes a b = 0 ∨ Lib.compareBytes a b = 1)
  | [], [] => by simp [Op.bytesLess, Lib.compareBytes]
  | [], _ :: _ => by simp [Op.bytesLess, Lib.compareBytes]
  | _ :: _, [] => by simp [Op.bytesLess, Lib.compareBytes]
  | x :: a, y :: b => by
    obtain ⟨h1, h2, h3⟩ := less_cmp a b
    unfold Op.bytesLess Lib.compareBytes
    by_cases hxy : x = y
    · subst hxy
      have hlt : ¬ x < x := UInt8.lt_irrefl x
      simp only [hlt, decide_false, beq_self_eq_true, Bool.false_or, Bool.true_and, if_false, List.cons.injEq, true_and]
      exact ⟨h1, h2, h3⟩
    · by_cases hlt : x < y
      · simp [hlt, hxy]
      · have hgt : y < x := UInt8.lt_of_le_of_ne (UInt8.not_lt.1 hlt) (Ne.symm hxy)
        simp [hlt, hgt, hxy]
def bit (b : Bool) : Int := if b then 1 else 0
theorem bit_sub (b c : Bool) : IntKind.i64.wrap (bit b - bit c) = zc (bit b) (bit c) := by cases b <;> cases c <;> decide
/-- how two values of one kind compare -/
def vc (k0 : Int) (y1 n1 : Bool) (l1 : List Int) (s1 d1 m1 a1 : Int) (t1 : ByteArray) (y2 n2 : Bool) (l2 : List Int) (s2 d2 m2 a2 : Int) (t2 : ByteArray) : Int :=
  if k0 = 1 then zc (bit y1) (bit y2) else if k0 = 2 then dCmp n1 l1 s1.toNat n2 l2 s2.toNat else if k0 = 3 then zc d1 d2 else if k0 = 4 then (if m1 = m2 then zc a1 a2 else zc m1 m2) else tc t1 t2
def vo (k1 : Int) (y1 n1 : Bool) (l1 : List Int) (s1 d1 m1 a1 : Int) (t1 : ByteArray) (k2 : Int) (y2 n2 : Bool) (l2 : List Int) (s2 d2 m2 a2 : Int) (t2 : ByteArray) : Int :=
  if k1 = k2 then vc k1 y1 n1 l1 s1 d1 m1 a1 t1 y2 n2 l2 s2 d2 m2 a2 t2 else zc k1 k2
theorem zc_zero {x y : Int} : zc x y = 0 ↔ x = y := by
  unfold zc
  split
  · constructor <;> intro h <;> omega
  · split <;> constructor <;> intro h <;> omega
section
variable (k0 : Int) (y1 n1 : Bool) (l1 : List Int) (s1 d1 m1 a1 : Int) (t1 : ByteArray) (y2 n2 : Bool) (l2 : List Int) (s2 d2 m2 a2 : Int) (t2 : ByteArray)
theorem vOk_kind {k0 : Int} {y n : Bool} {l : List Int} {s day mo da : Int} {t : ByteArray} (h : vOk k0 y n l s day mo da t = true) : 0 ≤ k0 ∧ k0 ≤ 5 := by
  unfold vOk within at h
  simp only [Bool.and_eq_true, decide_eq_true_iff] at h
  exact ⟨h.1.1, h.1.2⟩
theorem noText_nil {t : ByteArray} (h : noText t = true) : t.data.toList = [] := by
  have h1 := eq_of_beq h
  rw [Lib.toList_data, Lib.toList_data] at h1
  exact h1
theorem vOk_noText {k0 : Int} {y n : Bool} {l : List Int} {s day mo da : Int} {t : ByteArray} (h : vOk k0 y n l s day mo da t = true) (h5 : k0 ≠ 5) : t.data.toList = [] := by
  unfold vOk bareOk at h
  rw [beq_eq_false_iff_ne.2 h5] at h
  simp only [Bool.and_eq_true, Bool.false_or] at h
  exact noText_nil h.2.1.2.2.2.2
end
section
variable (k1 : Int) (y1 n1 : Bool) (l1 : List Int) (s1 d1 m1 a1 : Int) (t1 : ByteArray) (k2 : Int) (y2 n2 : Bool) (l2 : List Int) (s2 d2 m2 a2 : Int) (t2 : ByteArray)
/-- what ValueOrder hands back -/
def vOrd : Int := if vOk k1 y1 n1 l1 s1 d1 m1 a1 t1 && vOk k2 y2 n2 l2 s2 d2 m2 a2 t2 then vo k1 y1 n1 l1 s1 d1 m1 a1 t1 k2 y2 n2 l2 s2 d2 m2 a2 t2 else 2
/-- can ValueCmp tell? -/
def vCan : Bool := vOk k1 y1 n1 l1 s1 d1 m1 a1 t1 && vOk k2 y2 n2 l2 s2 d2 m2 a2 t2 && (k1 != 0 && k1 == k2)
def vCmp : Int := if vCan k1 y1 n1 l1 s1 d1 m1 a1 t1 k2 y2 n2 l2 s2 d2 m2 a2 t2 then vc k1 y1 n1 l1 s1 d1 m1 a1 t1 y2 n2 l2 s2 d2 m2 a2 t2 else 0
variable (z1 : l1.length ≤ 1048576) (x1 : t1.size ≤ 1048576) (z2 : l2.length ≤ 1048576) (x2 : t2.size ≤ 1048576)
include z1 x1 z2 x2
end
end Go.Proofs.YtcolgghllacloaaDoor.R
end

section
/-! Rf: no key begins another. -/
set_option autoImplicit false
set_option linter.unusedSimpArgs false
set_option linter.unusedVariables false
namespace Go.Proofs.YtcolgghllacloaaDoor.R
open Go.Rf
theorem ba_list (K : List UInt8) : (ba K).toList = K := by rw [Lib.toList_data]; rfl
theorem u8_nat (z : Int) : ((u8 z).toNat : Int) = z % 256 := by rw [← u8w, wrap8]
def NumS (K : List UInt8) : Prop := K = [128] ∨ ∃ (neg : Bool) (hdr : UInt8) (W : List UInt8), (∀ b ∈ W, 48 ≤ b.toNat ∧ b.toNat ≤ 57) ∧ K = nk neg hdr W
structure BodyS (k0 : Int) (B : List UInt8) : Prop where
  s0 : k0 = 0 → B = []
  s1 : k0 = 1 → B.length = 1
  s2 : k0 = 2 → NumS B
  s3 : k0 = 3 → B.length = 3
  s4 : k0 = 4 → B.length = 6
  s5 : k0 = 5 → ∃ T : List UInt8, (∀ b ∈ T, b ≠ 0) ∧ B = T ++ [0]
theorem term_free : ∀ {T1 T2 : List UInt8}, (∀ b ∈ T1, b ≠ 0) → (∀ b ∈ T2, b ≠ 0) → T1 ++ [0] <+: T2 ++ [0] → T1 = T2
  | [], [], _, _, _ => rfl
  | [], y :: T2, _, h2, h => by
    have h : (0 : UInt8) :: [] <+: y :: (T2 ++ [0]) := h
    rw [List.cons_prefix_cons] at h
    exact absurd h.1.symm (h2 y List.mem_cons_self)
  | x :: T1, [], h1, _, h => by
    have h : x :: (T1 ++ [0]) <+: (0 : UInt8) :: [] := h
    rw [List.cons_prefix_cons] at h
    exact absurd h.1 (h1 x List.mem_cons_self)
  | x :: T1, y :: T2, h1, h2, h => by
    have h : x :: (T1 ++ [0]) <+: y :: (T2 ++ [0]) := h
    rw [List.cons_prefix_cons] at h
    rw [h.1, term_free (fun b hb => h1 b (List.mem_cons_of_mem _ hb)) (fun b hb => h2 b (List.mem_cons_of_mem _ hb)) h.2]
theorem gb_ne {b : UInt8} (h : 48 ≤ b.toNat ∧ b.toNat ≤ 57) : gb b ≠ 0 := fun e => by
  have h1 := congrArg UInt8.toNat e
  have h2 := u8_nat (IntKind.u8.wrap ((b.toNat : Int) - 48) + 1)
  rw [wrap8] at h2
  have h0 : (0 : UInt8).toNat = 0 := rfl
  have h3 : (gb b).toNat = (u8 (IntKind.u8.wrap ((b.toNat : Int) - 48) + 1)).toNat := rfl
  rw [wrap8] at h3
  omega
theorem dig_free {W1 W2 : List UInt8} (h1 : ∀ b ∈ W1, 48 ≤ b.toNat ∧ b.toNat ≤ 57) (h2 : ∀ b ∈ W2, 48 ≤ b.toNat ∧ b.toNat ≤ 57) (h : dig W1 <+: dig W2) : dig W1 = dig W2 := by
  have hh : ∀ {W : List UInt8}, (∀ b ∈ W, 48 ≤ b.toNat ∧ b.toNat ≤ 57) → ∀ b ∈ W.map gb, b ≠ 0 := fun {W} hW b hb => by
    obtain ⟨c, hc, rfl⟩ := List.mem_map.1 hb
    exact gb_ne (hW c hc)
  unfold dig at h ⊢
  rw [term_free (hh h1) (hh h2) h]
theorem turn_turn (b : UInt8) : turn (turn b) = b := by
  refine UInt8.toNat.inj ?_
  unfold turn
  have h1 := u8_nat (255 - ((u8 (255 - (b.toNat : Int))).toNat : Int))
  have h2 := u8_nat (255 - (b.toNat : Int))
  have h3 : b.toNat < 256 := UInt8.toNat_lt b
  omega
theorem flip_flip (K : List UInt8) : flip (flip K) = K := by
  unfold flip
  rw [List.map_map]
  exact (List.map_congr_left (fun b _ => turn_turn b)).trans (List.map_id K)
theorem flip_pre {a b : List UInt8} (h : flip a <+: flip b) : a <+: b := by
  have h2 : flip (flip a) <+: flip (flip b) := List.IsPrefix.map turn h
  rwa [flip_flip, flip_flip] at h2
theorem num_free {B1 B2 : List UInt8} (h1 : NumS B1) (h2 : NumS B2) (h : B1 <+: B2) : B1 = B2 := by
  rcases h1 with rfl | ⟨n1, d1, W1, w1, rfl⟩
  · rcases h2 with rfl | ⟨n2, d2, W2, w2, rfl⟩
    · rfl
    · unfold nk at h
      cases n2
      · rw [if_neg (by simp), List.cons_prefix_cons] at h; exact absurd h.1 (by decide)
      · rw [if_pos rfl, List.cons_prefix_cons] at h; exact absurd h.1 (by decide)
  · rcases h2 with rfl | ⟨n2, d2, W2, w2, rfl⟩
    · unfold nk at h
      cases n1
      · rw [if_neg (by simp), List.cons_prefix_cons] at h; exact absurd h.1 (by decide)
      · rw [if_pos rfl, List.cons_prefix_cons] at h; exact absurd h.1 (by decide)
    · have same : d1 :: dig W1 <+: d2 :: dig W2 → d1 :: dig W1 = d2 :: dig W2 := fun h => by
        rw [List.cons_prefix_cons] at h
        rw [h.1, dig_free w1 w2 h.2]
      unfold nk at h ⊢
      cases n1 <;> cases n2
      · simp only [Bool.false_eq_true, if_false] at h ⊢
        rw [List.cons_prefix_cons] at h
        rw [same h.2]
      · simp only [Bool.false_eq_true, if_false, if_true] at h ⊢
        rw [List.cons_prefix_cons] at h
        exact absurd h.1 (by decide)
      · simp only [Bool.false_eq_true, if_false, if_true] at h ⊢
        rw [List.cons_prefix_cons] at h
        exact absurd h.1 (by decide)
      · simp only [if_true] at h ⊢
        rw [List.cons_prefix_cons] at h
        rw [same (flip_pre h.2)]
theorem pre_len {a b : List UInt8} (h : a <+: b) (e : a.length = b.length) : a = b := h.eq_of_length e
theorem body_free {k0 : Int} {B1 B2 : List UInt8} (hk : 0 ≤ k0 ∧ k0 ≤ 5) (S1 : BodyS k0 B1) (S2 : BodyS k0 B2) (h : B1 <+: B2) : B1 = B2 := by
  have : k0 = 0 ∨ k0 = 1 ∨ k0 = 2 ∨ k0 = 3 ∨ k0 = 4 ∨ k0 = 5 := by omega
  rcases this with e | e | e | e | e | e
  · rw [S1.s0 e, S2.s0 e]
  · exact pre_len h (by rw [S1.s1 e, S2.s1 e])
  · exact num_free (S1.s2 e) (S2.s2 e) h
  · exact pre_len h (by rw [S1.s3 e, S2.s3 e])
  · exact pre_len h (by rw [S1.s4 e, S2.s4 e])
  · obtain ⟨T1, h1, rfl⟩ := S1.s5 e
    obtain ⟨T2, h2, rfl⟩ := S2.s5 e
    rw [term_free h1 h2 h]
theorem dd_range : ∀ (n : Nat), ∀ b ∈ Lib.decDigits n, 48 ≤ b.toNat ∧ b.toNat ≤ 57 := by
  intro n
  induction n using Nat.strongRecOn with
  | _ n ih =>
    intro b hb
    unfold Lib.decDigits at hb
    by_cases h : n < 10
    · rw [dif_pos h, List.mem_singleton] at hb
      rw [hb, UInt8.toNat_ofNat']
      omega
    · rw [dif_neg h, List.mem_append, List.mem_singleton] at hb
      rcases hb with hb | hb
      · exact ih (n / 10) (by omega) b hb
      · rw [hb, UInt8.toNat_ofNat']
        omega
theorem trim_mem {T : List UInt8} {c b : UInt8} (h : b ∈ Lib.trimRightB T c) : b ∈ T := by
  unfold Lib.trimRightB at h
  rw [List.mem_reverse] at h
  exact List.mem_reverse.1 ((List.dropWhile_sublist _).subset h)
section
variable {k0 : Int} {y n : Bool} {l : List Int} {s day mo da : Int} {t : ByteArray}
end
/-- no key begins another -/
theorem key_free {k1 k2 : Int} {B1 B2 : List UInt8} (h1 : 0 ≤ k1 ∧ k1 ≤ 5) (h2 : 0 ≤ k2 ∧ k2 ≤ 5) (S1 : BodyS k1 B1) (S2 : BodyS k2 B2) (h : u8 (IntKind.i64.wrap (k1 + 1)) :: B1 <+: u8 (IntKind.i64.wrap (k2 + 1)) :: B2) :
    u8 (IntKind.i64.wrap (k1 + 1)) :: B1 = u8 (IntKind.i64.wrap (k2 + 1)) :: B2 := by
  rw [List.cons_prefix_cons] at h
  have hk : k1 = k2 := by
    have e := congrArg UInt8.toNat h.1
    have a1 := u8_nat (k1 + 1)
    have a2 := u8_nat (k2 + 1)
    rw [wrap64 (by omega) (by omega), wrap64 (by omega) (by omega)] at e
    omega
  subst hk
  rw [body_free h1 S1 S2 h.2]
end Go.Proofs.YtcolgghllacloaaDoor.R
end

section
/-! Rf: figures and what they say. -/
set_option autoImplicit false
set_option linter.unusedSimpArgs false
set_option linter.unusedVariables false
namespace Go.Proofs.YtcolgghllacloaaDoor.R
open Go.Rf
/-- what figures say -/
def dv (L : List UInt8) : Nat := L.foldl (fun n b => n * 10 + (b.toNat - 48)) 0
def Dig (L : List UInt8) : Prop := ∀ b ∈ L, 48 ≤ b.toNat ∧ b.toNat ≤ 57
theorem Dig.app {K L : List UInt8} (h : Dig K) (h' : Dig L) : Dig (K ++ L) := fun b hb => (List.mem_append.1 hb).elim (h b) (h' b)
theorem Dig.take {L : List UInt8} (h : Dig L) (n : Nat) : Dig (L.take n) := fun b hb => h b (List.mem_of_mem_take hb)
theorem Dig.drop {L : List UInt8} (h : Dig L) (n : Nat) : Dig (L.drop n) := fun b hb => h b (List.mem_of_mem_drop hb)
theorem dv_from : ∀ (L : List UInt8) (acc : Nat), L.foldl (fun n b => n * 10 + (b.toNat - 48)) acc = acc * 10 ^ L.length + dv L
  | [], acc => by simp [dv]
  | b :: L, acc => by
    have h1 := dv_from L (acc * 10 + (b.toNat - 48))
    have h2 := dv_from L (0 * 10 + (b.toNat - 48))
    rw [List.foldl_cons, h1]
    unfold dv
    rw [List.foldl_cons, h2, List.length_cons, Nat.pow_succ, Nat.add_mul, Nat.zero_mul, Nat.zero_add, Nat.mul_assoc, Nat.mul_comm 10]
    unfold dv
    omega
theorem dv_app (K L : List UInt8) : dv (K ++ L) = dv K * 10 ^ L.length + dv L := by
  conv => lhs; unfold dv
  rw [List.foldl_append, dv_from]
  rfl
theorem dv_one (b : UInt8) : dv [b] = b.toNat - 48 := by simp [dv]
theorem dv_nil : dv [] = 0 := rfl
theorem dv_lt : ∀ {L : List UInt8}, Dig L → dv L < 10 ^ L.length
  | [], _ => by simp [dv]
  | b :: L, h => by
    have h1 := dv_lt (L := L) (fun x hx => h x (List.mem_cons_of_mem _ hx))
    have hb := h b List.mem_cons_self
    have e : dv (b :: L) = (b.toNat - 48) * 10 ^ L.length + dv L := by
      rw [show b :: L = [b] ++ L from rfl, dv_app, dv_one]
    rw [e, List.length_cons, Nat.pow_succ]
    have h2 : (b.toNat - 48) * 10 ^ L.length ≤ 9 * 10 ^ L.length := Nat.mul_le_mul_right _ (by omega)
    omega
theorem dv_dd (n : Nat) : dv (Lib.decDigits n) = n := by
  induction n using Nat.strongRecOn with
  | _ n ih =>
    by_cases h : n < 10
    · rw [dd1 h, dv_one, UInt8.toNat_ofNat']
      omega
    · rw [ddS h, dv_app, ih (n / 10) (by omega), dv_one, UInt8.toNat_ofNat']
      simp only [List.length_singleton, Nat.pow_one]
      omega
theorem ba_extract (L : List UInt8) (a b : Nat) : (ba L).extract a b = ba ((L.take b).drop a) := by
  have e := List.take_drop (i := b - a) (j := a) (l := L)
  rw [← Lib.mk_data ((ba L).extract a b)]
  show ba ((ba L).extract a b).data.toList = _
  rw [ByteArray.data_extract, Array.toList_extract]
  congr 1
  show ((L.drop a).take (b - a)) = _
  rw [e]
  by_cases hab : a ≤ b
  · rw [show a + (b - a) = b by omega]
  · rw [List.drop_eq_nil_of_le (by rw [List.length_take]; omega), List.drop_eq_nil_of_le (by rw [List.length_take]; omega)]
end Go.Proofs.YtcolgghllacloaaDoor.R
end

section
/-! Rf: keys stand in the order of what they say: lists of bytes, figures. -/
set_option autoImplicit false
set_option linter.unusedSimpArgs false
set_option linter.unusedVariables false
namespace Go.Proofs.YtcolgghllacloaaDoor.R
open Go.Rf
abbrev cb := Lib.compareBytes
theorem cb_cons (x y : UInt8) (a b : List UInt8) : cb (x :: a) (y :: b) = if x.toNat < y.toNat then -1 else if y.toNat < x.toNat then 1 else cb a b := by
  show Lib.compareBytes (x :: a) (y :: b) = _
  simp only [Lib.compareBytes, UInt8.lt_iff_toNat_lt]
theorem cb_self : ∀ a : List UInt8, cb a a = 0
  | [] => rfl
  | x :: a => by rw [cb_cons, if_neg (by omega), if_neg (by omega)]; exact cb_self a
theorem cb_app : ∀ {a b : List UInt8} (x y : List UInt8), a.length = b.length → cb (a ++ x) (b ++ y) = if cb a b = 0 then cb x y else cb a b
  | [], [], x, y, _ => by rw [if_pos (cb_self [])]; rfl
  | [], _ :: _, _, _, h => by simp at h
  | _ :: _, [], _, _, h => by simp at h
  | u :: a, v :: b, x, y, h => by
    have ih := cb_app x y (show a.length = b.length by simpa using h)
    rw [List.cons_append, List.cons_append, cb_cons, cb_cons]
    by_cases p : u.toNat < v.toNat
    · rw [if_pos p, if_pos p, if_neg (by omega)]
    · by_cases q : v.toNat < u.toNat
      · rw [if_neg p, if_pos q, if_neg p, if_pos q, if_neg (by omega)]
      · rw [if_neg p, if_neg q, if_neg p, if_neg q]; exact ih
theorem turn_nat (b : UInt8) : (turn b).toNat = 255 - b.toNat := by
  unfold turn
  have h2 := u8_nat (255 - (b.toNat : Int))
  have h3 : b.toNat < 256 := UInt8.toNat_lt b
  omega
theorem cb_flip : ∀ {a b : List UInt8}, (a <+: b → a = b) → (b <+: a → b = a) → cb (flip a) (flip b) = -cb a b
  | [], [], _, _ => rfl
  | [], y :: b, h, _ => by have := h List.nil_prefix; cases this
  | x :: a, [], _, h => by have := h List.nil_prefix; cases this
  | x :: a, y :: b, h1, h2 => by
    have hx : x.toNat < 256 := UInt8.toNat_lt x
    have hy : y.toNat < 256 := UInt8.toNat_lt y
    show cb (turn x :: flip a) (turn y :: flip b) = _
    rw [cb_cons, cb_cons, turn_nat, turn_nat]
    by_cases p : x.toNat < y.toNat
    · rw [if_neg (show ¬ 255 - x.toNat < 255 - y.toNat by omega), if_pos (show 255 - y.toNat < 255 - x.toNat by omega), if_pos p]; rfl
    · by_cases q : y.toNat < x.toNat
      · rw [if_pos (show 255 - x.toNat < 255 - y.toNat by omega), if_neg p, if_pos q]
      · have e : x = y := UInt8.toNat.inj (by omega)
        subst e
        rw [if_neg (by omega), if_neg (by omega), if_neg p, if_neg q]
        refine cb_flip (fun h => ?_) (fun h => ?_)
        · have := h1 (List.cons_prefix_cons.2 ⟨rfl, h⟩); injection this
        · have := h2 (List.cons_prefix_cons.2 ⟨rfl, h⟩); injection this
theorem cb_term : ∀ {a b : List UInt8}, (∀ x ∈ a, x ≠ 0) → (∀ x ∈ b, x ≠ 0) → cb (a ++ [0]) (b ++ [0]) = cb a b
  | [], [], _, _ => rfl
  | [], y :: b, _, h => by
    have hy : y.toNat ≠ 0 := fun e => h y List.mem_cons_self (UInt8.toNat.inj e)
    show cb (0 :: []) (y :: (b ++ [0])) = -1
    rw [cb_cons, if_pos (show (0 : UInt8).toNat < y.toNat by show 0 < y.toNat; omega)]
  | x :: a, [], h, _ => by
    have hx : x.toNat ≠ 0 := fun e => h x List.mem_cons_self (UInt8.toNat.inj e)
    show cb (x :: (a ++ [0])) (0 :: []) = 1
    rw [cb_cons, if_neg (show ¬ x.toNat < (0 : UInt8).toNat by show ¬ x.toNat < 0; omega), if_pos (show (0 : UInt8).toNat < x.toNat by show 0 < x.toNat; omega)]
  | x :: a, y :: b, h1, h2 => by
    rw [List.cons_append, List.cons_append, cb_cons, cb_cons, cb_term (fun z hz => h1 z (List.mem_cons_of_mem _ hz)) (fun z hz => h2 z (List.mem_cons_of_mem _ hz))]
theorem cb_k3 {x y : Int} (h1 : 0 ≤ x ∧ x < 16777216) (h2 : 0 ≤ y ∧ y < 16777216) : cb (k3 x) (k3 y) = zc x y := by
  unfold k3
  rw [cb_cons, cb_cons, cb_cons, cb_self]
  have a1 := u8_nat (x / 65536)
  have a2 := u8_nat (x / 256)
  have a3 := u8_nat x
  have b1 := u8_nat (y / 65536)
  have b2 := u8_nat (y / 256)
  have b3 := u8_nat y
  unfold zc
  repeat' split
  all_goals omega
/-! ### figures -/
theorem gb_nat {b : UInt8} (h : 48 ≤ b.toNat ∧ b.toNat ≤ 57) : (gb b).toNat = b.toNat - 47 := by
  have h2 := u8_nat (IntKind.u8.wrap ((b.toNat : Int) - 48) + 1)
  have h3 : (gb b).toNat = (u8 (IntKind.u8.wrap ((b.toNat : Int) - 48) + 1)).toNat := rfl
  rw [wrap8] at h2 h3
  omega
theorem trimB_cons (x : UInt8) (P : List UInt8) : Lib.trimRightB (x :: P) 48 = if Lib.trimRightB P 48 = [] then (if x = 48 then [] else [x]) else x :: Lib.trimRightB P 48 := by
  unfold Lib.trimRightB
  rw [List.reverse_cons, List.dropWhile_append]
  by_cases h : (P.reverse.dropWhile fun b => b == 48) = []
  · rw [h]
    by_cases hx : x = 48
    · simp [hx]
    · simp [hx]
  · have h' : ¬ (P.reverse.dropWhile fun b => b == 48).isEmpty = true := by simpa using h
    rw [if_neg h', if_neg (by simpa using h)]
    simp
theorem cb_trim : ∀ {P1 P2 : List UInt8}, P1.length = P2.length → (∀ b ∈ P1, 48 ≤ b.toNat ∧ b.toNat ≤ 57) → (∀ b ∈ P2, 48 ≤ b.toNat ∧ b.toNat ≤ 57) →
    cb (dig (Lib.trimRightB P1 48)) (dig (Lib.trimRightB P2 48)) = cb P1 P2
  | [], [], _, _, _ => rfl
  | [], _ :: _, h, _, _ => by simp at h
  | _ :: _, [], h, _, _ => by simp at h
  | x :: P1, y :: P2, h, h1, h2 => by
    have ih := cb_trim (show P1.length = P2.length by simpa using h) (fun b hb => h1 b (List.mem_cons_of_mem _ hb)) (fun b hb => h2 b (List.mem_cons_of_mem _ hb))
    have hx := h1 x List.mem_cons_self
    have hy := h2 y List.mem_cons_self
    have gx := gb_nat hx
    have gy := gb_nat hy
    have n48 : (48 : UInt8).toNat = 48 := rfl
    have z0 : (0 : UInt8).toNat = 0 := rfl
    have d0 : dig [] = [0] := rfl
    have dc : ∀ (u : UInt8) (W : List UInt8), dig (u :: W) = gb u :: dig W := fun u W => rfl
    rw [trimB_cons, trimB_cons, cb_cons]
    have hd : ∀ {P : List UInt8}, (∀ b ∈ P, 48 ≤ b.toNat ∧ b.toNat ≤ 57) → Lib.trimRightB P 48 ≠ [] → ∃ c W, dig (Lib.trimRightB P 48) = c :: W ∧ 0 < c.toNat := fun {P} hP hne => by
      obtain ⟨c, W, e⟩ := List.exists_cons_of_ne_nil hne
      refine ⟨gb c, dig W, by rw [e]; rfl, ?_⟩
      have := gb_nat (hP c (trim_mem (by rw [e]; exact List.mem_cons_self)))
      have := hP c (trim_mem (by rw [e]; exact List.mem_cons_self))
      omega
    by_cases e1 : Lib.trimRightB P1 48 = []
    · by_cases e2 : Lib.trimRightB P2 48 = []
      · rw [if_pos e1, if_pos e2]
        rw [e1, e2, cb_self] at ih
        rw [← ih]
        by_cases c1 : x = 48
        · by_cases c2 : y = 48
          · rw [if_pos c1, if_pos c2, c1, c2, cb_self, if_neg (by omega), if_neg (by omega)]
          · have : y.toNat ≠ 48 := fun e => c2 (UInt8.toNat.inj (by omega))
            rw [if_pos c1, if_neg c2, c1, d0, dc, cb_cons, if_pos (by omega), if_pos (by omega)]
        · have c1' : x.toNat ≠ 48 := fun e => c1 (UInt8.toNat.inj (by omega))
          by_cases c2 : y = 48
          · rw [if_neg c1, if_pos c2, c2, d0, dc, cb_cons, if_neg (by omega), if_pos (by omega), if_neg (by omega), if_pos (by omega)]
          · rw [if_neg c1, if_neg c2, dc, dc, cb_cons, cb_self, gx, gy]
            repeat' split
            all_goals omega
      · rw [if_pos e1, if_neg e2]
        obtain ⟨c, W, ec, hc⟩ := hd (fun b hb => h2 b (List.mem_cons_of_mem _ hb)) e2
        have ih' : cb P1 P2 = -1 := by rw [← ih, e1, d0, ec, cb_cons, if_pos (by omega)]
        by_cases c1 : x = 48
        · rw [if_pos c1, d0, dc, cb_cons, if_pos (by omega), ih', c1]
          repeat' split
          all_goals omega
        · rw [if_neg c1, dc, dc, cb_cons, gx, gy, ih', d0, ec, cb_cons, if_pos (show (0 : UInt8).toNat < c.toNat by omega)]
          repeat' split
          all_goals omega
    · by_cases e2 : Lib.trimRightB P2 48 = []
      · rw [if_neg e1, if_pos e2]
        obtain ⟨c, W, ec, hc⟩ := hd (fun b hb => h1 b (List.mem_cons_of_mem _ hb)) e1
        have ih' : cb P1 P2 = 1 := by rw [← ih, e2, d0, ec, cb_cons, if_neg (by omega), if_pos (by omega)]
        by_cases c2 : y = 48
        · rw [if_pos c2, d0, dc, cb_cons, if_neg (by omega), if_pos (by omega), ih', c2]
          repeat' split
          all_goals omega
        · rw [if_neg c2, dc, dc, cb_cons, gx, gy, ih', d0, ec, cb_cons, if_neg (show ¬ c.toNat < (0 : UInt8).toNat by omega), if_pos (show (0 : UInt8).toNat < c.toNat by omega)]
          repeat' split
          all_goals omega
      · rw [if_neg e1, if_neg e2, dc, dc, cb_cons, gx, gy, ih]
        repeat' split
        all_goals omega
theorem dd_lt (n : Nat) : ∀ (m : Nat), (Lib.decDigits m).length = n → 0 < n ∧ m < 10 ^ n ∧ (0 < m → 10 ^ (n - 1) ≤ m) := by
  induction n with
  | zero =>
    intro m h
    unfold Lib.decDigits at h
    split at h
    · simp at h
    · rw [List.length_append] at h; simp at h
  | succ n ih =>
    intro m h
    unfold Lib.decDigits at h
    by_cases hm : m < 10
    · rw [dif_pos hm] at h
      have : n = 0 := by simpa using h.symm
      subst this
      exact ⟨by omega, by simpa using hm, fun h0 => by simp; omega⟩
    · rw [dif_neg hm, List.length_append, List.length_singleton] at h
      obtain ⟨h1, h2, h3⟩ := ih (m / 10) (by omega)
      have h3 := h3 (by omega)
      have e : 10 ^ (n + 1) = 10 ^ n * 10 := Nat.pow_succ ..
      have e2 : 10 ^ n = 10 ^ (n - 1) * 10 := by rw [← Nat.pow_succ, show (n - 1).succ = n by omega]
      refine ⟨by omega, by omega, fun _ => ?_⟩
      rw [show n + 1 - 1 = n by omega]
      omega
theorem dd_cmp : ∀ (n a b : Nat), (Lib.decDigits a).length = n → (Lib.decDigits b).length = n → cb (Lib.decDigits a) (Lib.decDigits b) = zc (a : Int) (b : Int) := by
  intro n
  induction n with
  | zero => intro a b h _; have := dd_lt 0 a h; omega
  | succ n ih =>
    intro a b ha hb
    have la := dd_lt (n + 1) a ha
    have lb := dd_lt (n + 1) b hb
    unfold Lib.decDigits at ha hb ⊢
    by_cases h1 : a < 10
    · rw [dif_pos h1] at ha ⊢
      have n0 : n = 0 := by simpa using ha.symm
      subst n0
      have h2 : b < 10 := by have := lb.2.1; omega
      rw [dif_pos h2, cb_cons, cb_self, UInt8.toNat_ofNat', UInt8.toNat_ofNat']
      unfold zc
      repeat' split
      all_goals omega
    · rw [dif_neg h1] at ha ⊢
      rw [List.length_append, List.length_singleton] at ha
      by_cases h2 : b < 10
      · rw [dif_pos h2] at hb
        have n0 : n = 0 := by simpa using hb.symm
        subst n0
        have := dd_lt 0 (a / 10) (by omega)
        omega
      · rw [dif_neg h2] at hb ⊢
        rw [List.length_append, List.length_singleton] at hb
        have hi := ih (a / 10) (b / 10) (by omega) (by omega)
        rw [cb_app _ _ (show (Lib.decDigits (a / 10)).length = (Lib.decDigits (b / 10)).length by omega), hi, cb_cons, cb_self, UInt8.toNat_ofNat', UInt8.toNat_ofNat']
        unfold zc
        repeat' split
        all_goals omega
theorem dd_ten (V : Nat) (hV : 0 < V) : ∀ k : Nat, Lib.decDigits (V * 10 ^ k) = Lib.decDigits V ++ List.replicate k 48
  | 0 => by simp
  | k + 1 => by
    have h1 : ¬ V * 10 ^ (k + 1) < 10 := by
      have : 0 < V * 10 ^ k := Nat.mul_pos hV (Nat.pow_pos (by omega))
      rw [Nat.pow_succ, ← Nat.mul_assoc]; omega
    have e : Lib.decDigits (V * 10 ^ (k + 1)) = Lib.decDigits (V * 10 ^ (k + 1) / 10) ++ [UInt8.ofNat (48 + V * 10 ^ (k + 1) % 10)] := by
      conv => lhs; unfold Lib.decDigits
      rw [dif_neg h1]
    rw [e, Nat.pow_succ, ← Nat.mul_assoc, Nat.mul_div_cancel _ (by omega), Nat.mul_mod_left, dd_ten V hV k, List.append_assoc, List.replicate_succ']
    rfl
theorem trim_rep (T : List UInt8) : ∀ k : Nat, Lib.trimRightB (T ++ List.replicate k 48) 48 = Lib.trimRightB T 48
  | 0 => by simp
  | k + 1 => by rw [List.replicate_succ', ← List.append_assoc, trimB_zero, trim_rep T k]
/-- keys of numbers above nought -/
theorem pos_cmp {V1 V2 r1 r2 : Nat} (h1 : 0 < V1) (h2 : 0 < V2) (l1 : (Lib.decDigits V1).length ≤ 30) (l2 : (Lib.decDigits V2).length ≤ 30) (g1 : r1 ≤ 12) (g2 : r2 ≤ 12) :
    cb (u8 (64 + ((Lib.decDigits V1).length : Int) - r1) :: dig (Lib.trimRightB (Lib.decDigits V1) 48)) (u8 (64 + ((Lib.decDigits V2).length : Int) - r2) :: dig (Lib.trimRightB (Lib.decDigits V2) 48)) = zc ((V1 * 10 ^ (12 - r1) : Nat) : Int) ((V2 * 10 ^ (12 - r2) : Nat) : Int) := by
  have a1 := u8_nat (64 + ((Lib.decDigits V1).length : Int) - r1)
  have a2 := u8_nat (64 + ((Lib.decDigits V2).length : Int) - r2)
  have d1 := dd_ten V1 h1 (12 - r1)
  have d2 := dd_ten V2 h2 (12 - r2)
  have p1 : 0 < V1 * 10 ^ (12 - r1) := Nat.mul_pos h1 (Nat.pow_pos (by omega))
  have p2 : 0 < V2 * 10 ^ (12 - r2) := Nat.mul_pos h2 (Nat.pow_pos (by omega))
  have n1 : (Lib.decDigits (V1 * 10 ^ (12 - r1))).length = (Lib.decDigits V1).length + (12 - r1) := by rw [d1, List.length_append, List.length_replicate]
  have n2 : (Lib.decDigits (V2 * 10 ^ (12 - r2))).length = (Lib.decDigits V2).length + (12 - r2) := by rw [d2, List.length_append, List.length_replicate]
  have b1 := dd_lt _ _ n1
  have b2 := dd_lt _ _ n2
  rw [cb_cons]
  by_cases hlt : (Lib.decDigits V1).length + (12 - r1) < (Lib.decDigits V2).length + (12 - r2)
  · have hp : 10 ^ ((Lib.decDigits V1).length + (12 - r1)) ≤ 10 ^ ((Lib.decDigits V2).length + (12 - r2) - 1) := Nat.pow_le_pow_right (by omega) (by omega)
    have := b1.2.1
    have := b2.2.2 p2
    rw [if_pos (by omega)]
    unfold zc
    rw [if_pos (by omega)]
  by_cases hgt : (Lib.decDigits V2).length + (12 - r2) < (Lib.decDigits V1).length + (12 - r1)
  · have hp : 10 ^ ((Lib.decDigits V2).length + (12 - r2)) ≤ 10 ^ ((Lib.decDigits V1).length + (12 - r1) - 1) := Nat.pow_le_pow_right (by omega) (by omega)
    have := b2.2.1
    have := b1.2.2 p1
    rw [if_neg (by omega), if_pos (by omega)]
    unfold zc
    rw [if_neg (by omega), if_pos (by omega)]
  · rw [if_neg (by omega), if_neg (by omega)]
    have hc := cb_trim (P1 := Lib.decDigits (V1 * 10 ^ (12 - r1))) (P2 := Lib.decDigits (V2 * 10 ^ (12 - r2))) (by omega) (dd_range _) (dd_range _)
    rw [dd_cmp _ _ _ n1 (by omega), d1, d2, trim_rep, trim_rep] at hc
    exact hc
end Go.Proofs.YtcolgghllacloaaDoor.R
end

section
/-! Rf: what the laws draw: numbers and decimals. -/
set_option autoImplicit false
set_option linter.unusedSimpArgs false
set_option linter.unusedVariables false
namespace Go.Proofs.YtcolgghllacloaaDoor.R
open Go.Rf
/-- a reader's bytes -/
structure Rd (bs : List Int) : Prop where
  len : bs.length ≤ 2000
  b8 : ∀ y ∈ bs, 0 ≤ y ∧ y ≤ 255
theorem xor_small {a b : Int} (ha : 0 ≤ a) (ha2 : a < 4611686018427387904) (hb : 0 ≤ b) (hb2 : b < 4611686018427387904) : 0 ≤ IntKind.i64.wrap (((BitVec.ofInt IntKind.i64.bits a ^^^ BitVec.ofInt IntKind.i64.bits b).toNat : Nat) : Int) := by
  have e : IntKind.i64.bits = 64 := rfl
  have h1 : (BitVec.ofInt IntKind.i64.bits a).toNat < 2 ^ 62 := by
    rw [BitVec.toNat_ofInt, e]
    omega
  have h2 : (BitVec.ofInt IntKind.i64.bits b).toNat < 2 ^ 62 := by
    rw [BitVec.toNat_ofInt, e]
    omega
  have h3 : (BitVec.ofInt IntKind.i64.bits a ^^^ BitVec.ofInt IntKind.i64.bits b).toNat < 2 ^ 62 := by
    rw [BitVec.toNat_xor]
    exact Nat.xor_lt_two_pow h1 h2
  rw [wrap64 (by omega) (by omega)]
  omega
theorem tmod_range {x n : Int} (hx : 0 ≤ x) (hn : 1 ≤ n) : 0 ≤ x.tmod n ∧ x.tmod n < n := by
  rw [Int.tmod_eq_emod_of_nonneg hx]
  exact ⟨Int.emod_nonneg _ (by omega), Int.emod_lt_of_pos _ (by omega)⟩
def Fig (s : ByteArray) : Prop := ∀ b ∈ s.data.toList, 48 ≤ b.toNat ∧ b.toNat ≤ 57
theorem Fig.app {s t : ByteArray} (hs : Fig s) (ht : Fig t) : Fig (s ++ t) := by
  intro b hb
  rw [ByteArray.data_append, Array.toList_append, List.mem_append] at hb
  rcases hb with hb | hb
  · exact hs b hb
  · exact ht b hb
theorem fig1 {d : Nat} (h : d < 10) : Fig ⟨[UInt8.ofNat (48 + d)].toArray⟩ := by
  intro b hb
  have hb : b ∈ [UInt8.ofNat (48 + d)] := hb
  rw [List.mem_singleton.1 hb, UInt8.toNat_ofNat']
  omega
theorem size_app (s t : ByteArray) : (s ++ t).size = s.size + t.size := ByteArray.size_append ..
section
variable {bs : List Int} (hb : Rd bs)
include hb
end
end Go.Proofs.YtcolgghllacloaaDoor.R
end

section
/-! Rf: what the laws draw: big integers. -/
set_option autoImplicit false
set_option linter.unusedSimpArgs false
set_option linter.unusedVariables false
namespace Go.Proofs.YtcolgghllacloaaDoor.R
open Go.Rf
theorem byte_at {s : ByteArray} {i : Nat} (h : i < s.size) : s[i]? = some s[i] := by
  exact getElem?_pos s i h
theorem fig_at {s : ByteArray} (hs : Fig s) {i : Nat} (h : i < s.size) : 48 ≤ s[i].toNat ∧ s[i].toNat ≤ 57 := by
  refine hs _ ?_
  show s.data[i] ∈ s.data.toList
  rw [← Array.getElem_toList]
  exact List.getElem_mem _
theorem fig_extract {s : ByteArray} (hs : Fig s) (n : Nat) : Fig (s.extract 0 n) := by
  intro b hb
  rw [ByteArray.data_extract, Array.toList_extract] at hb
  exact hs b (List.mem_of_mem_drop (List.mem_of_mem_take hb))
theorem figVal {u : UInt8} (h : 48 ≤ u.toNat ∧ u.toNat ≤ 57) : IntKind.i64.wrap (IntKind.u8.wrap ((u.toNat : Int) - 48)) = ((u.toNat - 48 : Nat) : Int) := by
  rw [u8_small (by omega) (by omega), wrap64 (by omega) (by omega)]
  omega
theorem tmod_abs (x : Int) : (x.tmod 10000 < 0 → 0 - x.tmod 10000 = ((x.natAbs % 10000 : Nat) : Int)) ∧ (¬ x.tmod 10000 < 0 → x.tmod 10000 = ((x.natAbs % 10000 : Nat) : Int)) ∧ (x.tdiv 10000).natAbs = x.natAbs / 10000 ∧ -10000 < x.tmod 10000 ∧ x.tmod 10000 < 10000 := by
  rcases Int.natAbs_eq x with h | h
  · have h1 : x.tmod 10000 = ((x.natAbs % 10000 : Nat) : Int) := by
      rw [Int.tmod_eq_emod_of_nonneg (by omega)]; omega
    have h2 : x.tdiv 10000 = ((x.natAbs / 10000 : Nat) : Int) := by
      rw [Int.tdiv_eq_ediv_of_nonneg (by omega)]; omega
    rw [h1, h2]
    omega
  · have h1 : x.tmod 10000 = -((x.natAbs % 10000 : Nat) : Int) := by
      conv => lhs; rw [h]
      rw [Int.neg_tmod, Int.tmod_eq_emod_of_nonneg (by omega)]; omega
    have h2 : x.tdiv 10000 = -((x.natAbs / 10000 : Nat) : Int) := by
      conv => lhs; rw [h]
      rw [Int.neg_tdiv, Int.tdiv_eq_ediv_of_nonneg (by omega)]; omega
    rw [h1, h2]
    omega
section
variable {bs : List Int} (hb : Rd bs)
include hb
end
end Go.Proofs.YtcolgghllacloaaDoor.R
end

section
/-! Rf: types as texts: what both sides read. -/
set_option autoImplicit false
set_option linter.unusedSimpArgs false
set_option linter.unusedVariables false
namespace Go.Proofs.YtcolgghllacloaaDoor.R
open Go.Rf
/-! ### figures -/
theorem dg_dig (n : Nat) : Dig (Lib.decDigits n) := by
  induction n using Nat.strongRecOn with
  | _ n ih =>
    have one : ∀ d : Nat, d < 10 → Dig [UInt8.ofNat (48 + d)] := fun d hd b hb => by
      rw [List.mem_singleton] at hb
      subst hb
      rw [UInt8.toNat_ofNat']
      omega
    by_cases h : n < 10
    · rw [dd1 h]; exact one n h
    · rw [ddS h]; exact (ih (n / 10) (by omega)).app (one _ (by omega))
theorem dg_ne (n : Nat) : Lib.decDigits n ≠ [] := fun e => by
  have := (dd_lt _ n rfl).1
  rw [e] at this
  simp at this
theorem dg_le {n m : Nat} (hm : 0 < m) (h : n < 10 ^ m) : (Lib.decDigits n).length ≤ m := by
  obtain ⟨h0, _, h2⟩ := dd_lt _ n rfl
  by_cases hn : n = 0
  · subst hn; rw [dd1 (by omega), List.length_singleton]; omega
  · have h2 := h2 (by omega)
    by_cases hl : (Lib.decDigits n).length ≤ m
    · exact hl
    · have : 10 ^ m ≤ 10 ^ ((Lib.decDigits n).length - 1) := Nat.pow_le_pow_right (by omega) (by omega)
      omega
theorem dg_head (n : Nat) : 1 ≤ n → (Lib.decDigits n).head? ≠ some 48 := by
  induction n using Nat.strongRecOn with
  | _ n ih =>
    intro h1
    by_cases h : n < 10
    · rw [dd1 h]
      intro e
      have e := congrArg UInt8.toNat (Option.some.inj e)
      rw [UInt8.toNat_ofNat'] at e
      have : (48 : UInt8).toNat = 48 := rfl
      omega
    · rw [ddS h]
      have := ih (n / 10) (by omega) (by omega)
      cases hd : Lib.decDigits (n / 10) with
      | nil => exact absurd hd (dg_ne _)
      | cons b l => rw [hd] at this; simpa using this
theorem dg_first (n : Nat) : (Lib.decDigits n).length = 1 ∨ (Lib.decDigits n).head? ≠ some 48 := by
  by_cases h : n < 10
  · left; rw [dd1 h]; rfl
  · right; exact dg_head n (by omega)
theorem dd_dv : ∀ (n : Nat) {M : List UInt8}, M.length = n → Dig M → M ≠ [] → (M.length = 1 ∨ M.head? ≠ some 48) → Lib.decDigits (dv M) = M
  | 0, M, hn, _, hne, _ => absurd (List.length_eq_zero_iff.1 hn) hne
  | n + 1, M, hn, hD, hne, hz => by
    obtain ⟨K, b, rfl⟩ : ∃ K b, M = K ++ [b] := ⟨M.dropLast, M.getLast hne, (List.dropLast_concat_getLast hne).symm⟩
    have hb := hD b (by simp)
    have hK : Dig K := fun c hc => hD c (List.mem_append_left _ hc)
    have hKl : K.length = n := by simpa using hn
    have e : dv (K ++ [b]) = dv K * 10 + (b.toNat - 48) := by rw [dv_app, dv_one]; rfl
    have ob : UInt8.ofNat (48 + (b.toNat - 48)) = b := by
      rw [show 48 + (b.toNat - 48) = b.toNat by omega]
      exact UInt8.ofNat_toNat
    rw [e]
    by_cases hk : K = []
    · subst hk
      rw [dv_nil, Nat.zero_mul, Nat.zero_add, dd1 (by omega), ob]
      rfl
    · have hh : (K ++ [b]).head? ≠ some 48 := by
        rcases hz with h | h
        · rw [List.length_append, List.length_singleton] at h
          have := List.length_pos_iff.2 hk
          omega
        · exact h
      have hh' : K.head? ≠ some 48 := by
        cases K with
        | nil => exact absurd rfl hk
        | cons c l => simpa using hh
      have ih := dd_dv n hKl hK hk (.inr hh')
      have h1 : 1 ≤ dv K := by
        by_cases h0 : dv K = 0
        · rw [h0, dd1 (by omega)] at ih
          rw [← ih] at hh'
          exact absurd rfl hh'
        · omega
      rw [ddS (by omega), show (dv K * 10 + (b.toNat - 48)) / 10 = dv K by omega, show (dv K * 10 + (b.toNat - 48)) % 10 = b.toNat - 48 by omega, ih, ob]
open Classical in
/-- the number that a text is, -1 of others -/
noncomputable def numV (M : List UInt8) : Int := if Dig M ∧ M ≠ [] ∧ M.length ≤ 9 ∧ (M.length = 1 ∨ M.head? ≠ some 48) then (dv M : Int) else -1
theorem numV_or (M : List UInt8) : numV M = -1 ∨ ∃ n : Nat, numV M = n ∧ M = Lib.decDigits n := by
  unfold numV
  split
  · rename_i h
    exact .inr ⟨dv M, rfl, (dd_dv _ rfl h.1 h.2.1 h.2.2.2).symm⟩
  · exact .inl rfl
theorem numV_dd {n : Nat} (h : n < 10 ^ 9) : numV (Lib.decDigits n) = n := by
  unfold numV
  rw [if_pos ⟨dg_dig n, dg_ne n, dg_le (by omega) h, dg_first n⟩, dv_dd]
theorem l1Num_ev {M : List UInt8} (hl : M.length ≤ 1048576) : Ev (fun k => F51 k (ba M)) ((numV M, ()), ((), ())) := by
  refine Ev.step 2 (fun k => F51_eq k _) ?_
  have main : ∀ (m i : Nat), i + m = M.length → i ≤ 9 → Dig (M.take i) → Ev (fun k => F51c3 k (ba M) ((dv (M.take i) : Nat) : Int) (i : Int)) ((numV M, ()), ((), ())) := by
    intro m
    induction m with
    | zero =>
      intro i hi h9 hD
      have hM : M.take i = M := List.take_of_length_le (by omega)
      rw [hM] at hD ⊢
      refine Ev.step 1 (fun k => F51c3_eq k _ _ _) ?_
      simp only [decide_eq_false (show ¬ (i : Int) < ((ba M).size : Int) by rw [ba_size]; omega), Bool.false_eq_true, if_false]
      cases M with
      | nil =>
        have e : numV [] = -1 := if_neg (fun h => h.2.1 rfl)
        rw [e]
        exact Ev.now _
      | cons b M =>
        have e0 : (((ba (b :: M)).size : Int) == 0) = false := beq_eq_false_iff_ne.2 (by rw [ba_size, List.length_cons]; omega)
        have hg : (ba (b :: M))[0]? = some b := by rw [ba_get]; rfl
        simp only [e0, Bool.false_eq_true, if_false]
        by_cases h1 : M = []
        · subst h1
          have e : numV [b] = ((dv [b] : Nat) : Int) := if_pos ⟨hD, by simp, by simp, .inl rfl⟩
          rw [e]
          simp only [decide_eq_false (show ¬ ((ba [b]).size : Int) > 1 by rw [ba_size, List.length_singleton]; omega), Bool.false_eq_true, if_false]
          exact Ev.now _
        · have hp := List.length_pos_iff.2 h1
          simp only [decide_eq_true (show ((ba (b :: M)).size : Int) > 1 by rw [ba_size, List.length_cons]; omega), if_true, hg, Option.bind_some]
          by_cases h48 : b = 48
          · subst h48
            have e : numV (48 :: M) = -1 := if_neg (fun h => by
              rcases h.2.2.2 with h | h
              · rw [List.length_cons] at h; omega
              · exact h rfl)
            rw [e]
            exact Ev.now _
          · have : ((b.toNat : Int) == 48) = false := beq_eq_false_iff_ne.2 (fun e => h48 (UInt8.toNat_inj.1 (by have : (48 : UInt8).toNat = 48 := rfl; omega)))
            have e : numV (b :: M) = ((dv (b :: M) : Nat) : Int) := if_pos ⟨hD, by simp, by omega, .inr (by simpa using h48)⟩
            rw [e]
            simp only [this, Bool.false_eq_true, if_false]
            exact Ev.now _
    | succ m ih =>
      intro i hi h9 hD
      have hlt : i < M.length := by omega
      have hg : (ba M)[i]? = some M[i] := by rw [ba_get, List.getElem?_eq_getElem hlt]
      refine Ev.step 1 (fun k => F51c3_eq k _ _ _) ?_
      simp only [decide_eq_true (show (i : Int) < ((ba M).size : Int) by rw [ba_size]; omega), ge0, if_true, Int.toNat_natCast, hg, Option.bind_some]
      have no : ¬ (48 ≤ M[i].toNat ∧ M[i].toNat ≤ 57) → numV M = -1 := fun h => if_neg (fun h2 => h (h2.1 _ (List.getElem_mem hlt)))
      by_cases c1 : (M[i].toNat : Int) < 48
      · rw [no (by omega)]
        simp only [decide_eq_true c1, if_true]
        exact Ev.now _
      · by_cases c2 : (M[i].toNat : Int) > 57
        · rw [no (by omega)]
          simp only [decide_eq_false c1, decide_eq_true c2, Bool.false_eq_true, if_false, if_true]
          exact Ev.now _
        · simp only [decide_eq_false c1, decide_eq_false c2, Bool.false_eq_true, if_false]
          by_cases c3 : (i : Int) ≥ 9
          · have : numV M = -1 := if_neg (fun h2 => by omega)
            rw [this]
            simp only [decide_eq_true c3, if_true]
            exact Ev.now _
          · simp only [decide_eq_false c3, Bool.false_eq_true, if_false]
            have hlt10 := dv_lt hD
            have hp : (10 : Nat) ^ (M.take i).length ≤ 10 ^ 8 := Nat.pow_le_pow_right (by omega) (by rw [List.length_take]; omega)
            have e8 : (10 : Nat) ^ 8 = 100000000 := by decide
            have et : M.take (i + 1) = M.take i ++ [M[i]] := by rw [List.take_add_one, List.getElem?_eq_getElem hlt]; rfl
            have ev : dv (M.take (i + 1)) = dv (M.take i) * 10 + (M[i].toNat - 48) := by rw [et, dv_app, dv_one]; rfl
            have hu : IntKind.i64.wrap (IntKind.u8.wrap ((M[i].toNat : Int) - 48)) = ((M[i].toNat - 48 : Nat) : Int) := figVal ⟨by omega, by omega⟩
            have hw : IntKind.i64.wrap (IntKind.i64.wrap (((dv (M.take i) : Nat) : Int) * 10) + IntKind.i64.wrap (IntKind.u8.wrap ((M[i].toNat : Int) - 48))) = ((dv (M.take (i + 1)) : Nat) : Int) := by
              rw [hu, wrap64 (show -9223372036854775808 ≤ ((dv (M.take i) : Nat) : Int) * 10 by omega) (by omega), wrap64 (by omega) (by omega), ev]
              omega
            rw [hw]
            simp only [wrap_succ (show i < 9223372036854775807 by omega)]
            exact ih (i + 1) (by omega) (by omega) (by
              rw [et]
              exact hD.app (fun b hb => by rw [List.mem_singleton] at hb; subst hb; omega))
  have := main M.length 0 (by omega) (by omega) (fun b hb => by simp at hb)
  rw [List.take_zero, dv_nil] at this
  exact this
/-! ### cuts -/
theorem ext_all (L : List UInt8) (a : Nat) : (ba L).extract a (ba L).size = ba (L.drop a) := by rw [ba_extract, ba_size, List.take_length]
theorem cut1_ev {A B : List UInt8} {c : UInt8} (hA : c ∉ A) (hl : (A ++ c :: B).length ≤ 1048576) : Ev (fun k => F50 k (ba (A ++ c :: B)) (c.toNat : Int) 1) (([ba A, ba B], ()), ((), (), (), ())) := by
  rw [List.length_append, List.length_cons] at hl
  refine Ev.step 2 (fun k => F50_eq k _ _ _) ?_
  have hs : ((ba (A ++ c :: B)).size : Int) = (A.length : Int) + B.length + 1 := by rw [ba_size, List.length_append, List.length_cons]; omega
  have last : Ev (fun k => F50c4 k (ba (A ++ c :: B)) (c.toNat : Int) 1 [ba A] ((A.length + 1 : Nat) : Int) ((A.length + 1 : Nat) : Int)) (([ba A, ba B], ()), ((), (), (), ())) := by
    refine Ev.step 1 (fun k => F50c4_eq k _ _ _ _ _ _) ?_
    have e1 : decide ((([ba A] : List ByteArray).length : Int) < 1) = false := rfl
    have e2 : (decide (0 ≤ ((A.length + 1 : Nat) : Int)) && decide (((A.length + 1 : Nat) : Int) ≤ ((ba (A ++ c :: B)).size : Int))) = true := by rw [hs]; simp; omega
    have e3 : (ba (A ++ c :: B)).extract ((A.length + 1 : Nat) : Int).toNat (ba (A ++ c :: B)).size = ba B := by
      rw [ext_all, Int.toNat_natCast]
      congr 1
      rw [List.drop_append, List.drop_eq_nil_of_le (by omega), show A.length + 1 - A.length = 1 by omega]
      rfl
    simp only [e1, e2, e3, Bool.false_eq_true, if_false, if_true]
    by_cases h : ((A.length + 1 : Nat) : Int) < ((ba (A ++ c :: B)).size : Int)
    · simp only [decide_eq_true h, if_true]
      exact Ev.now _
    · simp only [decide_eq_false h, Bool.false_eq_true, if_false]
      exact Ev.now _
  have main : ∀ (m i : Nat), i + m = A.length → Ev (fun k => F50c4 k (ba (A ++ c :: B)) (c.toNat : Int) 1 [] 0 (i : Int)) (([ba A, ba B], ()), ((), (), (), ())) := by
    intro m
    induction m with
    | zero =>
      intro i hi
      obtain rfl : i = A.length := by omega
      have hg : (ba (A ++ c :: B))[A.length]? = some c := by rw [ba_get, List.getElem?_append_right (Nat.le_refl _), Nat.sub_self]; rfl
      have e1 : decide ((([] : List ByteArray).length : Int) < 1) = true := rfl
      have e2 : (decide ((0 : Int) ≤ 0) && true && decide ((A.length : Int) ≤ ((ba (A ++ c :: B)).size : Int))) = true := by rw [hs]; simp; omega
      have e3 : (ba (A ++ c :: B)).extract (0 : Int).toNat A.length = ba A := by
        rw [ba_extract]
        congr 1
        rw [List.take_left]
        rfl
      refine Ev.step 1 (fun k => F50c4_eq k _ _ _ _ _ _) ?_
      simp only [decide_eq_true (show (A.length : Int) < ((ba (A ++ c :: B)).size : Int) by rw [hs]; omega), e1, ge0, if_true, Int.toNat_natCast, hg, Option.bind_some, beq_self_eq_true, e2, e3, wrap_succ (show A.length < 9223372036854775807 by omega)]
      refine Ev.step 1 (fun k => F50c5_eq k _ _ _ _ _ _ _ _ _) ?_
      simp only [wrap_succ (show A.length < 9223372036854775807 by omega)]
      exact last
    | succ m ih =>
      intro i hi
      have hlt : i < A.length := by omega
      have hg : (ba (A ++ c :: B))[i]? = some A[i] := by rw [ba_get, List.getElem?_append_left hlt, List.getElem?_eq_getElem hlt]
      have e1 : decide ((([] : List ByteArray).length : Int) < 1) = true := rfl
      have hne : ((A[i].toNat : Int) == (c.toNat : Int)) = false := beq_eq_false_iff_ne.2 (fun e => hA (by
        have : A[i] = c := UInt8.toNat_inj.1 (by omega)
        rw [← this]
        exact List.getElem_mem hlt))
      refine Ev.step 1 (fun k => F50c4_eq k _ _ _ _ _ _) ?_
      simp only [decide_eq_true (show (i : Int) < ((ba (A ++ c :: B)).size : Int) by rw [hs]; omega), e1, ge0, if_true, Int.toNat_natCast, hg, Option.bind_some, hne, Bool.false_eq_true, if_false]
      refine Ev.step 1 (fun k => F50c5_eq k _ _ _ _ _ _ _ _ _) ?_
      simp only [wrap_succ (show i < 9223372036854775807 by omega)]
      exact ih (i + 1) (by omega)
  exact main A.length 0 (by omega)
theorem cut0_ev {A : List UInt8} {c : UInt8} (hA : c ∉ A) (hl : A.length ≤ 1048576) : Ev (fun k => F50 k (ba A) (c.toNat : Int) 1) (([ba A], ()), ((), (), (), ())) := by
  refine Ev.step 2 (fun k => F50_eq k _ _ _) ?_
  have main : ∀ (m i : Nat), i + m = A.length → Ev (fun k => F50c4 k (ba A) (c.toNat : Int) 1 [] 0 (i : Int)) (([ba A], ()), ((), (), (), ())) := by
    intro m
    induction m with
    | zero =>
      intro i hi
      refine Ev.step 1 (fun k => F50c4_eq k _ _ _ _ _ _) ?_
      have e2 : (decide ((0 : Int) ≤ 0) && decide ((0 : Int) ≤ ((ba A).size : Int))) = true := by rw [ba_size]; simp
      have e3 : (ba A).extract (0 : Int).toNat (ba A).size = ba A := ext_all A 0
      simp only [decide_eq_false (show ¬ (i : Int) < ((ba A).size : Int) by rw [ba_size]; omega), Bool.false_eq_true, if_false, e2, e3, if_true]
      exact Ev.now _
    | succ m ih =>
      intro i hi
      have hlt : i < A.length := by omega
      have hg : (ba A)[i]? = some A[i] := by rw [ba_get, List.getElem?_eq_getElem hlt]
      have e1 : decide ((([] : List ByteArray).length : Int) < 1) = true := rfl
      have hne : ((A[i].toNat : Int) == (c.toNat : Int)) = false := beq_eq_false_iff_ne.2 (fun e => hA (by
        have : A[i] = c := UInt8.toNat_inj.1 (by omega)
        rw [← this]
        exact List.getElem_mem hlt))
      refine Ev.step 1 (fun k => F50c4_eq k _ _ _ _ _ _) ?_
      simp only [decide_eq_true (show (i : Int) < ((ba A).size : Int) by rw [ba_size]; omega), e1, ge0, if_true, Int.toNat_natCast, hg, Option.bind_some, hne, Bool.false_eq_true, if_false]
      refine Ev.step 1 (fun k => F50c5_eq k _ _ _ _ _ _ _ _ _) ?_
      simp only [wrap_succ (show i < 9223372036854775807 by omega)]
      exact ih (i + 1) (by omega)
  exact main A.length 0 (by omega)
/-- a text that is parted at its first c -/
theorem part_or (c : UInt8) : ∀ M : List UInt8, c ∉ M ∨ ∃ A B, c ∉ A ∧ M = A ++ c :: B
  | [] => .inl (by simp)
  | b :: M => by
    by_cases h : b = c
    · subst h
      exact .inr ⟨[], M, by simp, rfl⟩
    · rcases part_or c M with h1 | ⟨A, B, h1, rfl⟩
      · exact .inl (fun hm => by
          rcases List.mem_cons.1 hm with h2 | h2
          · exact h h2.symm
          · exact h1 h2)
      · exact .inr ⟨b :: A, B, fun hm => by
          rcases List.mem_cons.1 hm with h2 | h2
          · exact h h2.symm
          · exact h1 h2, rfl⟩
theorem part_one {c : UInt8} : ∀ {A A' B B' : List UInt8}, c ∉ A → c ∉ A' → A ++ c :: B = A' ++ c :: B' → A = A' ∧ B = B'
  | [], [], B, B', _, _, h => ⟨rfl, (List.cons.inj h).2⟩
  | [], a :: A', B, B', _, h2, h => absurd (List.cons.inj h).1 (fun e => h2 (by rw [e]; exact List.mem_cons_self))
  | a :: A, [], B, B', h1, _, h => absurd (List.cons.inj h).1.symm (fun e => h1 (by rw [e]; exact List.mem_cons_self))
  | a :: A, a' :: A', B, B', h1, h2, h => by
    obtain ⟨e, h3⟩ := List.cons.inj h
    obtain ⟨rfl, rfl⟩ := part_one (fun hm => h1 (List.mem_cons_of_mem _ hm)) (fun hm => h2 (List.mem_cons_of_mem _ hm)) h3
    exact ⟨by rw [e], rfl⟩
theorem dig_no44 {A : List UInt8} (h : Dig A) : (44 : UInt8) ∉ A := fun hm => absurd (h _ hm).1 (by decide)
theorem dig_no58 {A : List UInt8} (h : Dig A) : (58 : UInt8) ∉ A := fun hm => absurd (h _ hm).2 (by decide)
end Go.Proofs.YtcolgghllacloaaDoor.R
end

section
/-! Rf: both sides read a type alike. -/
set_option autoImplicit false
set_option linter.unusedSimpArgs false
set_option linter.unusedVariables false
namespace Go.Proofs.YtcolgghllacloaaDoor.R
open Go.Rf
/-! ### a beginning, an end -/
theorem take_size {L P : List UInt8} : ((ba L).extract 0 P.length).toList = L.take P.length := by
  rw [ba_extract, List.drop_zero, ba_list]
theorem index_part {c : UInt8} : ∀ {X Y : List UInt8}, c ∉ X → Lib.index (X ++ c :: Y) [c] = X.length
  | [], Y, _ => by
    show (if ([c] : List UInt8).isPrefixOf (c :: Y) then (0 : Int) else _) = _
    rw [if_pos (by show ((c == c) && _) = true; simp)]
    rfl
  | b :: X, Y, h => by
    have ih := index_part (Y := Y) (fun hm => h (List.mem_cons_of_mem _ hm))
    have hb : (c == b) = false := beq_eq_false_iff_ne.2 (fun e => h (by rw [e]; exact List.mem_cons_self))
    have e : ([c] : List UInt8).isPrefixOf (b :: (X ++ c :: Y)) = false := by
      show ((c == b) && _) = false
      rw [hb, Bool.false_and]
    rw [List.cons_append, Lib.index, e, ih]
    simp only [Bool.false_eq_true, if_false]
    rw [if_neg (by rw [beq_iff_eq]; omega), List.length_cons]
    omega
theorem cutA_ev (L : List UInt8) (c : UInt8) (hL : L.length ≤ 2000000) : ∃ (A B : List UInt8) (t : Bool), A.length ≤ L.length ∧ B.length ≤ L.length ∧ (∀ X Y, c ∉ X → L = X ++ c :: Y → A = X ∧ B = Y ∧ t = true) ∧ (c ∉ L → t = false) ∧
    Ev (fun k => F30 k (ba L) (ba [c])) ((ba A, ba B, t, ()), ((), (), ())) := by
  refine ⟨(Lib.cut L [c]).1, (Lib.cut L [c]).2.1, (Lib.cut L [c]).2.2, ?_, ?_, fun X Y hX hL => ?_, fun hc => ?_, Ev.step 1 (fun k => F30_eq k _ _) ?_⟩
  · unfold Lib.cut
    split
    · rw [List.length_take]; exact Nat.min_le_right _ _
    · exact Nat.le_refl _
  · unfold Lib.cut
    split
    · rw [List.length_drop]; omega
    · exact Nat.zero_le _
  · unfold Lib.cut
    rw [hL, index_part hX, if_pos (by omega), Int.toNat_natCast]
    refine ⟨by rw [List.take_left], ?_, rfl⟩
    show (X ++ c :: Y).drop (X.length + 1) = Y
    rw [List.drop_append, List.drop_eq_nil_of_le (by omega), show X.length + 1 - X.length = 1 by omega]
    rfl
  · have : ∀ M : List UInt8, c ∉ M → Lib.index M [c] = -1 := by
      intro M
      induction M with
      | nil => intro _; rfl
      | cons b M ih =>
        intro h
        have ih := ih (fun hm => h (List.mem_cons_of_mem _ hm))
        have hb : (c == b) = false := beq_eq_false_iff_ne.2 (fun e => h (by rw [e]; exact List.mem_cons_self))
        have e : ([c] : List UInt8).isPrefixOf (b :: M) = false := by
          show ((c == b) && _) = false
          rw [hb, Bool.false_and]
        rw [Lib.index, e, ih]
        rfl
    unfold Lib.cut
    rw [this L hc, if_neg (by omega)]
  · unfold cutR
    dsimp only
    rw [Nat.ble_eq_true_of_le (show (ba L).size + 1 ≤ 4294967281 by rw [ba_size]; omega)]
    exact Ev.now _
/-- a number of two figures at most -/
def d2 (n : Nat) : List UInt8 := if n < 10 then [UInt8.ofNat (48 + n)] else [UInt8.ofNat (48 + n / 10), UInt8.ofNat (48 + n % 10)]
theorem dd_d2 {n : Nat} (h : n < 100) : Lib.decDigits n = d2 n := by
  unfold d2
  by_cases h1 : n < 10
  · rw [if_pos h1, dd1 h1]
  · rw [if_neg h1, ddS h1, dd1 (by omega)]
    rfl
theorem atoi_d2 : ∀ n : Fin 100, Lib.atoiAll (d2 n.val) = .ok (n.val : Int) := by decide
theorem atoiA_ev (M : List UInt8) (hM : M.length ≤ 2000000) : ∃ (v : Int) (b : Bool), (∀ n : Nat, n < 100 → M = Lib.decDigits n → v = n ∧ b = true) ∧ Ev (fun k => F31 k (ba M)) ((v, b, ()), ((), ())) := by
  have h1 : Nat.ble (ba M).size 281474976710656 = true := Nat.ble_eq_true_of_le (by rw [ba_size]; omega)
  have key : ∀ n : Nat, n < 100 → M = Lib.decDigits n → Lib.atoiAll M = .ok (n : Int) := fun n hn hM => by rw [hM, dd_d2 hn]; exact atoi_d2 ⟨n, hn⟩
  cases ha : Lib.atoiAll M with
  | ok v =>
    refine ⟨v, true, fun n hn hM => ?_, Ev.step 1 (fun k => F31_eq k _) ?_⟩
    · have := key n hn hM
      rw [ha] at this
      injection this with this
      exact ⟨this, rfl⟩
    · unfold atoiaR
      dsimp only
      rw [h1, show (ba M).data.toList = M from rfl, ha]
      exact Ev.now _
  | range =>
    refine ⟨Lib.atoiSat M, false, fun n hn hM => ?_, Ev.step 1 (fun k => F31_eq k _) ?_⟩
    · have := key n hn hM
      rw [ha] at this
      cases this
    · unfold atoiaR
      dsimp only
      rw [h1, show (ba M).data.toList = M from rfl, ha]
      exact Ev.now _
  | _ =>
    refine ⟨0, false, fun n hn hM => ?_, Ev.step 1 (fun k => F31_eq k _) ?_⟩
    · have := key n hn hM
      rw [ha] at this
      cases this
    · unfold atoiaR
      dsimp only
      rw [h1, show (ba M).data.toList = M from rfl, ha]
      exact Ev.now _
end Go.Proofs.YtcolgghllacloaaDoor.R
end

section
/-! Rf: numbers and entries of a node's text, read. -/
set_option autoImplicit false
set_option linter.unusedSimpArgs false
set_option linter.unusedVariables false
namespace Go.Proofs.YtcolgghllacloaaDoor.R
open Go.Rf
abbrev dd (n : Nat) : List UInt8 := Lib.decDigits n
/-- two numbers, a comma between, a colon behind -/
def top2 (na nb : Nat) : List UInt8 := dd na ++ 44 :: dd nb
theorem no58_top2 (na nb : Nat) : (58 : UInt8) ∉ top2 na nb := by
  unfold top2
  simp only [List.mem_append, List.mem_cons, not_or]
  exact ⟨dig_no58 (dg_dig na), by decide, dig_no58 (dg_dig nb)⟩
theorem no44_dd (n : Nat) : (44 : UInt8) ∉ dd n := dig_no44 (dg_dig n)
theorem nums_ev (M : List UInt8) (hM : M.length ≤ 1048576) : ∃ a b h : Int, Ev (fun k => F49 k (ba M)) ((a, b, h, ()), ((), ())) ∧
    (h = 0 ∨ ∃ (na nb : Nat) (T : List UInt8), 1 ≤ na ∧ na ≤ 96 ∧ nb ≤ 140 ∧ a = na ∧ b = nb ∧ M = top2 na nb ++ 58 :: T ∧ h = ((top2 na nb).length + 1 : Nat)) ∧
    (∀ (na nb : Nat) (T : List UInt8), 1 ≤ na → na ≤ 96 → nb ≤ 140 → M = top2 na nb ++ 58 :: T → a = na ∧ b = nb ∧ h = ((top2 na nb).length + 1 : Nat)) := by
  have c58 : ((58 : UInt8).toNat : Int) = 58 := rfl
  have c44 : ((44 : UInt8).toNat : Int) = 44 := rfl
  have zero : ∀ {q}, Ev (fun k => F49 k (ba M)) (((0 : Int), (0 : Int), (0 : Int), ()), ((), ())) → (∀ (na nb : Nat) (T : List UInt8), 1 ≤ na → na ≤ 96 → nb ≤ 140 → M = top2 na nb ++ 58 :: T → q) → (q → False) → ∃ a b h : Int, Ev (fun k => F49 k (ba M)) ((a, b, h, ()), ((), ())) ∧
    (h = 0 ∨ ∃ (na nb : Nat) (T : List UInt8), 1 ≤ na ∧ na ≤ 96 ∧ nb ≤ 140 ∧ a = na ∧ b = nb ∧ M = top2 na nb ++ 58 :: T ∧ h = ((top2 na nb).length + 1 : Nat)) ∧
    (∀ (na nb : Nat) (T : List UInt8), 1 ≤ na → na ≤ 96 → nb ≤ 140 → M = top2 na nb ++ 58 :: T → a = na ∧ b = nb ∧ h = ((top2 na nb).length + 1 : Nat)) :=
    fun he hq hn => ⟨0, 0, 0, he, .inl rfl, fun na nb T h1 h2 h3 h4 => (hn (hq na nb T h1 h2 h3 h4)).elim⟩
  rcases part_or 58 M with h58 | ⟨A, B, h58, rfl⟩
  · have e1 := cut0_ev h58 hM
    rw [c58] at e1
    have ⟨R, e2⟩ : ∃ R, Ev (fun k => F50 k (ba M) (44 : Int) 1) ((R, ()), ((), (), (), ())) := by
      rcases part_or 44 M with h44 | ⟨C, E, h44, rfl⟩
      · have := cut0_ev h44 hM
        rw [c44] at this
        exact ⟨_, this⟩
      · have := cut1_ev (B := E) h44 hM
        rw [c44] at this
        exact ⟨_, this⟩
    refine zero (q := False) (Ev.step 2 (fun k => F49_eq k _) (Ev.bind e1 ?_)) (fun na nb T _ _ _ h4 => h58 (by rw [h4]; simp)) id
    simp only [List.getElem?_cons_zero, Option.bind_some]
    refine Ev.bind e2 ?_
    exact Ev.now _
  · have hA : A.length ≤ 1048576 := by simp only [List.length_append, List.length_cons] at hM; omega
    have e1 := cut1_ev (B := B) h58 hM
    rw [c58] at e1
    rcases part_or 44 A with h44 | ⟨C, E, h44, rfl⟩
    · have e2 := cut0_ev h44 hA
      rw [c44] at e2
      refine zero (q := False) (Ev.step 2 (fun k => F49_eq k _) (Ev.bind e1 ?_)) (fun na nb T _ _ _ h4 => ?_) id
      · simp only [List.getElem?_cons_zero, Option.bind_some]
        refine Ev.bind e2 ?_
        exact Ev.now _
      · obtain ⟨rfl, _⟩ := part_one h58 (no58_top2 na nb) h4
        exact h44 (by unfold top2; simp)
    · have hC : C.length ≤ 1048576 := by simp only [List.length_append, List.length_cons] at hA; omega
      have hE : E.length ≤ 1048576 := by simp only [List.length_append, List.length_cons] at hA; omega
      have e2 := cut1_ev (B := E) h44 hA
      rw [c44] at e2
      have n1 := l1Num_ev hC
      have n2 := l1Num_ev hE
      have back : ∀ (na nb : Nat) (T : List UInt8), (C ++ 44 :: E) ++ 58 :: B = top2 na nb ++ 58 :: T → C = dd na ∧ E = dd nb ∧ B = T := fun na nb T h4 => by
        obtain ⟨h5, h6⟩ := part_one h58 (no58_top2 na nb) h4
        unfold top2 at h5
        obtain ⟨h7, h8⟩ := part_one h44 (no44_dd na) h5
        exact ⟨h7, h8, h6⟩
      have go : ∀ {q}, Ev (fun k => (F41 k (numV C) (1 : Int) (96 : Int)).bind fun r8 => if (!r8.1.1) = true then some (((0 : Int), (0 : Int), (0 : Int), ()), ((), ())) else (F41 k (numV E) (0 : Int) (140 : Int)).bind fun r9 => if (!r9.1.1) = true then some (((0 : Int), (0 : Int), (0 : Int), ()), ((), ())) else some ((numV C, numV E, (IntKind.i64.wrap (((ba (C ++ 44 :: E)).size : Int) + (1 : Int))), ()), ((), ()))) q → Ev (fun k => F49 k (ba ((C ++ 44 :: E) ++ 58 :: B))) q := fun hq => by
        refine Ev.step 2 (fun k => F49_eq k _) (Ev.bind e1 ?_)
        simp only [List.getElem?_cons_zero, List.getElem?_cons_succ, Option.bind_some]
        refine Ev.bind e2 ?_
        have q2 : (((2 : Nat) : Int) != (2 : Int)) = false := rfl
        simp only [List.length_cons, List.length_nil, Nat.zero_add, Nat.reduceAdd, q2, Bool.false_eq_true, if_false, List.getElem?_cons_zero, List.getElem?_cons_succ, Option.bind_some]
        exact Ev.bind n1 (Ev.bind n2 hq)
      cases hw1 : inNode (numV C) 1 96 with
      | false =>
        refine zero (q := False) (go (Ev.bind (F41_ev _ _ _) ?_)) (fun na nb T h1 h2 h3 h4 => ?_) id
        · simp only [hw1, Bool.not_false, if_true]
          exact Ev.now _
        · obtain ⟨rfl, _, _⟩ := back na nb T h4
          rw [numV_dd (by omega)] at hw1
          unfold inNode at hw1
          simp only [Bool.and_eq_false_iff, decide_eq_false_iff_not] at hw1
          omega
      | true =>
        cases hw2 : inNode (numV E) 0 140 with
        | false =>
          refine zero (q := False) (go (Ev.bind (F41_ev _ _ _) ?_)) (fun na nb T h1 h2 h3 h4 => ?_) id
          · simp only [hw1, Bool.not_true, Bool.false_eq_true, if_false]
            refine Ev.bind (F41_ev _ _ _) ?_
            simp only [hw2, Bool.not_false, if_true]
            exact Ev.now _
          · obtain ⟨_, rfl, _⟩ := back na nb T h4
            rw [numV_dd (by omega)] at hw2
            unfold inNode at hw2
            simp only [Bool.and_eq_false_iff, decide_eq_false_iff_not] at hw2
            omega
        | true =>
          have sz : (ba (C ++ 44 :: E)).size = (C ++ 44 :: E).length := rfl
          have ew : IntKind.i64.wrap (((ba (C ++ 44 :: E)).size : Int) + 1) = (((C ++ 44 :: E).length + 1 : Nat) : Int) := by rw [sz]; exact wrap_succ (by omega)
          refine ⟨numV C, numV E, (((C ++ 44 :: E).length + 1 : Nat) : Int), go (Ev.bind (F41_ev _ _ _) ?_), .inr ?_, fun na nb T h1 h2 h3 h4 => ?_⟩
          · simp only [hw1, Bool.not_true, Bool.false_eq_true, if_false]
            refine Ev.bind (F41_ev _ _ _) ?_
            simp only [hw2, Bool.not_true, Bool.false_eq_true, if_false, ew]
            exact Ev.now _
          · unfold inNode at hw1 hw2
            simp only [Bool.and_eq_true, decide_eq_true_eq] at hw1 hw2
            rcases numV_or C with hc | ⟨na, hc, rfl⟩
            · omega
            rcases numV_or E with he | ⟨nb, he, rfl⟩
            · omega
            rw [hc] at hw1
            rw [he] at hw2
            exact ⟨na, nb, B, by omega, by omega, by omega, hc, he, rfl, rfl⟩
          · obtain ⟨rfl, rfl, rfl⟩ := back na nb T h4
            exact ⟨numV_dd (by omega), numV_dd (by omega), rfl⟩
/-! the program's own reading -/
def d3 (n : Nat) : List UInt8 := if n < 10 then [UInt8.ofNat (48 + n)] else if n < 100 then [UInt8.ofNat (48 + n / 10), UInt8.ofNat (48 + n % 10)] else [UInt8.ofNat (48 + n / 100), UInt8.ofNat (48 + n / 10 % 10), UInt8.ofNat (48 + n % 10)]
theorem dd_d3 {n : Nat} (h : n < 200) : dd n = d3 n := by
  show Lib.decDigits n = _
  unfold d3
  by_cases h1 : n < 10
  · rw [if_pos h1, dd1 h1]
  · rw [if_neg h1, ddS (by omega)]
    by_cases h2 : n < 100
    · rw [if_pos h2, dd1 (by omega)]
      rfl
    · rw [if_neg h2, ddS (by omega), dd1 (by omega), show n / 10 / 10 = n / 100 by omega]
      rfl
set_option maxRecDepth 20000 in
theorem atoi_d3 : ∀ n : Fin 200, Lib.atoiAll (d3 n.val) = .ok (n.val : Int) := by decide
theorem atoiB_ev (M : List UInt8) (hM : M.length ≤ 2000000) : ∃ (v : Int) (b : Bool), (∀ n : Nat, n < 200 → M = dd n → v = n ∧ b = true) ∧ Ev (fun k => F31 k (ba M)) ((v, b, ()), ((), ())) := by
  cases ha : Lib.atoiAll M with
  | ok v =>
    refine ⟨v, true, fun n hn hM => ?_, Ev.step 1 (fun k => F31_eq k _) ?_⟩
    · rw [hM, dd_d3 hn, atoi_d3 ⟨n, hn⟩] at ha
      cases ha
      exact ⟨rfl, rfl⟩
    · unfold atoiaR
      dsimp only
      rw [ba_size, Nat.ble_eq_true_of_le (by omega), ba_data, ha]
      exact Ev.now _
  | range =>
    refine ⟨Lib.atoiSat M, false, fun n hn hM => ?_, Ev.step 1 (fun k => F31_eq k _) ?_⟩
    · rw [hM, dd_d3 hn, atoi_d3 ⟨n, hn⟩] at ha
      cases ha
    · unfold atoiaR
      dsimp only
      rw [ba_size, Nat.ble_eq_true_of_le (by omega), ba_data, ha]
      exact Ev.now _
  | _ =>
    refine ⟨0, false, fun n hn hM => ?_, Ev.step 1 (fun k => F31_eq k _) ?_⟩
    · rw [hM, dd_d3 hn, atoi_d3 ⟨n, hn⟩] at ha
      cases ha
    · unfold atoiaR
      dsimp only
      rw [ba_size, Nat.ble_eq_true_of_le (by omega), ba_data, ha]
      exact Ev.now _
theorem entry_ev (M : List UInt8) (hM : M.length ≤ 1048576) : ∃ (key : ByteArray) (n : Int) (R : List UInt8) (ok : Bool), Ev (fun k => F32 k (ba M)) ((key, n, ba R, ok, ()), ((), ())) ∧ (ok = true → R.length < M.length) ∧
    (∀ (na nb : Nat) (T : List UInt8), na < 200 → nb < 200 → na ≤ T.length → M = top2 na nb ++ 58 :: T → ok = true ∧ key = ba (T.take na) ∧ n = nb ∧ R = T.drop na) := by
  obtain ⟨A, B, t, hA, hB, ht, hf, e1⟩ := cutA_ev M 58 (by omega)
  obtain ⟨C, E, t2, hC, hE, ht2, hf2, e2⟩ := cutA_ev A 44 (by omega)
  obtain ⟨v1, b1, hv1, e3⟩ := atoiB_ev C (by omega)
  obtain ⟨v2, b2, hv2, e4⟩ := atoiB_ev E (by omega)
  have go : ∀ {q}, Ev (fun k => if (!t) = true then some (((⟨#[]⟩ : ByteArray), (0 : Int), (⟨#[]⟩ : ByteArray), false, ()), ((), ())) else if (!t2) = true then some (((⟨#[]⟩ : ByteArray), (0 : Int), (⟨#[]⟩ : ByteArray), false, ()), ((), ())) else if (!b1) = true then some (((⟨#[]⟩ : ByteArray), (0 : Int), (⟨#[]⟩ : ByteArray), false, ()), ((), ())) else if (!b2) = true then some (((⟨#[]⟩ : ByteArray), (0 : Int), (⟨#[]⟩ : ByteArray), false, ()), ((), ())) else (F33 k v1 (0 : Int) ((ba B).size : Int)).bind fun r5 => if (!r5.1.1) = true then some (((⟨#[]⟩ : ByteArray), (0 : Int), (⟨#[]⟩ : ByteArray), false, ()), ((), ())) else if (decide (0 ≤ v1) && decide (v1 ≤ ((ba B).size : Int))) = true then if (decide (0 ≤ v1) && decide (v1 ≤ ((ba B).size : Int))) = true then some (((ba B).extract 0 v1.toNat, v2, (ba B).extract v1.toNat (ba B).size, true, ()), ((), ())) else none else none) q → Ev (fun k => F32 k (ba M)) q := fun hq =>
    Ev.step 2 (fun k => F32_eq k _) (Ev.bind e1 (Ev.bind e2 (Ev.bind e3 (Ev.bind e4 hq))))
  have back : ∀ (na nb : Nat) (T : List UInt8), na < 200 → nb < 200 → M = top2 na nb ++ 58 :: T → t = true ∧ t2 = true ∧ b1 = true ∧ b2 = true ∧ v1 = na ∧ v2 = nb ∧ B = T := fun na nb T h1 h2 h4 => by
    obtain ⟨rfl, rfl, h5⟩ := ht _ _ (no58_top2 na nb) h4
    obtain ⟨rfl, rfl, h6⟩ := ht2 _ _ (no44_dd na) rfl
    obtain ⟨h7, h8⟩ := hv1 na h1 rfl
    obtain ⟨h9, h10⟩ := hv2 nb h2 rfl
    exact ⟨h5, h6, h8, h10, h7, h9, rfl⟩
  have fail : Ev (fun k => F32 k (ba M)) (((⟨#[]⟩ : ByteArray), (0 : Int), (⟨#[]⟩ : ByteArray), false, ()), ((), ())) → (∀ (na nb : Nat) (T : List UInt8), na < 200 → nb < 200 → na ≤ T.length → M = top2 na nb ++ 58 :: T → False) → ∃ (key : ByteArray) (n : Int) (R : List UInt8) (ok : Bool), Ev (fun k => F32 k (ba M)) ((key, n, ba R, ok, ()), ((), ())) ∧ (ok = true → R.length < M.length) ∧
    (∀ (na nb : Nat) (T : List UInt8), na < 200 → nb < 200 → na ≤ T.length → M = top2 na nb ++ 58 :: T → ok = true ∧ key = ba (T.take na) ∧ n = nb ∧ R = T.drop na) :=
    fun he hn => ⟨⟨#[]⟩, 0, [], false, he, (fun h => by cases h), fun na nb T h1 h2 h3 h4 => (hn na nb T h1 h2 h3 h4).elim⟩
  cases t with
  | false => exact fail (go (by simp only [Bool.not_false, if_true]; exact Ev.now _)) (fun na nb T h1 h2 _ h4 => by have := (back na nb T h1 h2 h4).1; cases this)
  | true =>
    have hlt : B.length < M.length := by
      rcases part_or 58 M with h | ⟨X, Y, h, rfl⟩
      · have := hf h; cases this
      · obtain ⟨rfl, rfl, _⟩ := ht X Y h rfl
        simp only [List.length_append, List.length_cons]
        omega
    cases t2 with
    | false => exact fail (go (by simp only [Bool.not_true, Bool.not_false, Bool.false_eq_true, if_false, if_true]; exact Ev.now _)) (fun na nb T h1 h2 _ h4 => by have := (back na nb T h1 h2 h4).2.1; cases this)
    | true =>
      cases b1 with
      | false => exact fail (go (by simp only [Bool.not_true, Bool.not_false, Bool.false_eq_true, if_false, if_true]; exact Ev.now _)) (fun na nb T h1 h2 _ h4 => by have := (back na nb T h1 h2 h4).2.2.1; cases this)
      | true =>
        cases b2 with
        | false => exact fail (go (by simp only [Bool.not_true, Bool.not_false, Bool.false_eq_true, if_false, if_true]; exact Ev.now _)) (fun na nb T h1 h2 _ h4 => by have := (back na nb T h1 h2 h4).2.2.2.1; cases this)
        | true =>
          cases hw : inNode v1 0 ((ba B).size : Int) with
          | false =>
            refine fail (go ?_) (fun na nb T h1 h2 h3 h4 => ?_)
            · simp only [Bool.not_true, Bool.false_eq_true, if_false]
              refine Ev.bind (F33_ev _ _ _) ?_
              simp only [hw, Bool.not_false, if_true]
              exact Ev.now _
            · obtain ⟨_, _, _, _, h7, _, rfl⟩ := back na nb T h1 h2 h4
              rw [h7, ba_size] at hw
              unfold inNode at hw
              simp only [Bool.and_eq_false_iff, decide_eq_false_iff_not] at hw
              omega
          | true =>
            have hw' : 0 ≤ v1 ∧ v1 ≤ (B.length : Int) := by
              unfold inNode at hw
              simp only [Bool.and_eq_true, decide_eq_true_eq] at hw
              exact hw
            have hc : (decide (0 ≤ v1) && decide (v1 ≤ ((ba B).size : Int))) = true := by
              simp only [Bool.and_eq_true, decide_eq_true_eq]
              exact hw'
            refine ⟨ba (B.take v1.toNat), v2, B.drop v1.toNat, true, go ?_, fun _ => by rw [List.length_drop]; omega, fun na nb T h1 h2 h3 h4 => ?_⟩
            · simp only [Bool.not_true, Bool.false_eq_true, if_false]
              refine Ev.bind (F33_ev _ _ _) ?_
              simp only [hw, hc, Bool.not_true, Bool.false_eq_true, if_false, if_true]
              simp only [ba_extract, ba_size, List.take_length, List.drop_zero]
              exact Ev.now _
            · obtain ⟨_, _, _, _, h7, h8, rfl⟩ := back na nb T h1 h2 h4
              rw [h7]
              exact ⟨rfl, rfl, h8, rfl⟩
end Go.Proofs.YtcolgghllacloaaDoor.R
end
