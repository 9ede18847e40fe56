/- A part of the proof that the law FnExactNodePut answers true for every input: contracts of functions that it reaches, or its plain law. -/
import Derived.Lib.LaidTab
import Derived.Shelf.Strconv.Itoa3
import Derived.Lib.ItoaNum
import Derived.Test.YtcolgghllacloaaDoorProg
import Derived.KernelRfl
import Derived.Shelf.Strings.Builder1
import Derived.Shelf.Strings.BuilderF
import Derived.Shelf.Strconv.Itoa0
import Derived.Shelf.Strconv.Itoa1
import Derived.Shelf.LaysM
import Derived.Shelf.Strconv.Itoa2
import Derived.Shelf.Strings.Search1
import Derived.Shelf.Strings.Search2
import Derived.Shelf.Strings.Cut
import Derived.Shelf.Strings.Shaped
import Derived.Ground.Names2Prog
import Derived.Shelf.Slices.Clone
import Derived.Ground.SlgnProg
import Derived.Shelf.SlicesE.Clone
import Derived.RangeFuncNested
import Derived.RangeFuncBound
import Derived.RangeFuncCalls
import Derived.RangeFuncLeaves
import Derived.Shelf.Abstract
import Derived.Shelf.RegionOpen
import Derived.WalkKit
import Derived.OwnWalkIn
import Derived.TacticsInMore
import Derived.LoopNIn
import Derived.LoopIn
import Derived.Lib.FrozenHead2
import Derived.Lib.OthersKept
import Derived.Deep.RegionHeld3
import Derived.Deep.LoopGhost
import Derived.Lib.AppendIntMem
import Derived.Lib.ItoaLen
import Derived.Test.YtcolgghllacloaaDoorRows
import Derived.ProofKit
import Derived.OpenShut
import Derived.ShutString
import Derived.ChangeOld
import Derived.Below
import Derived.SizedLaws
import Derived.Carry
import Derived.Test.YtcolgghllacloaaDoorCards
import Derived.Test.YtcolgghllacloaaDoorTie
import Derived.LaidMore
import Derived.Stop.Joined
import Derived.Stop.LaidErr
import Derived.SevenTiedAt
import Derived.OpenVars
import Derived.ChangeVars
import Derived.Test.YtcolgghllacloaaDoorCFnExactNodePutx0
import Derived.Test.YtcolgghllacloaaDoorCFnExactNodePutx1
import Derived.Test.YtcolgghllacloaaDoorCFnExactNodePutx2
import Derived.Test.YtcolgghllacloaaDoorCFnExactNodePutx3
namespace Go.Proofs.YtcolgghllacloaaDoor.Q
end Go.Proofs.YtcolgghllacloaaDoor.Q
namespace Go.Proofs.YtcolgghllacloaaDoor.R
end Go.Proofs.YtcolgghllacloaaDoor.R
namespace Go.Proofs.YtcolgghllacloaaDoorW.PrintLast
end Go.Proofs.YtcolgghllacloaaDoorW.PrintLast
namespace Go.Proofs.YtcolgghllacloaaDoorW.PrintMore
end Go.Proofs.YtcolgghllacloaaDoorW.PrintMore
namespace Go.Proofs.YtcolgghllacloaaDoorW.PrintWords
end Go.Proofs.YtcolgghllacloaaDoorW.PrintWords
section
/-! Rf: the seat's tables. -/
set_option autoImplicit false
namespace Go.Proofs.YtcolgghllacloaaDoor.R
open Go.Rf
noncomputable def tabs : Tabs where
  ty := [(3, ⟨false, [.int .i64], [], 8⟩),
    (4, ⟨false, [.bool], [], 1⟩),
    (5, ⟨false, [.int .u8], [], 1⟩),
    (9, ⟨false, [.str], [], 16⟩),
    (22, ⟨false, [.sl .str], [], 24⟩),
    (23, ⟨false, [.sl (.int .i64)], [], 24⟩),
    (25, ⟨true, [.bool, .sl .str, .sl .str, .sl (.int .i64)], [(0, 1, false), (1, 1, false), (2, 1, false), (3, 1, false)], 80⟩),
    (28, ⟨true, [.bool, .sl .str, .sl .str, .sl (.int .i64)], [(0, 1, false), (1, 1, false), (2, 1, false), (3, 1, false)], 80⟩),
    (43, ⟨false, [.sl (.int .u8)], [], 24⟩)]
  el := [(22, 9), (23, 3), (43, 5)]
  ifcs := []
  known := [3, 5, 6, 7, 8, 9, 14, 15, 16, 17, 18, 19, 20, 26, 27, 40, 41, 42]
  spec := [(3, ⟨[.agg [.v .bool, .v (.sl .str), .v (.sl .str), .v (.sl (.int .i64))]], [.c (.v .bool)]⟩),
    (5, ⟨[.agg [.v .bool, .v (.sl .str), .v (.sl .str), .v (.sl (.int .i64))], .c (.v (.int .i64))], [.c (.v (.int .i64))]⟩),
    (6, ⟨[.agg [.v .bool, .v (.sl .str), .v (.sl .str), .v (.sl (.int .i64))]], [.c (.v .str)]⟩),
    (7, ⟨[.agg [.v .bool, .v (.sl .str), .v (.sl .str), .v (.sl (.int .i64))]], [.agg [.v .bool, .v (.sl .str), .v (.sl .str), .v (.sl (.int .i64))]]⟩),
    (8, ⟨[.agg [.v .bool, .v (.sl .str), .v (.sl .str), .v (.sl (.int .i64))]], [.c (.v .str)]⟩),
    (9, ⟨[.agg [.v .bool, .v (.sl .str), .v (.sl .str), .v (.sl (.int .i64))], .agg [.v .bool, .v (.sl .str), .v (.sl .str), .v (.sl (.int .i64))]], [.c (.v .bool)]⟩),
    (14, ⟨[.c (.v (.sl .str)), .c (.v (.int .i64))], [.c (.v (.int .i64))]⟩),
    (15, ⟨[.c (.v (.sl (.int .i64))), .c (.v (.int .i64))], [.c (.v (.int .i64))]⟩),
    (16, ⟨[.agg [.v .bool, .v (.sl .str), .v (.sl .str), .v (.sl (.int .i64))]], [.c (.v .bool)]⟩),
    (17, ⟨[.agg [.v .bool, .v (.sl .str), .v (.sl .str), .v (.sl (.int .i64))]], [.c (.v .bool)]⟩),
    (18, ⟨[.agg [.v .bool, .v (.sl .str), .v (.sl .str), .v (.sl (.int .i64))]], [.c (.v .str)]⟩),
    (19, ⟨[.c (.v (.sl .str))], [.c (.v (.sl .str))]⟩),
    (20, ⟨[.c (.v (.sl (.int .i64)))], [.c (.v (.sl (.int .i64)))]⟩),
    (26, ⟨[.c (.v (.sl .str)), .c (.v (.sl .str))], [.c (.v .bool)]⟩),
    (27, ⟨[.c (.v (.sl (.int .i64))), .c (.v (.sl (.int .i64)))], [.c (.v .bool)]⟩),
    (40, ⟨[.c (.v (.sl .str))], [.c (.v .bool)]⟩),
    (41, ⟨[.c (.v (.int .i64)), .c (.v (.int .i64)), .c (.v (.int .i64))], [.c (.v .bool)]⟩),
    (42, ⟨[.c (.v (.int .i64))], [.c (.v .str)]⟩)]
  cut := [(14, [(5, [(0, .c (.v (.sl .str))), (1, .c (.v (.int .i64))), (5, .c (.v (.int .i64)))])]),
    (17, [(5, [(1, .box [.v .bool, .v (.sl .str), .v (.sl .str), .v (.sl (.int .i64))]), (3, .c (.v (.int .i64)))]), (11, [(1, .box [.v .bool, .v (.sl .str), .v (.sl .str), .v (.sl (.int .i64))]), (4, .c (.v (.int .i64)))])]),
    (18, [(6, [(1, .box [.v .bool, .v (.sl .str), .v (.sl .str), .v (.sl (.int .i64))]), (3, .c (.v .str)), (4, .c (.v (.int .i64)))]), (12, [(1, .box [.v .bool, .v (.sl .str), .v (.sl .str), .v (.sl (.int .i64))]), (5, .c (.v .str)), (6, .c (.v (.int .i64)))])]),
    (19, [(3, [(0, .c (.v (.sl .str))), (3, .c (.o .str 9 true)), (4, .c (.v (.int .i64)))])]),
    (20, [(3, [(0, .c (.v (.sl (.int .i64)))), (3, .c (.o (.int .i64) 3 true)), (4, .c (.v (.int .i64)))])]),
    (26, [(4, [(0, .c (.v (.sl .str))), (1, .c (.v (.sl .str))), (5, .c (.v (.int .i64)))])]),
    (27, [(4, [(0, .c (.v (.sl (.int .i64)))), (1, .c (.v (.sl (.int .i64)))), (5, .c (.v (.int .i64)))])]),
    (40, [(2, [(0, .c (.v (.sl .str))), (3, .c (.v (.int .i64)))])])]
  eqs := []
theorem tabs_ok : tabs.ok Tryd.prog = true := by kernel_rfl
def npWithin (n lo hi : Int) : Bool := decide (n ≥ lo) && decide (n ≤ hi)
def npKeyOk (l : List ByteArray) (i : Nat) : Bool := npWithin ((l.getD i ByteArray.empty).size : Int) 1 96 && (i == 0 || Op.bytesLess (l.getD (i - 1) ByteArray.empty).toList (l.getD i ByteArray.empty).toList)
def npKeysOk (l : List ByteArray) : Bool := (List.range l.length).all (npKeyOk l)
def npValsOk (l : List ByteArray) : Bool := (List.range l.length).all fun i => !decide (((l.getD i ByteArray.empty).size : Int) > 140)
def npKidsOk (l : List Int) : Bool := (List.range l.length).all fun i => npWithin (l.getD i 0) 0 18
/-- a node that is ok -/
def npOk (n : Bool × List ByteArray × List ByteArray × List Int × Unit) : Bool := npKeysOk n.2.1 && decide ((n.2.1.length : Int) ≤ 4) && (if n.1 = true then npValsOk n.2.2.1 && ((n.2.2.1.length : Int) == (n.2.1.length : Int)) && ((n.2.2.2.1.length : Int) == 0)
  else npKidsOk n.2.2.2.1 && ((n.2.2.1.length : Int) == 0) && decide ((n.2.1.length : Int) > 0) && ((n.2.2.2.1.length : Int) == (n.2.1.length : Int) + 1))
def npZero (n : Bool × List ByteArray × List ByteArray × List Int × Unit) : Bool := !n.1 && ((n.2.1.length : Int) == 0) && ((n.2.2.1.length : Int) == 0) && ((n.2.2.2.1.length : Int) == 0)
def npEntL (x y : ByteArray) : List UInt8 := Lib.itoa x.size ++ [44] ++ Lib.itoa y.size ++ [58] ++ x.data.toList ++ y.data.toList
def npEntN (x : ByteArray) (y : Int) : List UInt8 := Lib.itoa x.size ++ [44] ++ Lib.itoa y ++ [58] ++ x.data.toList
def npL (K V : List ByteArray) (i : Nat) : List UInt8 := [76] ++ (List.range i).flatMap fun j => npEntL (K.getD j ByteArray.empty) (V.getD j ByteArray.empty)
def npN (K : List ByteArray) (I : List Int) (i : Nat) : List UInt8 := ([78] ++ Lib.itoa (I.getD 0 0) ++ [58]) ++ (List.range i).flatMap fun j => npEntN (K.getD j ByteArray.empty) (I.getD (j + 1) 0)
/-- a node as it is written -/
def npText (n : Bool × List ByteArray × List ByteArray × List Int × Unit) : ByteArray := if npZero n = true ∨ npOk n = false then ⟨#[]⟩ else if n.1 = true then ⟨(npL n.2.1 n.2.2.1 n.2.1.length).toArray⟩ else ⟨(npN n.2.1 n.2.2.2.1 n.2.1.length).toArray⟩
noncomputable def nodeputR (x : (Bool × List ByteArray × List ByteArray × List Int × Unit) × Unit) : Option ((ByteArray × Unit) × ((Unit × Unit × Unit × Unit × Unit) × Unit)) :=
  bif Nat.ble x.1.2.1.length 1048576 && Nat.ble x.1.2.2.1.length 1048576 && Nat.ble x.1.2.2.2.1.length 1048576 then some ((npText x.1, ()), (((), (), (), (), ()), ())) else none
noncomputable def extR : (f : Nat) → Option ((specOf tabs.spec f).In → Option (specOf tabs.spec f).Out) := fun f => match f with
  | 8 => some nodeputR
  | _ => none
/-- the variable that holds strconv's powers of ten, and its cells -/
def powG : Nat := 3
def powCells : Array Value := (Lib.pow10Tab.map fun z => Value.int .u64 z).toArray
def objsR : Nat → Option (Array Value → Prop) := fun g => if g = powG then some (fun cs => cs = powCells) else none

noncomputable def cx : Go.Rf.Cx := tabs.cx Tryd.prog extR (fun _ => none) objsR
theorem good : Go.Rf.Good cx := Go.Rf.Tabs.good tabs_ok
end Go.Proofs.YtcolgghllacloaaDoor.R
end

section
/-! Rf: the functions, and what each answers. -/
set_option autoImplicit false
set_option linter.unusedVariables false
namespace Go.Proofs.YtcolgghllacloaaDoor.R
open Go.Rf
/-! loop.example/jetton/laws.FnExactNodePut -/
noncomputable def F3 (k : Nat) (a0_0 : Bool) (a0_1 : List ByteArray) (a0_2 : List ByteArray) (a0_3 : List Int) : Option ((Bool × Unit) × ((Unit × Unit × Unit × Unit × Unit) × Unit)) := callF cx k 3 ((a0_0, a0_1, a0_2, a0_3, ()), ())
/-! loop.example/jetton/laws.szNode -/
noncomputable def F5 (k : Nat) (a0_0 : Bool) (a0_1 : List ByteArray) (a0_2 : List ByteArray) (a0_3 : List Int) (a1 : Int) : Option ((Int × Unit) × ((Unit × Unit × Unit × Unit × Unit) × Unit × Unit)) := callF cx k 5 ((a0_0, a0_1, a0_2, a0_3, ()), a1, ())
/-! loop.example/jetton/spec.NodePut -/
noncomputable def F6 (k : Nat) (a0_0 : Bool) (a0_1 : List ByteArray) (a0_2 : List ByteArray) (a0_3 : List Int) : Option ((ByteArray × Unit) × ((Unit × Unit × Unit × Unit × Unit) × Unit)) := callF cx k 6 ((a0_0, a0_1, a0_2, a0_3, ()), ())
/-! loop.example/jetton/laws.toNode -/
noncomputable def F7 (k : Nat) (a0_0 : Bool) (a0_1 : List ByteArray) (a0_2 : List ByteArray) (a0_3 : List Int) : Option (((Bool × (List ByteArray) × (List ByteArray) × (List Int) × Unit) × Unit) × ((Unit × Unit × Unit × Unit × Unit) × Unit)) := callF cx k 7 ((a0_0, a0_1, a0_2, a0_3, ()), ())
/-! loop.example/jetton/impl.NodePut -/
noncomputable def F8 (k : Nat) (a0_0 : Bool) (a0_1 : List ByteArray) (a0_2 : List ByteArray) (a0_3 : List Int) : Option ((ByteArray × Unit) × ((Unit × Unit × Unit × Unit × Unit) × Unit)) := callF cx k 8 ((a0_0, a0_1, a0_2, a0_3, ()), ())
/-! loop.example/jetton/laws.eqNode -/
noncomputable def F9 (k : Nat) (a0_0 : Bool) (a0_1 : List ByteArray) (a0_2 : List ByteArray) (a0_3 : List Int) (a1_0 : Bool) (a1_1 : List ByteArray) (a1_2 : List ByteArray) (a1_3 : List Int) : Option ((Bool × Unit) × ((Unit × Unit × Unit × Unit × Unit) × (Unit × Unit × Unit × Unit × Unit) × Unit)) := callF cx k 9 ((a0_0, a0_1, a0_2, a0_3, ()), (a1_0, a1_1, a1_2, a1_3, ()), ())
/-! loop.example/jetton/laws.szStringS -/
noncomputable def F14 (k : Nat) (a0 : List ByteArray) (a1 : Int) : Option ((Int × Unit) × (Unit × Unit × Unit)) := callF cx k 14 (a0, a1, ())
noncomputable def F14c5 (k : Nat) (x0 : List ByteArray) (x1 : Int) (x5 : Int) : Option ((Int × Unit) × (Unit × Unit × Unit)) := cutF cx 14 5 Tryd.f14 k (x0, x1, x5, ())
/-! loop.example/jetton/laws.szIntS -/
noncomputable def F15 (k : Nat) (a0 : List Int) (a1 : Int) : Option ((Int × Unit) × (Unit × Unit × Unit)) := callF cx k 15 (a0, a1, ())
/-! loop.example/jetton/spec.l9Zero -/
noncomputable def F16 (k : Nat) (a0_0 : Bool) (a0_1 : List ByteArray) (a0_2 : List ByteArray) (a0_3 : List Int) : Option ((Bool × Unit) × ((Unit × Unit × Unit × Unit × Unit) × Unit)) := callF cx k 16 ((a0_0, a0_1, a0_2, a0_3, ()), ())
/-! loop.example/jetton/spec.l9NodeOk -/
noncomputable def F17 (k : Nat) (a0_0 : Bool) (a0_1 : List ByteArray) (a0_2 : List ByteArray) (a0_3 : List Int) : Option ((Bool × Unit) × ((Unit × Unit × Unit × Unit × Unit) × Unit)) := callF cx k 17 ((a0_0, a0_1, a0_2, a0_3, ()), ())
noncomputable def F17c5 (k : Nat) (x1_0 : Bool) (x1_1 : List ByteArray) (x1_2 : List ByteArray) (x1_3 : List Int) (x3 : Int) : Option ((Bool × Unit) × ((Unit × Unit × Unit × Unit × Unit) × Unit)) := cutF cx 17 5 Tryd.f17 k ((x1_0, x1_1, x1_2, x1_3, ()), x3, ())
noncomputable def F17c11 (k : Nat) (x1_0 : Bool) (x1_1 : List ByteArray) (x1_2 : List ByteArray) (x1_3 : List Int) (x4 : Int) : Option ((Bool × Unit) × ((Unit × Unit × Unit × Unit × Unit) × Unit)) := cutF cx 17 11 Tryd.f17 k ((x1_0, x1_1, x1_2, x1_3, ()), x4, ())
/-! loop.example/jetton/spec.l9NodePut -/
noncomputable def F18 (k : Nat) (a0_0 : Bool) (a0_1 : List ByteArray) (a0_2 : List ByteArray) (a0_3 : List Int) : Option ((ByteArray × Unit) × ((Unit × Unit × Unit × Unit × Unit) × Unit)) := callF cx k 18 ((a0_0, a0_1, a0_2, a0_3, ()), ())
noncomputable def F18c6 (k : Nat) (x1_0 : Bool) (x1_1 : List ByteArray) (x1_2 : List ByteArray) (x1_3 : List Int) (x3 : ByteArray) (x4 : Int) : Option ((ByteArray × Unit) × ((Unit × Unit × Unit × Unit × Unit) × Unit)) := cutF cx 18 6 Tryd.f18 k ((x1_0, x1_1, x1_2, x1_3, ()), x3, x4, ())
noncomputable def F18c12 (k : Nat) (x1_0 : Bool) (x1_1 : List ByteArray) (x1_2 : List ByteArray) (x1_3 : List Int) (x5 : ByteArray) (x6 : Int) : Option ((ByteArray × Unit) × ((Unit × Unit × Unit × Unit × Unit) × Unit)) := cutF cx 18 12 Tryd.f18 k ((x1_0, x1_1, x1_2, x1_3, ()), x5, x6, ())
/-! loop.example/jetton/laws.toStringS -/
noncomputable def F19 (k : Nat) (a0 : List ByteArray) : Option (((List ByteArray) × Unit) × (Unit × Unit)) := callF cx k 19 (a0, ())
noncomputable def F19c3 (k : Nat) (x0 : List ByteArray) (x3 : List ByteArray) (x4 : Int) : Option (((List ByteArray) × Unit) × (Unit × Unit)) := cutF cx 19 3 Tryd.f19 k (x0, x3, x4, ())
/-! loop.example/jetton/laws.toIntS -/
noncomputable def F20 (k : Nat) (a0 : List Int) : Option (((List Int) × Unit) × (Unit × Unit)) := callF cx k 20 (a0, ())
noncomputable def F20c3 (k : Nat) (x0 : List Int) (x3 : List Int) (x4 : Int) : Option (((List Int) × Unit) × (Unit × Unit)) := cutF cx 20 3 Tryd.f20 k (x0, x3, x4, ())
/-! loop.example/jetton/laws.eqStringS -/
noncomputable def F26 (k : Nat) (a0 : List ByteArray) (a1 : List ByteArray) : Option ((Bool × Unit) × (Unit × Unit × Unit)) := callF cx k 26 (a0, a1, ())
noncomputable def F26c4 (k : Nat) (x0 : List ByteArray) (x1 : List ByteArray) (x5 : Int) : Option ((Bool × Unit) × (Unit × Unit × Unit)) := cutF cx 26 4 Tryd.f26 k (x0, x1, x5, ())
/-! loop.example/jetton/laws.eqIntS -/
noncomputable def F27 (k : Nat) (a0 : List Int) (a1 : List Int) : Option ((Bool × Unit) × (Unit × Unit × Unit)) := callF cx k 27 (a0, a1, ())
noncomputable def F27c4 (k : Nat) (x0 : List Int) (x1 : List Int) (x5 : Int) : Option ((Bool × Unit) × (Unit × Unit × Unit)) := cutF cx 27 4 Tryd.f27 k (x0, x1, x5, ())
/-! loop.example/jetton/spec.l9KeysOk -/
noncomputable def F40 (k : Nat) (a0 : List ByteArray) : Option ((Bool × Unit) × (Unit × Unit)) := callF cx k 40 (a0, ())
noncomputable def F40c2 (k : Nat) (x0 : List ByteArray) (x3 : Int) : Option ((Bool × Unit) × (Unit × Unit)) := cutF cx 40 2 Tryd.f40 k (x0, x3, ())
/-! loop.example/jetton/spec.l1In -/
noncomputable def F41 (k : Nat) (a0 : Int) (a1 : Int) (a2 : Int) : Option ((Bool × Unit) × (Unit × Unit × Unit × Unit)) := callF cx k 41 (a0, a1, a2, ())
/-! loop.example/jetton/spec.l1Dec -/
noncomputable def F42 (k : Nat) (a0 : Int) : Option ((ByteArray × Unit) × (Unit × Unit)) := callF cx k 42 (a0, ())
theorem F3_eq (k : Nat) (a0_0 : Bool) (a0_1 : List ByteArray) (a0_2 : List ByteArray) (a0_3 : List Int) : F3 (k + 2) a0_0 a0_1 a0_2 a0_3 =
    (F5 k a0_0 a0_1 a0_2 a0_3 (1048576 : Int)).bind fun r1 => if (decide (r1.1.1 < (0 : Int))) = true then some ((true, ()), (((), (), (), (), ()), ())) else (F7 k a0_0 a0_1 a0_2 a0_3).bind fun r2 => (F6 k r2.1.1.1 r2.1.1.2.1 r2.1.1.2.2.1 r2.1.1.2.2.2.1).bind fun r3 => (F7 k a0_0 a0_1 a0_2 a0_3).bind fun r4 => (F8 k r4.1.1.1 r4.1.1.2.1 r4.1.1.2.2.1 r4.1.1.2.2.2.1).bind fun r5 => if (!(r5.1.1.toList == r3.1.1.toList)) = true then some ((false, ()), (((), (), (), (), ()), ())) else (F7 k a0_0 a0_1 a0_2 a0_3).bind fun r6 => (F9 k r4.1.1.1 r4.1.1.2.1 r4.1.1.2.2.1 r4.1.1.2.2.2.1 r6.1.1.1 r6.1.1.2.1 r6.1.1.2.2.1 r6.1.1.2.2.2.1).bind fun r7 => if (!r7.1.1) = true then some ((false, ()), (((), (), (), (), ()), ())) else some ((true, ()), (((), (), (), (), ()), ())) := by kernel_rfl
theorem F5_eq (k : Nat) (a0_0 : Bool) (a0_1 : List ByteArray) (a0_2 : List ByteArray) (a0_3 : List Int) (a1 : Int) : F5 (k + 2) a0_0 a0_1 a0_2 a0_3 a1 =
    (F14 k a0_1 a1).bind fun r1 => if (decide (r1.1.1 < (0 : Int))) = true then some (((-1 : Int), ()), (((), (), (), (), ()), (), ())) else (F14 k a0_2 r1.1.1).bind fun r2 => if (decide (r2.1.1 < (0 : Int))) = true then some (((-1 : Int), ()), (((), (), (), (), ()), (), ())) else (F15 k a0_3 r2.1.1).bind fun r3 => if (decide (r3.1.1 < (0 : Int))) = true then some (((-1 : Int), ()), (((), (), (), (), ()), (), ())) else some ((r3.1.1, ()), (((), (), (), (), ()), (), ())) := by kernel_rfl
theorem F6_eq (k : Nat) (a0_0 : Bool) (a0_1 : List ByteArray) (a0_2 : List ByteArray) (a0_3 : List Int) : F6 (k + 2) a0_0 a0_1 a0_2 a0_3 =
    (F16 k a0_0 a0_1 a0_2 a0_3).bind fun r1 => if (!r1.1.1) = true then (F17 k a0_0 a0_1 a0_2 a0_3).bind fun r2 => if (!r2.1.1) = true then some (((⟨#[]⟩ : ByteArray), ()), (((), (), (), (), ()), ())) else (F18 k a0_0 a0_1 a0_2 a0_3).bind fun r3 => some ((r3.1.1, ()), (((), (), (), (), ()), ())) else (F18 k a0_0 a0_1 a0_2 a0_3).bind fun r4 => some ((r4.1.1, ()), (((), (), (), (), ()), ())) := by kernel_rfl
theorem F7_eq (k : Nat) (a0_0 : Bool) (a0_1 : List ByteArray) (a0_2 : List ByteArray) (a0_3 : List Int) : F7 (k + 2) a0_0 a0_1 a0_2 a0_3 =
    (F19 k a0_1).bind fun r1 => (F19 k a0_2).bind fun r2 => (F20 k a0_3).bind fun r3 => some (((a0_0, r1.1.1, r2.1.1, r3.1.1, ()), ()), (((), (), (), (), ()), ())) := by kernel_rfl
theorem F8_eq (k : Nat) (a0_0 : Bool) (a0_1 : List ByteArray) (a0_2 : List ByteArray) (a0_3 : List Int) : F8 (k + 1) a0_0 a0_1 a0_2 a0_3 = nodeputR ((a0_0, a0_1, a0_2, a0_3, ()), ()) := by kernel_rfl
theorem F9_eq (k : Nat) (a0_0 : Bool) (a0_1 : List ByteArray) (a0_2 : List ByteArray) (a0_3 : List Int) (a1_0 : Bool) (a1_1 : List ByteArray) (a1_2 : List ByteArray) (a1_3 : List Int) : F9 (k + 2) a0_0 a0_1 a0_2 a0_3 a1_0 a1_1 a1_2 a1_3 =
    if (!(a0_0 == a1_0)) = true then some ((false, ()), (((), (), (), (), ()), ((), (), (), (), ()), ())) else (F26 k a0_1 a1_1).bind fun r1 => if (!r1.1.1) = true then some ((false, ()), (((), (), (), (), ()), ((), (), (), (), ()), ())) else (F26 k a0_2 a1_2).bind fun r2 => if (!r2.1.1) = true then some ((false, ()), (((), (), (), (), ()), ((), (), (), (), ()), ())) else (F27 k a0_3 a1_3).bind fun r3 => if (!r3.1.1) = true then some ((false, ()), (((), (), (), (), ()), ((), (), (), (), ()), ())) else some ((true, ()), (((), (), (), (), ()), ((), (), (), (), ()), ())) := by kernel_rfl
theorem F14_eq (k : Nat) (a0 : List ByteArray) (a1 : Int) : F14 (k + 2) a0 a1 =
    if (decide ((IntKind.i64.wrap (a1 - (a0.length : Int))) < (0 : Int))) = true then some (((-1 : Int), ()), ((), (), ())) else F14c5 k a0 (IntKind.i64.wrap (a1 - (a0.length : Int))) (0 : Int) := by kernel_rfl
theorem F14c5_eq (k : Nat) (x0 : List ByteArray) (x1 : Int) (x5 : Int) : F14c5 (k + 1) x0 x1 x5 =
    if (decide (x5 < (x0.length : Int))) = true then if (decide (0 ≤ x5)) = true then (x0[x5.toNat]?).bind fun y1 => if (decide ((IntKind.i64.wrap (x1 - (y1.size : Int))) < (0 : Int))) = true then some (((-1 : Int), ()), ((), (), ())) else F14c5 k x0 (IntKind.i64.wrap (x1 - (y1.size : Int))) (IntKind.i64.wrap (x5 + (1 : Int))) else none else some ((x1, ()), ((), (), ())) := by kernel_rfl
theorem F15_eq (k : Nat) (a0 : List Int) (a1 : Int) : F15 (k + 2) a0 a1 =
    if (decide ((IntKind.i64.wrap (a1 - (a0.length : Int))) < (0 : Int))) = true then some (((-1 : Int), ()), ((), (), ())) else some (((IntKind.i64.wrap (a1 - (a0.length : Int))), ()), ((), (), ())) := by kernel_rfl
theorem F16_eq (k : Nat) (a0_0 : Bool) (a0_1 : List ByteArray) (a0_2 : List ByteArray) (a0_3 : List Int) : F16 (k + 2) a0_0 a0_1 a0_2 a0_3 =
    if (!a0_0) = true then if ((a0_1.length : Int) == (0 : Int)) = true then if ((a0_2.length : Int) == (0 : Int)) = true then some ((((a0_3.length : Int) == (0 : Int)), ()), (((), (), (), (), ()), ())) else some ((false, ()), (((), (), (), (), ()), ())) else some ((false, ()), (((), (), (), (), ()), ())) else some ((false, ()), (((), (), (), (), ()), ())) := by kernel_rfl
theorem F17_eq (k : Nat) (a0_0 : Bool) (a0_1 : List ByteArray) (a0_2 : List ByteArray) (a0_3 : List Int) : F17 (k + 2) a0_0 a0_1 a0_2 a0_3 =
    (F40 k a0_1).bind fun r1 => if (!r1.1.1) = true then some ((false, ()), (((), (), (), (), ()), ())) else if a0_0 = true then F17c5 k a0_0 a0_1 a0_2 a0_3 (0 : Int) else F17c11 k a0_0 a0_1 a0_2 a0_3 (0 : Int) := by kernel_rfl
theorem F17c5_eq (k : Nat) (x1_0 : Bool) (x1_1 : List ByteArray) (x1_2 : List ByteArray) (x1_3 : List Int) (x3 : Int) : F17c5 (k + 1) x1_0 x1_1 x1_2 x1_3 x3 =
    if (decide (x3 < (x1_2.length : Int))) = true then if (decide (0 ≤ x3)) = true then (x1_2[x3.toNat]?).bind fun y2 => if (decide ((y2.size : Int) > (140 : Int))) = true then some ((false, ()), (((), (), (), (), ()), ())) else F17c5 k x1_0 x1_1 x1_2 x1_3 (IntKind.i64.wrap (x3 + (1 : Int))) else none else if ((x1_2.length : Int) == (x1_1.length : Int)) = true then some ((((x1_3.length : Int) == (0 : Int)), ()), (((), (), (), (), ()), ())) else some ((false, ()), (((), (), (), (), ()), ())) := by kernel_rfl
theorem F17c11_eq (k : Nat) (x1_0 : Bool) (x1_1 : List ByteArray) (x1_2 : List ByteArray) (x1_3 : List Int) (x4 : Int) : F17c11 (k + 1) x1_0 x1_1 x1_2 x1_3 x4 =
    if (decide (x4 < (x1_3.length : Int))) = true then if (decide (0 ≤ x4)) = true then (x1_3[x4.toNat]?).bind fun y3 => (F41 k y3 (0 : Int) (18 : Int)).bind fun r4 => if (!r4.1.1) = true then some ((false, ()), (((), (), (), (), ()), ())) else F17c11 k x1_0 x1_1 x1_2 x1_3 (IntKind.i64.wrap (x4 + (1 : Int))) else none else if ((x1_2.length : Int) == (0 : Int)) = true then if (decide ((x1_1.length : Int) > (0 : Int))) = true then some ((((x1_3.length : Int) == (IntKind.i64.wrap ((x1_1.length : Int) + (1 : Int)))), ()), (((), (), (), (), ()), ())) else some ((false, ()), (((), (), (), (), ()), ())) else some ((false, ()), (((), (), (), (), ()), ())) := by kernel_rfl
theorem F18_eq (k : Nat) (a0_0 : Bool) (a0_1 : List ByteArray) (a0_2 : List ByteArray) (a0_3 : List Int) : F18 (k + 2) a0_0 a0_1 a0_2 a0_3 =
    (F16 k a0_0 a0_1 a0_2 a0_3).bind fun r1 => if r1.1.1 = true then some (((⟨#[]⟩ : ByteArray), ()), (((), (), (), (), ()), ())) else if a0_0 = true then F18c6 k a0_0 a0_1 a0_2 a0_3 (⟨#[76]⟩ : ByteArray) (0 : Int) else (a0_3[0]?).bind fun y2 => (F42 k y2).bind fun r3 => if (Nat.ble ((⟨#[78]⟩ : ByteArray).size + r3.1.1.size) 9223372036854775807) = true then if (Nat.ble (((⟨#[78]⟩ : ByteArray) ++ r3.1.1).size + (⟨#[58]⟩ : ByteArray).size) 9223372036854775807) = true then F18c12 k a0_0 a0_1 a0_2 a0_3 (((⟨#[78]⟩ : ByteArray) ++ r3.1.1) ++ (⟨#[58]⟩ : ByteArray)) (0 : Int) else none else none := by kernel_rfl
theorem F18c6_eq (k : Nat) (x1_0 : Bool) (x1_1 : List ByteArray) (x1_2 : List ByteArray) (x1_3 : List Int) (x3 : ByteArray) (x4 : Int) : F18c6 (k + 1) x1_0 x1_1 x1_2 x1_3 x3 x4 =
    if (decide (x4 < (x1_1.length : Int))) = true then if (decide (0 ≤ x4)) = true then (x1_1[x4.toNat]?).bind fun y4 => (F42 k (y4.size : Int)).bind fun r5 => if (Nat.ble (x3.size + r5.1.1.size) 9223372036854775807) = true then if (Nat.ble ((x3 ++ r5.1.1).size + (⟨#[44]⟩ : ByteArray).size) 9223372036854775807) = true then if (decide (0 ≤ x4)) = true then (x1_2[x4.toNat]?).bind fun y6 => (F42 k (y6.size : Int)).bind fun r7 => if (Nat.ble (((x3 ++ r5.1.1) ++ (⟨#[44]⟩ : ByteArray)).size + r7.1.1.size) 9223372036854775807) = true then if (Nat.ble ((((x3 ++ r5.1.1) ++ (⟨#[44]⟩ : ByteArray)) ++ r7.1.1).size + (⟨#[58]⟩ : ByteArray).size) 9223372036854775807) = true then if (decide (0 ≤ x4)) = true then (x1_1[x4.toNat]?).bind fun y8 => if (Nat.ble (((((x3 ++ r5.1.1) ++ (⟨#[44]⟩ : ByteArray)) ++ r7.1.1) ++ (⟨#[58]⟩ : ByteArray)).size + y8.size) 9223372036854775807) = true then if (decide (0 ≤ x4)) = true then (x1_2[x4.toNat]?).bind fun y9 => if (Nat.ble ((((((x3 ++ r5.1.1) ++ (⟨#[44]⟩ : ByteArray)) ++ r7.1.1) ++ (⟨#[58]⟩ : ByteArray)) ++ y8).size + y9.size) 9223372036854775807) = true then F18c6 k x1_0 x1_1 x1_2 x1_3 ((((((x3 ++ r5.1.1) ++ (⟨#[44]⟩ : ByteArray)) ++ r7.1.1) ++ (⟨#[58]⟩ : ByteArray)) ++ y8) ++ y9) (IntKind.i64.wrap (x4 + (1 : Int))) else none else none else none else none else none else none else none else none else none else none else some ((x3, ()), (((), (), (), (), ()), ())) := by kernel_rfl
theorem F18c12_eq (k : Nat) (x1_0 : Bool) (x1_1 : List ByteArray) (x1_2 : List ByteArray) (x1_3 : List Int) (x5 : ByteArray) (x6 : Int) : F18c12 (k + 1) x1_0 x1_1 x1_2 x1_3 x5 x6 =
    if (decide (x6 < (x1_1.length : Int))) = true then if (decide (0 ≤ x6)) = true then (x1_1[x6.toNat]?).bind fun y10 => (F42 k (y10.size : Int)).bind fun r11 => if (Nat.ble (x5.size + r11.1.1.size) 9223372036854775807) = true then if (Nat.ble ((x5 ++ r11.1.1).size + (⟨#[44]⟩ : ByteArray).size) 9223372036854775807) = true then if (decide (0 ≤ (IntKind.i64.wrap (x6 + (1 : Int))))) = true then (x1_3[(IntKind.i64.wrap (x6 + (1 : Int))).toNat]?).bind fun y12 => (F42 k y12).bind fun r13 => if (Nat.ble (((x5 ++ r11.1.1) ++ (⟨#[44]⟩ : ByteArray)).size + r13.1.1.size) 9223372036854775807) = true then if (Nat.ble ((((x5 ++ r11.1.1) ++ (⟨#[44]⟩ : ByteArray)) ++ r13.1.1).size + (⟨#[58]⟩ : ByteArray).size) 9223372036854775807) = true then if (decide (0 ≤ x6)) = true then (x1_1[x6.toNat]?).bind fun y14 => if (Nat.ble (((((x5 ++ r11.1.1) ++ (⟨#[44]⟩ : ByteArray)) ++ r13.1.1) ++ (⟨#[58]⟩ : ByteArray)).size + y14.size) 9223372036854775807) = true then F18c12 k x1_0 x1_1 x1_2 x1_3 (((((x5 ++ r11.1.1) ++ (⟨#[44]⟩ : ByteArray)) ++ r13.1.1) ++ (⟨#[58]⟩ : ByteArray)) ++ y14) (IntKind.i64.wrap (x6 + (1 : Int))) else none else none else none else none else none else none else none else none else some ((x5, ()), (((), (), (), (), ()), ())) := by kernel_rfl
theorem F19_eq (k : Nat) (a0 : List ByteArray) : F19 (k + 2) a0 =
    if (decide (0 ≤ (a0.length : Int)) && decide ((a0.length : Int) ≤ (a0.length : Int)) && decide ((a0.length : Int) ≤ (8796093022208 : Int))) = true then F19c3 k a0 (List.replicate (a0.length : Int).toNat ByteArray.empty) (0 : Int) else none := by kernel_rfl
theorem F19c3_eq (k : Nat) (x0 : List ByteArray) (x3 : List ByteArray) (x4 : Int) : F19c3 (k + 1) x0 x3 x4 =
    if (decide (x4 < (x0.length : Int))) = true then if (decide (0 ≤ x4)) = true then (x0[x4.toNat]?).bind fun y1 => if (decide (0 ≤ x4) && decide (x4 < (x3.length : Int))) = true then (x3[x4.toNat]?).bind fun y2 => F19c3 k x0 (x3.set x4.toNat y1) (IntKind.i64.wrap (x4 + (1 : Int))) else none else none else some ((x3, ()), ((), ())) := by kernel_rfl
theorem F20_eq (k : Nat) (a0 : List Int) : F20 (k + 2) a0 =
    if (decide (0 ≤ (a0.length : Int)) && decide ((a0.length : Int) ≤ (a0.length : Int)) && decide ((a0.length : Int) ≤ (17592186044416 : Int))) = true then F20c3 k a0 (List.replicate (a0.length : Int).toNat (0 : Int)) (0 : Int) else none := by kernel_rfl
theorem F20c3_eq (k : Nat) (x0 : List Int) (x3 : List Int) (x4 : Int) : F20c3 (k + 1) x0 x3 x4 =
    if (decide (x4 < (x0.length : Int))) = true then if (decide (0 ≤ x4)) = true then (x0[x4.toNat]?).bind fun y1 => if (decide (0 ≤ x4) && decide (x4 < (x3.length : Int))) = true then (x3[x4.toNat]?).bind fun y2 => F20c3 k x0 (x3.set x4.toNat y1) (IntKind.i64.wrap (x4 + (1 : Int))) else none else none else some ((x3, ()), ((), ())) := by kernel_rfl
theorem F26_eq (k : Nat) (a0 : List ByteArray) (a1 : List ByteArray) : F26 (k + 2) a0 a1 =
    if ((a0.length : Int) != (a1.length : Int)) = true then some ((false, ()), ((), (), ())) else F26c4 k a0 a1 (0 : Int) := by kernel_rfl
theorem F26c4_eq (k : Nat) (x0 : List ByteArray) (x1 : List ByteArray) (x5 : Int) : F26c4 (k + 1) x0 x1 x5 =
    if (decide (x5 < (x0.length : Int))) = true then if (decide (0 ≤ x5)) = true then (x0[x5.toNat]?).bind fun y1 => if (decide (0 ≤ x5)) = true then (x1[x5.toNat]?).bind fun y2 => if (!(y1.toList == y2.toList)) = true then some ((false, ()), ((), (), ())) else F26c4 k x0 x1 (IntKind.i64.wrap (x5 + (1 : Int))) else none else none else some ((true, ()), ((), (), ())) := by kernel_rfl
theorem F27_eq (k : Nat) (a0 : List Int) (a1 : List Int) : F27 (k + 2) a0 a1 =
    if ((a0.length : Int) != (a1.length : Int)) = true then some ((false, ()), ((), (), ())) else F27c4 k a0 a1 (0 : Int) := by kernel_rfl
theorem F27c4_eq (k : Nat) (x0 : List Int) (x1 : List Int) (x5 : Int) : F27c4 (k + 1) x0 x1 x5 =
    if (decide (x5 < (x0.length : Int))) = true then if (decide (0 ≤ x5)) = true then (x0[x5.toNat]?).bind fun y1 => if (decide (0 ≤ x5)) = true then (x1[x5.toNat]?).bind fun y2 => if (y1 != y2) = true then some ((false, ()), ((), (), ())) else F27c4 k x0 x1 (IntKind.i64.wrap (x5 + (1 : Int))) else none else none else some ((true, ()), ((), (), ())) := by kernel_rfl
theorem F40_eq (k : Nat) (a0 : List ByteArray) : F40 (k + 2) a0 =
    F40c2 k a0 (0 : Int) := by kernel_rfl
theorem F40c2_eq (k : Nat) (x0 : List ByteArray) (x3 : Int) : F40c2 (k + 1) x0 x3 =
    if (decide (x3 < (x0.length : Int))) = true then if (decide (0 ≤ x3)) = true then (x0[x3.toNat]?).bind fun y1 => (F41 k (y1.size : Int) (1 : Int) (96 : Int)).bind fun r2 => if (!r2.1.1) = true then some ((false, ()), ((), ())) else if (decide (x3 > (0 : Int))) = true then if (decide (0 ≤ x3)) = true then (x0[x3.toNat]?).bind fun y3 => if (decide (0 ≤ (IntKind.i64.wrap (x3 - (1 : Int))))) = true then (x0[(IntKind.i64.wrap (x3 - (1 : Int))).toNat]?).bind fun y4 => if (Op.bytesLess y3.toList y4.toList || y3.toList == y4.toList) = true then some ((false, ()), ((), ())) else F40c2 k x0 (IntKind.i64.wrap (x3 + (1 : Int))) else none else none else F40c2 k x0 (IntKind.i64.wrap (x3 + (1 : Int))) else none else some ((decide ((x0.length : Int) ≤ (4 : Int)), ()), ((), ())) := by kernel_rfl
theorem F41_eq (k : Nat) (a0 : Int) (a1 : Int) (a2 : Int) : F41 (k + 2) a0 a1 a2 =
    if (decide (a0 ≥ a1)) = true then some ((decide (a0 ≤ a2), ()), ((), (), (), ())) else some ((false, ()), ((), (), (), ())) := by kernel_rfl
theorem F42_eq (k : Nat) (a0 : Int) : F42 (k + 2) a0 =
    if (decide (a0 < (-9223372036854775807 : Int))) = true then some (((⟨#[45, 57, 50, 50, 51, 51, 55, 50, 48, 51, 54, 56, 53, 52, 55, 55, 53, 56, 48, 56]⟩ : ByteArray), ()), ((), ())) else if (decide (a0 < (0 : Int))) = true then (F42 k (IntKind.i64.wrap (0 - a0))).bind fun r1 => if (Nat.ble ((⟨#[45]⟩ : ByteArray).size + r1.1.1.size) 9223372036854775807) = true then some ((((⟨#[45]⟩ : ByteArray) ++ r1.1.1), ()), ((), ())) else none else if (decide (a0 < (10 : Int))) = true then some (((bytesOf [(IntKind.u8.wrap (IntKind.i64.wrap ((48 : Int) + a0)))]), ()), ((), ())) else (F42 k (IntKind.i64.wrap (a0.tdiv (10 : Int)))).bind fun r2 => if (Nat.ble (r2.1.1.size + (bytesOf [(IntKind.u8.wrap (IntKind.i64.wrap ((48 : Int) + (a0.tmod (10 : Int)))))]).size) 9223372036854775807) = true then some (((r2.1.1 ++ (bytesOf [(IntKind.u8.wrap (IntKind.i64.wrap ((48 : Int) + (a0.tmod (10 : Int)))))])), ()), ((), ())) else none := by kernel_rfl
end Go.Proofs.YtcolgghllacloaaDoor.R
end

section
/-! Rf: what is to be shown of a law, with no machine in sight. -/
set_option autoImplicit false
namespace Go.Proofs.YtcolgghllacloaaDoor.R
open Go.Rf
def PureFnExactNodePut : Prop := ∀ (a0_0 : Bool) (a0_1 : List ByteArray) (a0_2 : List ByteArray) (a0_3 : List Int), wfT .bool a0_0 → wfT (.sl .str) a0_1 → wfT (.sl .str) a0_2 → wfT (.sl (.int .i64)) a0_3 → ∃ k p, F3 k a0_0 a0_1 a0_2 a0_3 = some ((true, ()), p)
end Go.Proofs.YtcolgghllacloaaDoor.R
end

section
namespace Go.Proofs.YtcolgghllacloaaDoor.Q
open Go.RowKit Go.Proofs.YtcolgghllacloaaDoor.Q Go.Proofs.YtcolgghllacloaaDoorW.PrintWords Go.Proofs.YtcolgghllacloaaDoorW.PrintLast Go.Proofs.YtcolgghllacloaaDoorW.PrintMore
set_option linter.unusedVariables false
set_option linter.unusedSimpArgs false
/-- The table that strconv reads is laid. -/
def Laid (w : World) : Prop := Lib.TabIs Tryd.prog w "internal/strconv.uint64pow10" .u64 Lib.pow10Tab
theorem gPow : ∃ g, Tryd.prog.globalNamed "internal/strconv.uint64pow10" = some g := Option.isSome_iff_exists.1 (by kernel_rfl)
theorem laid_below {w W : World} (h : Laid w) (hb : Below w.heap.size w W) : Laid W := by
  obtain ⟨g, hg⟩ := gPow
  unfold Laid Lib.TabIs World.var? at h ⊢
  simp only [hg, Option.bind_some] at h ⊢
  have hlt : g < w.heap.size := by
    rcases Nat.lt_or_ge g w.heap.size with h' | h'
    · exact h'
    · simp [Array.getElem?_eq_none h'] at h
  rw [hb.block g hlt]
  exact h
end Go.Proofs.YtcolgghllacloaaDoor.Q
end

section
namespace Go.Proofs
open Go.Shelf
def Tryd.lays169_ren : Go.Shelf.Ren := ⟨fun | 169 => 25 | n => n, fun | 70 => 42 | 9 => 9 | 0 => 0 | 72 => 45 | 37 => 43 | 127 => 63 | 3 => 3 | 5 => 5 | n => n, fun | n => n⟩
theorem Tryd.lays169 : Go.Proofs.Lays.n169 Tryd.prog Tryd.lays169_ren := {
  mixed := by kernel_rfl
  f169 := Tryd.func25.trans (congrArg some (by kernel_rfl))
  t0 := Tryd.underlying0
  a0 := Tryd.isAgg0
  z0 := Tryd.sizeOf0
  v0 := Tryd.zeroValue0
  t3 := Tryd.underlying3
  a3 := Tryd.isAgg3
  z3 := Tryd.sizeOf3
  v3 := Tryd.zeroValue3
  t9 := Tryd.underlying9
  a9 := Tryd.isAgg9
  z9 := Tryd.sizeOf9
  v9 := Tryd.zeroValue9
  t37 := Tryd.underlying43
  a37 := Tryd.isAgg43
  z37 := Tryd.sizeOf43
  v37 := Tryd.zeroValue43
  t70 := Tryd.underlying42
  a70 := Tryd.isAgg42
  z70 := Tryd.sizeOf42
  v70 := Tryd.zeroValue42
  t72 := Tryd.underlying45
  a72 := Tryd.isAgg45
  z72 := Tryd.sizeOf45
  v72 := Tryd.zeroValue45
  t127 := Tryd.underlying63
  a127 := Tryd.isAgg63
  z127 := Tryd.sizeOf63
  v127 := Tryd.zeroValue63 }
theorem Tryd.Builder_Extra_169 : Builder.Extra Tryd.prog Tryd.lays169_ren := {
  sizeBuilder := by kernel_rfl
  liesBuilder := by kernel_rfl
  t5 := Tryd.underlying5
  a5 := Tryd.isAgg5
  z5 := Tryd.sizeOf5
  v5 := Tryd.zeroValue5
  infoByte := by kernel_rfl
  cellsByte := by kernel_rfl
  sizeByte := by kernel_rfl
  neB5 := by decide }
open Go.RowKit in
/-- (*strings.Builder).String: "String returns the accumulated string.": WHATEVER THE BUILDER HOLDS; THE FORM '_f': OF A BUILDER THAT MAY HAVE BEEN READ BEFORE; AND IT IS A BUILDER STILL, holding the same bytes: it can be written on. (LAID: no walk: one application.) -/
theorem Tryd.Builder_String_any_f (B b : Nat) (l : List UInt8) (w : World) (h : Lib.IsBuilderF 45 5 B b (Lib.byteCells l) w) (hBw : B ≤ w.heap.size) :
    Calls Tryd.prog 25 #[.pointer (some ⟨b, 0, none⟩)] w fun e w' => e = .returned (.string ⟨l.toArray⟩) ∧ (Lib.IsBuilderF 45 5 B b (Lib.byteCells l) w' ∧ Below B w w') := Any.Builder_String_any_f Tryd.lays169 Tryd.Builder_Extra_169 B b l w h hBw
def Tryd.laysM171_ren : Go.Shelf.Ren := ⟨fun | 171 => 24 | 243 => 48 | 246 => 63 | 283 => 70 | 284 => 71 | 285 => 72 | 286 => 73 | 129 => 82 | 317 => 81 | 318 => 83 | 319 => 84 | 320 => 85 | 337 => 90 | 338 => 91 | n => n, fun | 3 => 3 | 9 => 9 | 2 => 2 | 4 => 4 | 171 => 81 | 0 => 0 | 53 => 82 | 37 => 43 | 5 => 5 | 173 => 85 | 212 => 97 | 51 => 98 | 20 => 20 | 213 => 99 | 46 => 89 | 232 => 108 | 233 => 109 | n => n, fun | 17 => 3 | 18 => 4 | 19 => 5 | n => n⟩
theorem Tryd.laysM171 : Go.Proofs.LaysM.n171 Tryd.prog Tryd.laysM171_ren := {
  mixed := by kernel_rfl
  f129 := Tryd.func82.trans (congrArg some (by kernel_rfl))
  f171 := Tryd.func24.trans (congrArg some (by kernel_rfl))
  f243 := Tryd.func48.trans (congrArg some (by kernel_rfl))
  f246 := Tryd.func63.trans (congrArg some (by kernel_rfl))
  f283 := Tryd.func70.trans (congrArg some (by kernel_rfl))
  f284 := Tryd.func71.trans (congrArg some (by kernel_rfl))
  f285 := Tryd.func72.trans (congrArg some (by kernel_rfl))
  f286 := Tryd.func73.trans (congrArg some (by kernel_rfl))
  f317 := Tryd.func81.trans (congrArg some (by kernel_rfl))
  f318 := Tryd.func83.trans (congrArg some (by kernel_rfl))
  f319 := Tryd.func84.trans (congrArg some (by kernel_rfl))
  f320 := Tryd.func85.trans (congrArg some (by kernel_rfl))
  f337 := Tryd.func90.trans (congrArg some (by kernel_rfl))
  f338 := Tryd.func91.trans (congrArg some (by kernel_rfl))
  t0 := Tryd.underlying0
  a0 := Tryd.isAgg0
  z0 := Tryd.sizeOf0
  v0 := Tryd.zeroValue0
  t2 := Tryd.underlying2
  a2 := Tryd.isAgg2
  z2 := Tryd.sizeOf2
  v2 := Tryd.zeroValue2
  t3 := Tryd.underlying3
  a3 := Tryd.isAgg3
  z3 := Tryd.sizeOf3
  v3 := Tryd.zeroValue3
  t4 := Tryd.underlying4
  a4 := Tryd.isAgg4
  z4 := Tryd.sizeOf4
  v4 := Tryd.zeroValue4
  t5 := Tryd.underlying5
  a5 := Tryd.isAgg5
  z5 := Tryd.sizeOf5
  v5 := Tryd.zeroValue5
  t9 := Tryd.underlying9
  a9 := Tryd.isAgg9
  z9 := Tryd.sizeOf9
  v9 := Tryd.zeroValue9
  t20 := Tryd.underlying20
  a20 := Tryd.isAgg20
  z20 := Tryd.sizeOf20
  v20 := Tryd.zeroValue20
  t37 := Tryd.underlying43
  a37 := Tryd.isAgg43
  z37 := Tryd.sizeOf43
  v37 := Tryd.zeroValue43
  t46 := Tryd.underlying89
  a46 := Tryd.isAgg89
  z46 := Tryd.sizeOf89
  v46 := Tryd.zeroValue89
  t51 := Tryd.underlying98
  a51 := Tryd.isAgg98
  z51 := Tryd.sizeOf98
  v51 := Tryd.zeroValue98
  t53 := Tryd.underlying82
  a53 := Tryd.isAgg82
  z53 := Tryd.sizeOf82
  v53 := Tryd.zeroValue82
  t171 := Tryd.underlying81
  a171 := Tryd.isAgg81
  z171 := Tryd.sizeOf81
  v171 := Tryd.zeroValue81
  t173 := Tryd.underlying85
  a173 := Tryd.isAgg85
  z173 := Tryd.sizeOf85
  v173 := Tryd.zeroValue85
  t212 := Tryd.underlying97
  a212 := Tryd.isAgg97
  z212 := Tryd.sizeOf97
  v212 := Tryd.zeroValue97
  t213 := Tryd.underlying99
  a213 := Tryd.isAgg99
  z213 := Tryd.sizeOf99
  t232 := Tryd.underlying108
  a232 := Tryd.isAgg108
  z232 := Tryd.sizeOf108
  v232 := Tryd.zeroValue108
  t233 := Tryd.underlying109
  a233 := Tryd.isAgg109
  z233 := Tryd.sizeOf109
  v233 := Tryd.zeroValue109
  g17 := by kernel_rfl
  g18 := by kernel_rfl
  g19 := by kernel_rfl
  i0 := by kernel_rfl
  i2 := by kernel_rfl
  i3 := by kernel_rfl
  i4 := by kernel_rfl
  i5 := by kernel_rfl
  i9 := by kernel_rfl
  i20 := by kernel_rfl
  i37 := by kernel_rfl
  i46 := by kernel_rfl
  i51 := by kernel_rfl
  i53 := by kernel_rfl
  i171 := by kernel_rfl
  i173 := by kernel_rfl
  i212 := by kernel_rfl
  i232 := by kernel_rfl
  i233 := by kernel_rfl
  m17 := by kernel_rfl
  m18 := by kernel_rfl
  m19 := by kernel_rfl }
open Go.RowKit Go.Sort Go.Lib in
/-- strconv.Itoa: "Itoa is equivalent to FormatInt(int64(i), 10).": i's DECIMAL NUMERAL ('Lib.itoa': a '-' where i is negative, then the digits), FOR EVERY int. The world behind the call: the world before it, new blocks behind the heap (the library's 'var a [24]byte'), draws. (LAID: no walk: one application.) -/
theorem Tryd.strconv_Itoa (n : Int) (h0 : -9223372036854775808 ≤ n) (h1 : n ≤ 9223372036854775807) (w : World) (htab : Lib.TabIs Tryd.prog w "internal/strconv.uint64pow10" .u64 Lib.pow10Tab) :
    Calls Tryd.prog 24 #[.int .i64 n] w fun e w' => e = .returned (.string ⟨(Lib.itoa n).toArray⟩) ∧ ∃ k os, w' = grow (w.drewN k) os := Any.strconv_Itoa Tryd.laysM171 n h0 h1 w htab
end Go.Proofs
end

section
namespace Go.Proofs.YtcolgghllacloaaDoor.Q
open Go.Shelf
open Go.RowKit Go.Proofs.YtcolgghllacloaaDoor.Q Go.Proofs.YtcolgghllacloaaDoorW.PrintWords Go.Proofs.YtcolgghllacloaaDoorW.PrintLast Go.Proofs.YtcolgghllacloaaDoorW.PrintMore
set_option linter.unusedVariables false
set_option linter.unusedSimpArgs false
/-- A block holds these cells. -/
def CellsAt (W : World) (B : Nat) (t : TypeId) (cs : Array Value) : Prop := W.heap[B]? = some (.cells cs t (0, 0))
theorem CellsAt.lt {W : World} {B : Nat} {t : TypeId} {cs : Array Value} (h : CellsAt W B t cs) : B < W.heap.size := (Array.getElem?_eq_some_iff.1 h).1
theorem CellsAt.new (W : World) (t : TypeId) (cs : Array Value) : CellsAt (W.alloc (.cells cs t)) W.heap.size t cs := World.alloc_heap_new W _
theorem CellsAt.kept {W W' : World} {row : Option Nat} {B : Nat} {t : TypeId} {cs : Array Value} (h : CellsAt W B t cs) (hg : W.grownBy W' row) (hne : some B ≠ row) : CellsAt W' B t cs := (hg.block B h.lt hne).trans h
theorem CellsAt.below {W W' : World} {B n : Nat} {t : TypeId} {cs : Array Value} (h : CellsAt W B t cs) (hb : Below n W W') (hn : B < n) : CellsAt W' B t cs := (hb.block B hn).trans h
theorem CellsAt.alloc {W : World} {B : Nat} {t : TypeId} {cs : Array Value} (h : CellsAt W B t cs) (o : Obj) : CellsAt (W.alloc o) B t cs := (Below.heap_alloc W o B h.lt).trans h
theorem CellsAt.cell {W : World} {B : Nat} {t : TypeId} {cs : Array Value} (h : CellsAt W B t cs) (j : Nat) : W.cell? ⟨B, j, none⟩ = cs[j]? := by
  simp [World.cell?, show W.heap[B]? = _ from h]
/-- What a round that goes on keeps: what lay below, and the box of the slice. -/
def KpB (n₀ Bs : Nat) (W W' : World) : Prop := Below n₀ W W' ∧ W'.heap[Bs]? = W.heap[Bs]?
theorem KpB.trans {n₀ Bs : Nat} {A B C : World} (h : KpB n₀ Bs A B) (k : KpB n₀ Bs B C) : KpB n₀ Bs A C := ⟨h.1.trans k.1, k.2.trans h.2⟩
end Go.Proofs.YtcolgghllacloaaDoor.Q
end

section
namespace Go.Proofs.YtcolgghllacloaaDoor.Q
open Go.RowKit Go.Proofs.YtcolgghllacloaaDoor.Q Go.Proofs.YtcolgghllacloaaDoorW.PrintWords Go.Proofs.YtcolgghllacloaaDoorW.PrintLast Go.Proofs.YtcolgghllacloaaDoorW.PrintMore
set_option linter.unusedVariables false
set_option linter.unusedSimpArgs false
set_option maxHeartbeats 2000000 in
set_option maxRecDepth 100000 in
theorem bld_copyCheck (B b : Nat) (bs : List Value) (w : World) (h : Lib.IsBuilderF 45 5 B b bs w) :
    Calls Tryd.prog 47 #[.pointer (some ⟨b, 0, none⟩)] w fun e w' => e = .returned (.tuple #[]) ∧ (Lib.BuilderAtF 45 5 B b (.pointer (some ⟨b, 0, none⟩)) bs w' ∧ Below B w w' ∧ Lib.OthersKept 5 (some b) w w') := by
  have hsz : (Tryd.prog.info? 45).map (·.size) = some 2 := by kernel_rfl
  obtain ⟨j, hj, hjs⟩ := Option.map_eq_some_iff.1 hsz
  rcases h with h | h
  · have h' := h
    obtain ⟨hB, v, hbk, hown, hne⟩ := h'
    have c0 : w.cell? ⟨b, 0, none⟩ = some (.pointer none) := by rw [Lib.cell_of_heap hbk]; rfl
    have c1 : w.cell? ⟨b, 1, none⟩ = some v := by rw [Lib.cell_of_heap hbk]; rfl
    have f0 : w.frozen? ⟨b, 0, none⟩ = false := Lib.frozen_of_heap hbk 0
    go_enter Tryd.func47, Tryd.ntmps47
    go_wp2
    rw [Lib.run_to_unsafe w ⟨b, 0, none⟩ Tryd.underlying42 Tryd.underlying71 hj (by rw [hjs]; decide) h.shape (Nat.zero_lt_succ 1)]
    simp only [Result.andThen]
    rw [Oper.upon_value]
    go_wp2
    rw [run_callFunc_extern Tryd.func62 (by kernel_rfl) (by kernel_rfl) (by kernel_rfl) (e := Extern.AbiNoEscape.same) (by kernel_rfl)]
    rw [Lib.run_noEscape]
    simp only [Result.andThen]
    rw [Oper.upon_value]
    go_wp2
    rw [Lib.run_from_unsafe w ⟨b, 0, none⟩ Tryd.underlying71 Tryd.underlying42 hj h.shape (by kernel_rfl)]
    simp only [Result.andThen]
    rw [Oper.upon_value]
    go_wp2
    go_end0
    exact ⟨rfl, h.used _, (Below.refl B w).setCell (p := ⟨b, 0, none⟩) h.1 _, (Lib.OthersKept.refl _ _ w).setCell ⟨b, 0, none⟩ rfl _⟩
  · obtain ⟨hB, v, hbk, hown, hne⟩ := id h
    have c0 : w.cell? ⟨b, 0, none⟩ = some (.pointer (some ⟨b, 0, none⟩)) := by rw [Lib.cell_of_heap hbk]; rfl
    go_enter Tryd.func47, Tryd.ntmps47
    go_wp2
    rw [Lib.run_neq_ptr_same w _ Tryd.underlying42 hj]
    go_wp2
    go_end0
    exact ⟨rfl, h, Below.refl B _, Lib.OthersKept.refl _ _ _⟩
theorem infoByte : (Tryd.prog.info? 5).map (fun i => (i.zero, i.size, i.bytes)) = some (some (.int .u8 0), 1, 1) := by kernel_rfl
set_option maxHeartbeats 2000000 in
set_option maxRecDepth 100000 in
theorem bld_WriteString (B b : Nat) (bs : List Value) (s : ByteArray) (w : World) (h : Lib.IsBuilderF 45 5 B b bs w) (hlen : bs.length + s.size ≤ 140737488355328) (hBw : B ≤ w.heap.size) :
    Calls Tryd.prog 23 #[.pointer (some ⟨b, 0, none⟩), .string s] w fun e w' => e = .returned (.tuple #[.int .i64 s.size, .nilIface]) ∧ (Lib.BuilderAtF 45 5 B b (.pointer (some ⟨b, 0, none⟩)) (bs ++ Lib.strCells s) w' ∧ Below B w w' ∧ Lib.OthersKept 5 (some b) w w') := by
  obtain ⟨i0, hi, hz0, hz1, hz2⟩ := info_parts infoByte
  go_enter Tryd.func23, Tryd.ntmps23
  go_wp2_with (go_at_call 47; refine (bld_copyCheck B b bs _ h).mono ?_)
  rintro e w1 ⟨rfl, h1, hb1, hk1⟩
  obtain ⟨hB, v, hbk, hown, hne⟩ := h1
  have c0 : w1.cell? ⟨b, 0, none⟩ = some (.pointer (some ⟨b, 0, none⟩)) := by rw [Lib.cell_of_heap hbk]; rfl
  have c1 : w1.cell? ⟨b, 1, none⟩ = some v := by rw [Lib.cell_of_heap hbk]; rfl
  go_wp2_with (at_builtin; refine Lib.wpList_append_own_stringF _ rfl _ _ 43 9 rfl B 5 i0 Tryd.underlying43 Tryd.underlying9 hi hz0 hz1 hz2 _ _ _ rfl hown s rfl ?c3 ?c4 ?c5 ?_)
  case c3 => unfold maxLen; omega
  case c4 => omega
  case c5 => have := hb1.size; omega
  intro v' w2 hown' hgrow _
  have hlt : b < w1.heap.size := (Array.getElem?_eq_some_iff.1 hbk).1
  have hb2 : w2.heap[b]? = some (.cells #[.pointer (some ⟨b, 0, none⟩), v] 45 (0, 0)) := by
    rw [hgrow.block b hlt (fun e => hne e.symm)]
    exact hbk
  have d0 : w2.cell? ⟨b, 0, none⟩ = some (.pointer (some ⟨b, 0, none⟩)) := by rw [Lib.cell_of_heap hb2]; rfl
  have d1 : w2.cell? ⟨b, 1, none⟩ = some v := by rw [Lib.cell_of_heap hb2]; rfl
  have f1 : w2.frozen? ⟨b, 1, none⟩ = false := Lib.frozen_of_heap hb2 1
  obtain ⟨ao, n', cap, rfl⟩ : ∃ ao n' cap, v' = .slice ao n' cap := by
    rcases hown'.2 with ⟨hv, _⟩ | ⟨g, cap, cur, fz, hv, _⟩
    · exact ⟨_, _, _, hv⟩
    · exact ⟨_, _, _, hv⟩
  go_wp2
  go_ret2
  refine ⟨rfl, ?_, ?_, (hk1.grown hgrow (Lib.ownsRowF_kind hown)).setCell ⟨b, 1, none⟩ rfl _⟩
  · exact Lib.BuilderAtF.put (T := 45) (e := 5) hB hb2 (bs' := bs ++ Lib.strCells s) (by simpa [Lib.strCells_length] using hown') (by decide)
  · exact (hb1.grown hgrow (by have := hb1.size; omega) (fun k hk => (hown.lt k hk).1)).setCell (p := ⟨b, 1, none⟩) hB _
end Go.Proofs.YtcolgghllacloaaDoor.Q
end

section
namespace Go.Proofs.YtcolgghllacloaaDoor.Q
open Go.Shelf
open Go.RowKit Go.Proofs.YtcolgghllacloaaDoor.Q Go.Proofs.YtcolgghllacloaaDoorW.PrintWords Go.Proofs.YtcolgghllacloaaDoorW.PrintLast Go.Proofs.YtcolgghllacloaaDoorW.PrintMore
set_option linter.unusedVariables false
set_option linter.unusedSimpArgs false
set_option maxRecDepth 100000 in
set_option maxHeartbeats 4000000 in
theorem np_none (lf zb ok : Bool) (vK vV vI : Value) (w : World) (h1 : vK.oneCell' = true) (h2 : vV.oneCell' = true) (h3 : vI.oneCell' = true)
    (hz : ∀ w1, Below w.heap.size w w1 → Calls Tryd.prog 21 #[.agg #[.bool lf, vK, vV, vI]] w1 fun e w' => e = .returned (.bool zb) ∧ Below w1.heap.size w1 w')
    (hok : ∀ w1, Below w.heap.size w w1 → Calls Tryd.prog 22 #[.agg #[.bool lf, vK, vV, vI]] w1 fun e w' => e = .returned (.bool ok) ∧ Below w1.heap.size w1 w') (hno : zb = true ∨ ok = false) :
    Calls Tryd.prog 8 #[.agg #[.bool lf, vK, vV, vI]] w fun e w' => e = .returned (.string ⟨#[]⟩) ∧ Below w.heap.size w w' := by
  have hA : CellsAt (w.alloc (.cells #[.bool lf, vK, vV, vI] 28)) w.heap.size 28 #[.bool lf, vK, vV, vI] := CellsAt.new w _ _
  have hbA : Below w.heap.size w (w.alloc (.cells #[.bool lf, vK, vV, vI] 28)) := (Below.refl _ w).alloc (Nat.le_refl _) _
  cases zb with
  | true =>
    go_enter Tryd.func8, Tryd.ntmps8
    go_wp2_with (go_at_call 21; refine (hz _ hbA).mono ?_; rintro e w1 ⟨rfl, hb1⟩)
    go_ret
    exact ⟨rfl, hbA.trans (hb1.mono hbA.size)⟩
  | false =>
    obtain rfl : ok = false := by simpa using hno
    go_enter Tryd.func8, Tryd.ntmps8
    go_wp2_with (go_at_call 21; refine (hz _ hbA).mono ?_; rintro e w1 ⟨rfl, hb1⟩; have hb1' : Below w.heap.size w w1 := hbA.trans (hb1.mono hbA.size); have hA1 : CellsAt w1 w.heap.size 28 #[.bool lf, vK, vV, vI] := hA.below hb1 hA.lt; have c0 : w1.cell? ⟨w.heap.size, 0, none⟩ = some (.bool lf) := hA1.cell 0; have c1 : w1.cell? ⟨w.heap.size, 1, none⟩ = some vK := hA1.cell 1; have c2 : w1.cell? ⟨w.heap.size, 2, none⟩ = some vV := hA1.cell 2; have c3 : w1.cell? ⟨w.heap.size, 3, none⟩ = some vI := hA1.cell 3)
    go_wp2_with (go_at_call 22; refine (hok _ hb1').mono ?_; rintro e w2 ⟨rfl, hb2⟩)
    go_ret
    exact ⟨rfl, hb1'.trans (hb2.mono hb1'.size)⟩
theorem grownBy_of_below {W W' : World} (h : Below W.heap.size W W') : W.grownBy W' none := ⟨h.os, h.tape, h.output, h.size, fun k hk _ => h.block k hk⟩
theorem builder_below {T e : TypeId} {B b : Nat} {bs : List Value} {W W' : World} (h : Lib.IsBuilderF T e B b bs W) (hb : Below W.heap.size W W') : Lib.IsBuilderF T e B b bs W' := by
  have key : ∀ p, Lib.BuilderAtF T e B b p bs W → Lib.BuilderAtF T e B b p bs W' := fun p h => by
    obtain ⟨hB, v, hbk, hown, hne⟩ := id h
    refine ⟨hB, v, (hb.block b h.lt).trans hbk, hown.kept (grownBy_of_below hb) ?_, hne⟩
    by_cases hv : v.ownBlock = none
    · exact .inl hv
    · exact .inr hv
  exact h.imp (key _) (key _)
theorem bld_new (W : World) {B : Nat} (hB : B ≤ W.heap.size) : Lib.IsBuilderF 45 5 B W.heap.size (Lib.byteCells []) (W.alloc (.cells #[.pointer none, .slice none 0 0] 45)) :=
  .inl ⟨hB, .slice none 0 0, CellsAt.new W _ _, World.ownsRowF_nil _ _ _ _, by simp [Value.ownBlock]⟩
/-- What stands while it is written. -/
structure NpAt (w W : World) (b : Nat) (cs : Array Value) (l : List UInt8) : Prop where
  bld : Lib.IsBuilderF 45 5 w.heap.size b (Lib.byteCells l) W
  node : CellsAt W w.heap.size 28 cs
  below : Below w.heap.size w W
theorem NpAt.keep {w W W' : World} {b : Nat} {cs : Array Value} {l : List UInt8} (h : NpAt w W b cs l) (hb : Below W.heap.size W W') : NpAt w W' b cs l :=
  ⟨builder_below h.bld hb, h.node.below hb h.node.lt, h.below.trans (hb.mono h.below.size)⟩
theorem NpAt.write {w W W' : World} {b : Nat} {cs : Array Value} {l l' : List UInt8} {s : ByteArray} (h : NpAt w W b cs l) (hs : s.data.toList = l')
    (hB : Lib.BuilderAtF 45 5 w.heap.size b (.pointer (some ⟨b, 0, none⟩)) (Lib.byteCells l ++ Lib.strCells s) W') (hb : Below w.heap.size W W') (hk : Lib.OthersKept 5 (some b) W W') (hne : w.heap.size ≠ b) : NpAt w W' b cs (l ++ l') := by
  have hno : ∀ c fz, (Obj.cells cs 28 (0, 0)) ≠ .cells c 5 fz := fun c fz e => by injection e with _ e2 _; exact absurd e2 (by decide)
  refine ⟨.inr ?_, hk _ _ h.node (by simpa using hne) hno, h.below.trans hb⟩
  rw [Lib.byteCells_append, ← hs]
  exact hB
theorem NpAt.drew {w W : World} {b : Nat} {cs : Array Value} {l : List UInt8} (h : NpAt w W b cs l) : NpAt w W.drew b cs l := h.keep ⟨rfl, rfl, rfl, Nat.le_refl _, fun _ _ => rfl⟩
theorem NpAt.old {w W : World} {b : Nat} {cs : Array Value} {l : List UInt8} (h : NpAt w W b cs l) {a : Addr} {v : Value} (hv : w.cell? a = some v) : W.cell? a = some v :=
  (World.cell?_of_block (h.below.block a.block (World.block_lt_of_cell? w a hv))).trans hv
def ent (x y : ByteArray) : List UInt8 := Lib.itoa x.size ++ [44] ++ Lib.itoa y.size ++ [58] ++ x.data.toList ++ y.data.toList
def upL (K V : List ByteArray) (i : Nat) : List UInt8 := [76] ++ (List.range i).flatMap fun j => ent (K.getD j ByteArray.empty) (V.getD j ByteArray.empty)
theorem upL_succ (K V : List ByteArray) (i : Nat) : upL K V (i + 1) = upL K V i ++ ent (K.getD i ByteArray.empty) (V.getD i ByteArray.empty) := by
  unfold upL
  rw [List.range_succ, List.flatMap_append, List.flatMap_singleton, List.append_assoc]
def strE (x y : ByteArray) : ByteArray := (⟨(Lib.itoa (x.size : Int)).toArray⟩ : ByteArray) ++ ⟨#[44]⟩ ++ ⟨(Lib.itoa (y.size : Int)).toArray⟩ ++ ⟨#[58]⟩ ++ x ++ y
theorem strE_list (x y : ByteArray) : (strE x y).data.toList = ent x y := by simp [strE, ent, ByteArray.data_append]
theorem strE_size (x y : ByteArray) : (strE x y).size = (Lib.itoa (x.size : Int)).length + 1 + (Lib.itoa (y.size : Int)).length + 1 + x.size + y.size := by
  unfold strE
  simp only [ByteArray.size_append]
  rfl
theorem ent_len (x y : ByteArray) (hx : x.size ≤ 200) (hy : y.size ≤ 200) : (ent x y).length ≤ 444 := by
  have h1 := Lib.itoa_length_le (x.size : Int) (by omega) (by omega)
  have h2 := Lib.itoa_length_le (y.size : Int) (by omega) (by omega)
  have h3 : x.data.toList.length = x.size := rfl
  have h4 : y.data.toList.length = y.size := rfl
  simp only [ent, List.length_append, List.length_cons, List.length_nil, h3, h4]
  omega
theorem upL_len (K V : List ByteArray) (hlen : V.length = K.length) (hsz : ∀ (i : Nat) x y, K[i]? = some x → V[i]? = some y → x.size ≤ 200 ∧ y.size ≤ 200) : ∀ i, i ≤ K.length → (upL K V i).length ≤ 1 + 444 * i := by
  intro i
  induction i with
  | zero => intro _; simp [upL]
  | succ i ih =>
    intro hi
    have h := ih (by omega)
    obtain ⟨x, hx⟩ : ∃ x, K[i]? = some x := ⟨_, List.getElem?_eq_getElem (by omega)⟩
    obtain ⟨y, hy⟩ : ∃ y, V[i]? = some y := ⟨_, List.getElem?_eq_getElem (by omega)⟩
    have gx : K.getD i ByteArray.empty = x := by rw [List.getD_eq_getElem?_getD, hx]; rfl
    have gy : V.getD i ByteArray.empty = y := by rw [List.getD_eq_getElem?_getD, hy]; rfl
    have h2 := ent_len x y (hsz i x y hx hy).1 (hsz i x y hx hy).2
    rw [upL_succ, List.length_append, gx, gy]
    omega
set_option maxRecDepth 100000 in
set_option maxHeartbeats 4000000 in
theorem np_leaf (AK : Option Addr) (cK : Nat) (K : List ByteArray) (AV : Option Addr) (cV : Nat) (V : List ByteArray) (vI : Value) (w : World) (h3 : vI.oneCell' = true) (hlaid : Laid w)
    (hK : ∀ j p, K[j]? = some p → ∃ a, AK = some a ∧ w.cell? (a.add j) = some (.string p)) (hV : ∀ j p, V[j]? = some p → ∃ a, AV = some a ∧ w.cell? (a.add j) = some (.string p)) (hlen : V.length = K.length) (hn : K.length ≤ 4) (hsz : ∀ (i : Nat) x y, K[i]? = some x → V[i]? = some y → x.size ≤ 200 ∧ y.size ≤ 200)
    (hz : ∀ w1, Below w.heap.size w w1 → Calls Tryd.prog 21 #[.agg #[.bool true, .slice AK K.length cK, .slice AV V.length cV, vI]] w1 fun e w' => e = .returned (.bool false) ∧ Below w1.heap.size w1 w')
    (hok : ∀ w1, Below w.heap.size w w1 → Calls Tryd.prog 22 #[.agg #[.bool true, .slice AK K.length cK, .slice AV V.length cV, vI]] w1 fun e w' => e = .returned (.bool true) ∧ Below w1.heap.size w1 w') :
    Calls Tryd.prog 8 #[.agg #[.bool true, .slice AK K.length cK, .slice AV V.length cV, vI]] w fun e w' => e = .returned (.string ⟨(upL K V K.length).toArray⟩) ∧ Below w.heap.size w w' := by
  have HK := Aside0.mk hK
  have HV := Aside0.mk hV
  have HL := Aside0.mk hlen
  have HN := Aside0.mk hn
  have HZ := Aside0.mk hz
  have HO := Aside0.mk hok
  clear hK hV hlen hn hz hok
  have h1 : (Value.slice AK K.length cK).oneCell' = true := rfl
  have h2 : (Value.slice AV V.length cV).oneCell' = true := rfl
  have hA : CellsAt (w.alloc (.cells #[.bool true, .slice AK K.length cK, .slice AV V.length cV, vI] 28)) w.heap.size 28 #[.bool true, .slice AK K.length cK, .slice AV V.length cV, vI] := CellsAt.new w _ _
  have hbA : Below w.heap.size w (w.alloc (.cells #[.bool true, .slice AK K.length cK, .slice AV V.length cV, vI] 28)) := (Below.refl _ w).alloc (Nat.le_refl _) _
  go_enter Tryd.func8, Tryd.ntmps8
  go_wp2_with (first | (go_at_call 21; refine (HZ.out _ hbA).mono ?_; rintro e w1 ⟨rfl, hb1⟩; have hb1' : Below w.heap.size w w1 := hbA.trans (hb1.mono hbA.size); have hA1 : CellsAt w1 w.heap.size 28 #[.bool true, .slice AK K.length cK, .slice AV V.length cV, vI] := hA.below hb1 hA.lt; have c0 : w1.cell? ⟨w.heap.size, 0, none⟩ = some (.bool true) := hA1.cell 0; have c1 : w1.cell? ⟨w.heap.size, 1, none⟩ = some (.slice AK K.length cK) := hA1.cell 1; have c2 : w1.cell? ⟨w.heap.size, 2, none⟩ = some (.slice AV V.length cV) := hA1.cell 2; have c3 : w1.cell? ⟨w.heap.size, 3, none⟩ = some vI := hA1.cell 3) | (go_at_call 22; refine (HO.out _ hb1').mono ?_; rintro e w2 ⟨rfl, hb2⟩; have hb2' : Below w.heap.size w w2 := hb1'.trans (hb2.mono hb1'.size); have hA2 : CellsAt (w2.alloc (.cells #[.pointer none, .slice none 0 0] 45)) w.heap.size 28 #[.bool true, .slice AK K.length cK, .slice AV V.length cV, vI] := (hA1.below hb2 hA1.lt).alloc _; have d0 : (w2.alloc (.cells #[.pointer none, .slice none 0 0] 45)).cell? ⟨w.heap.size, 0, none⟩ = some (.bool true) := hA2.cell 0; have hb3 : Below w.heap.size w (w2.alloc (.cells #[.pointer none, .slice none 0 0] 45)) := hb2'.alloc hb2'.size _; have hlt : w.heap.size < w2.heap.size := Nat.lt_of_lt_of_le hA1.lt hb2.size; have sB := bld_new w2 (Nat.le_of_lt hlt)) | (go_at_call 23; refine (bld_WriteString w.heap.size w2.heap.size _ _ _ sB (by decide) (by have := hb3.size; omega)).mono ?_; rintro e w4 ⟨rfl, hB4, hb4, hk4⟩; have N4 := NpAt.write (l' := [76]) ⟨sB, hA2, hb3⟩ rfl hB4 hb4 hk4 (Nat.ne_of_lt hlt); have e1 : w4.cell? ⟨w.heap.size, 1, none⟩ = some (.slice AK K.length cK) := N4.node.cell 1))
  go_loopw [21] (fun v W => ∃ i : Nat, v = .int .i64 i ∧ Aside0 (i ≤ K.length) ∧ NpAt w W w2.heap.size #[.bool true, .slice AK K.length cK, .slice AV V.length cV, vI] (upL K V i)) (fun v _ => K.length - (intOf v).toNat)
  case atStart => exact ⟨0, rfl, ⟨Nat.zero_le _⟩, by simpa [upL] using N4⟩
  case round =>
    obtain ⟨i, rfl, hi, NC⟩ := hrel
    rcases Nat.lt_or_ge i K.length with hlt2 | hge
    · obtain ⟨x, hx⟩ : ∃ x, K[i]? = some x := ⟨_, List.getElem?_eq_getElem hlt2⟩
      obtain ⟨y, hy⟩ : ∃ y, V[i]? = some y := ⟨_, List.getElem?_eq_getElem (by have := HL.out; omega)⟩
      obtain ⟨ka, hka, hkc⟩ := HK.out i x hx
      obtain ⟨va, hva, hvc⟩ := HV.out i y hy
      subst hka
      subst hva
      have kb : w.heap.size < w2.heap.size := hlt
      have kc : wr.cell? (ka.add i) = some (.string x) := NC.old hkc
      have gx : K.getD i ByteArray.empty = x := by rw [List.getD_eq_getElem?_getD, hx]; rfl
      have gy : V.getD i ByteArray.empty = y := by rw [List.getD_eq_getElem?_getD, hy]; rfl
      have bi : (i : Int) < (K.length : Int) := by omega
      have bv : (i : Int) < (V.length : Int) := by have := HL.out; omega
      have b0 : (0 : Int) ≤ (i : Int) := by omega
      have hd : decide ((i : Int) < (K.length : Int)) = true := decide_eq_true bi
      have SZ := Aside0.mk (hsz i x y hx hy)
      go_wp2
      have lx := Lib.itoa_length_le (x.size : Int) (by omega) (by have := SZ.out; omega)
      have ly := Lib.itoa_length_le (y.size : Int) (by omega) (by have := SZ.out; omega)
      have o1 : (9223372036854775807 < (Lib.itoa (x.size : Int)).length + 1) = False := eq_false (by omega)
      have o2 : (9223372036854775807 < (Lib.itoa (x.size : Int)).length + 1 + (Lib.itoa (y.size : Int)).length) = False := eq_false (by omega)
      have o3 : (9223372036854775807 < (Lib.itoa (x.size : Int)).length + 1 + (Lib.itoa (y.size : Int)).length + 1) = False := eq_false (by omega)
      have o4 : (9223372036854775807 < (Lib.itoa (x.size : Int)).length + 1 + (Lib.itoa (y.size : Int)).length + 1 + x.size) = False := eq_false (by have := SZ.out; omega)
      have o5 : (9223372036854775807 < (Lib.itoa (x.size : Int)).length + 1 + (Lib.itoa (y.size : Int)).length + 1 + x.size + y.size) = False := eq_false (by have := SZ.out; omega)
      have LN := Aside0.mk (show (Lib.byteCells (upL K V i)).length + (strE x y).size ≤ 140737488355328 by
        rw [Lib.byteCells_length, strE_size]
        have h5 := upL_len K V (by have := HL.out; omega) hsz i hi.out
        have := SZ.out
        have := HN.out
        have : i ≤ 4 := by omega
        omega)
      clear lx ly
      have NCd := NC.drew
      clear NC
      go_region_held3 (fun w' => w'.cell? ⟨w.heap.size, 2, none⟩ = some (.slice (some va) V.length cV) ∧ w'.cell? (va.add i) = some (.string y)) (first | exact ⟨NCd.node.cell 2, NCd.old hvc⟩)
        (first | (go_at_call 24; refine (Tryd.strconv_Itoa (x.size : Int) (by omega) (by have := SZ.out; omega) _ (laid_below hlaid NCd.below)).mono ?_; rintro e w6 ⟨rfl, k6, os6, hw6⟩; have NC6 : NpAt w w6 w2.heap.size _ _ := NCd.keep (by rw [hw6]; exact Go.Lib.below_grow _ _ (Nat.le_refl _) _ _); clear NCd hw6; have NCd := NC6; clear NC6) | (go_at_call 24; refine (Tryd.strconv_Itoa (y.size : Int) (by omega) (by have := SZ.out; omega) _ (laid_below hlaid NCd.below)).mono ?_; rintro e w6 ⟨rfl, k6, os6, hw6⟩; have NC6 : NpAt w w6 w2.heap.size _ _ := NCd.keep (by rw [hw6]; exact Go.Lib.below_grow _ _ (Nat.le_refl _) _ _); clear NCd hw6; have NCd := NC6; clear NC6) | (go_at_call 23; refine (bld_WriteString w.heap.size w2.heap.size _ _ _ NCd.bld LN.out (by have := NCd.below.size; omega)).mono ?_; rintro e w7 ⟨rfl, hB7, hb7, hk7⟩; have NC7 : NpAt w w7 w2.heap.size _ (upL K V i ++ ent x y) := NpAt.write NCd (strE_list x y) hB7 hb7 hk7 (Nat.ne_of_lt kb); clear NCd; have NCd := NC7; clear NC7))
      go_wp2
      have ew : wrap64 ((i : Int) + 1) = ((i + 1 : Nat) : Int) := by have := HN.out; unfold wrap64; omega
      rw [ew]
      refine ⟨⟨i + 1, rfl, ⟨hlt2⟩, ?_⟩, ?_⟩
      · rw [upL_succ, gx, gy]
        exact NCd
      · simp only [intOf, Int.toNat_natCast]
        omega
    · have hd : decide ((i : Int) < (K.length : Int)) = false := decide_eq_false (by omega)
      obtain rfl : i = K.length := by have := hi.out; omega
      go_wp2_with (go_at_call 25; refine (Tryd.Builder_String_any_f w.heap.size w2.heap.size _ _ NC.bld (by have := NC.below.size; omega)).mono ?_; rintro e w5 ⟨rfl, hb5⟩)
      go_ret
      exact ⟨rfl, NC.below.trans hb5.2⟩
def entN (x : ByteArray) (y : Int) : List UInt8 := Lib.itoa x.size ++ [44] ++ Lib.itoa y ++ [58] ++ x.data.toList
def headN (z : Int) : List UInt8 := [78] ++ Lib.itoa z ++ [58]
def upN (K : List ByteArray) (I : List Int) (i : Nat) : List UInt8 := headN (I.getD 0 0) ++ (List.range i).flatMap fun j => entN (K.getD j ByteArray.empty) (I.getD (j + 1) 0)
theorem upN_succ (K : List ByteArray) (I : List Int) (i : Nat) : upN K I (i + 1) = upN K I i ++ entN (K.getD i ByteArray.empty) (I.getD (i + 1) 0) := by
  unfold upN
  rw [List.range_succ, List.flatMap_append, List.flatMap_singleton, List.append_assoc]
theorem upN_zero {K : List ByteArray} {I : List Int} {z : Int} (h : I[0]? = some z) : upN K I 0 = headN z := by
  unfold upN
  rw [List.getD_eq_getElem?_getD, h]
  simp
def strZ (z : Int) : ByteArray := (⟨#[78]⟩ : ByteArray) ++ ⟨(Lib.itoa z).toArray⟩ ++ ⟨#[58]⟩
theorem strZ_list (z : Int) : (strZ z).data.toList = headN z := by simp [strZ, headN, ByteArray.data_append]
theorem strZ_ok {z : Int} (h : (Lib.itoa z).length ≤ 21) : (Lib.byteCells []).length + (strZ z).size ≤ 140737488355328 := by
  have e : (strZ z).size = 1 + (Lib.itoa z).length + 1 := by unfold strZ; simp only [ByteArray.size_append]; rfl
  rw [e]
  show 0 + _ ≤ _
  omega
def strN (x : ByteArray) (y : Int) : ByteArray := (⟨(Lib.itoa (x.size : Int)).toArray⟩ : ByteArray) ++ ⟨#[44]⟩ ++ ⟨(Lib.itoa y).toArray⟩ ++ ⟨#[58]⟩ ++ x
theorem strN_list (x : ByteArray) (y : Int) : (strN x y).data.toList = entN x y := by simp [strN, entN, ByteArray.data_append]
theorem strN_size (x : ByteArray) (y : Int) : (strN x y).size = (Lib.itoa (x.size : Int)).length + 1 + (Lib.itoa y).length + 1 + x.size := by
  unfold strN
  simp only [ByteArray.size_append]
  rfl
theorem entN_len (x : ByteArray) (y : Int) (hx : x.size ≤ 200) (hy : 0 ≤ y ∧ y ≤ 100) : (entN x y).length ≤ 444 := by
  have h1 := Lib.itoa_length_le (x.size : Int) (by omega) (by omega)
  have h2 := Lib.itoa_length_le y (by omega) (by omega)
  have h3 : x.data.toList.length = x.size := rfl
  simp only [entN, List.length_append, List.length_cons, List.length_nil, h3]
  omega
theorem upN_len (K : List ByteArray) (I : List Int) (hlen : I.length = K.length + 1) (hsz : ∀ (i : Nat) x, K[i]? = some x → x.size ≤ 200) (hiz : ∀ (i : Nat) y, I[i]? = some y → 0 ≤ y ∧ y ≤ 100) : ∀ i, i ≤ K.length → (upN K I i).length ≤ 23 + 444 * i := by
  intro i
  induction i with
  | zero =>
    intro _
    obtain ⟨z, hz⟩ : ∃ z, I[0]? = some z := ⟨_, List.getElem?_eq_getElem (by omega)⟩
    have h2 := Lib.itoa_length_le z (by have := hiz 0 z hz; omega) (by have := hiz 0 z hz; omega)
    rw [upN_zero hz]
    simp only [headN, List.length_append, List.length_cons, List.length_nil]
    omega
  | succ i ih =>
    intro hi
    have h := ih (by omega)
    obtain ⟨x, hx⟩ : ∃ x, K[i]? = some x := ⟨_, List.getElem?_eq_getElem (by omega)⟩
    obtain ⟨y, hy⟩ : ∃ y, I[i + 1]? = some y := ⟨_, List.getElem?_eq_getElem (by omega)⟩
    have gx : K.getD i ByteArray.empty = x := by rw [List.getD_eq_getElem?_getD, hx]; rfl
    have gy : I.getD (i + 1) 0 = y := by rw [List.getD_eq_getElem?_getD, hy]; rfl
    have h2 := entN_len x y (hsz i x hx) (hiz (i + 1) y hy)
    rw [upN_succ, List.length_append, gx, gy]
    omega
set_option maxRecDepth 100000 in
set_option maxHeartbeats 4000000 in
theorem np_inner (AK : Option Addr) (cK : Nat) (K : List ByteArray) (AI : Option Addr) (cI : Nat) (I : List Int) (vV : Value) (w : World) (h3 : vV.oneCell' = true) (hlaid : Laid w)
    (hK : ∀ j p, K[j]? = some p → ∃ a, AK = some a ∧ w.cell? (a.add j) = some (.string p)) (hI : ∀ j p, I[j]? = some p → ∃ a, AI = some a ∧ w.cell? (a.add j) = some (.int .i64 p)) (hlen : I.length = K.length + 1) (hn : K.length ≤ 4) (hsz : ∀ (i : Nat) x, K[i]? = some x → x.size ≤ 200) (hiz : ∀ (i : Nat) y, I[i]? = some y → 0 ≤ y ∧ y ≤ 100)
    (hz : ∀ w1, Below w.heap.size w w1 → Calls Tryd.prog 21 #[.agg #[.bool false, .slice AK K.length cK, vV, .slice AI I.length cI]] w1 fun e w' => e = .returned (.bool false) ∧ Below w1.heap.size w1 w')
    (hok : ∀ w1, Below w.heap.size w w1 → Calls Tryd.prog 22 #[.agg #[.bool false, .slice AK K.length cK, vV, .slice AI I.length cI]] w1 fun e w' => e = .returned (.bool true) ∧ Below w1.heap.size w1 w') :
    Calls Tryd.prog 8 #[.agg #[.bool false, .slice AK K.length cK, vV, .slice AI I.length cI]] w fun e w' => e = .returned (.string ⟨(upN K I K.length).toArray⟩) ∧ Below w.heap.size w w' := by
  have HK := Aside0.mk hK
  have HV := Aside0.mk hI
  have HL := Aside0.mk hlen
  have HN := Aside0.mk hn
  have HZ := Aside0.mk hz
  have HO := Aside0.mk hok
  clear hK hI hlen hn hz hok
  have h1 : (Value.slice AK K.length cK).oneCell' = true := rfl
  have h2 : (Value.slice AI I.length cI).oneCell' = true := rfl
  obtain ⟨z, hz0⟩ : ∃ z, I[0]? = some z := ⟨_, List.getElem?_eq_getElem (by have := HL.out; omega)⟩
  obtain ⟨ia, hia, hic⟩ := HV.out 0 z hz0
  subst hia
  have hic0 : w.cell? ia = some (.int .i64 z) := by have h0 : ia.add 0 = ia := by simp [Addr.add]
                                                    rw [← h0]; exact hic
  have Hzz := Aside0.mk (hiz 0 z hz0)
  have lz := Lib.itoa_length_le z (by have := Hzz.out; omega) (by have := Hzz.out; omega)
  have bI : (0 : Int) < (I.length : Int) := by have := HL.out; omega
  have p1 : (9223372036854775807 < 1 + (Lib.itoa z).length) = False := eq_false (by omega)
  have p2 : (9223372036854775807 < 1 + (Lib.itoa z).length + 1) = False := eq_false (by omega)
  have LZ := Aside0.mk lz
  clear lz
  have hA : CellsAt (w.alloc (.cells #[.bool false, .slice AK K.length cK, vV, .slice (some ia) I.length cI] 28)) w.heap.size 28 #[.bool false, .slice AK K.length cK, vV, .slice (some ia) I.length cI] := CellsAt.new w _ _
  have hbA : Below w.heap.size w (w.alloc (.cells #[.bool false, .slice AK K.length cK, vV, .slice (some ia) I.length cI] 28)) := (Below.refl _ w).alloc (Nat.le_refl _) _
  go_enter Tryd.func8, Tryd.ntmps8
  go_wp2_with (first | (go_at_call 21; refine (HZ.out _ hbA).mono ?_; rintro e w1 ⟨rfl, hb1⟩; have hb1' : Below w.heap.size w w1 := hbA.trans (hb1.mono hbA.size); have hA1 : CellsAt w1 w.heap.size 28 #[.bool false, .slice AK K.length cK, vV, .slice (some ia) I.length cI] := hA.below hb1 hA.lt; have c0 : w1.cell? ⟨w.heap.size, 0, none⟩ = some (.bool false) := hA1.cell 0; have c1 : w1.cell? ⟨w.heap.size, 1, none⟩ = some (.slice AK K.length cK) := hA1.cell 1; have c2 : w1.cell? ⟨w.heap.size, 2, none⟩ = some vV := hA1.cell 2; have c3 : w1.cell? ⟨w.heap.size, 3, none⟩ = some (.slice (some ia) I.length cI) := hA1.cell 3) | (go_at_call 22; refine (HO.out _ hb1').mono ?_; rintro e w2 ⟨rfl, hb2⟩; have hb2' : Below w.heap.size w w2 := hb1'.trans (hb2.mono hb1'.size); have hA2 : CellsAt (w2.alloc (.cells #[.pointer none, .slice none 0 0] 45)) w.heap.size 28 #[.bool false, .slice AK K.length cK, vV, .slice (some ia) I.length cI] := (hA1.below hb2 hA1.lt).alloc _; have d0 : (w2.alloc (.cells #[.pointer none, .slice none 0 0] 45)).cell? ⟨w.heap.size, 0, none⟩ = some (.bool false) := hA2.cell 0; have d3 : (w2.alloc (.cells #[.pointer none, .slice none 0 0] 45)).cell? ⟨w.heap.size, 3, none⟩ = some (.slice (some ia) I.length cI) := hA2.cell 3; have hb3 : Below w.heap.size w (w2.alloc (.cells #[.pointer none, .slice none 0 0] 45)) := hb2'.alloc hb2'.size _; have hlt : w.heap.size < w2.heap.size := Nat.lt_of_lt_of_le hA1.lt hb2.size; have sB := bld_new w2 (Nat.le_of_lt hlt); have N2 : NpAt w (w2.alloc (.cells #[.pointer none, .slice none 0 0] 45)) w2.heap.size #[.bool false, .slice AK K.length cK, vV, .slice (some ia) I.length cI] [] := ⟨sB, hA2, hb3⟩; have d4 : (w2.alloc (.cells #[.pointer none, .slice none 0 0] 45)).cell? ia = some (.int .i64 z) := N2.old hic0) | (go_at_call 24; refine (Tryd.strconv_Itoa z (by have := Hzz.out; omega) (by have := Hzz.out; omega) _ (laid_below hlaid hb3)).mono ?_; rintro e w3 ⟨rfl, k3, os3, hw3⟩; have N3 : NpAt w w3 w2.heap.size _ _ := N2.keep (by rw [hw3]; exact Go.Lib.below_grow _ _ (Nat.le_refl _) _ _); clear hw3) | (go_at_call 23; refine (bld_WriteString w.heap.size w2.heap.size _ _ _ N3.bld (strZ_ok LZ.out) (by have := N3.below.size; omega)).mono ?_; rintro e w4 ⟨rfl, hB4, hb4, hk4⟩; have N4 : NpAt w w4 w2.heap.size _ ([] ++ headN z) := NpAt.write N3 (strZ_list z) hB4 hb4 hk4 (Nat.ne_of_lt hlt); have e1 : w4.cell? ⟨w.heap.size, 1, none⟩ = some (.slice AK K.length cK) := N4.node.cell 1))
  go_loopw [61] (fun v W => ∃ i : Nat, v = .int .i64 i ∧ Aside0 (i ≤ K.length) ∧ NpAt w W w2.heap.size #[.bool false, .slice AK K.length cK, vV, .slice (some ia) I.length cI] (upN K I i)) (fun v _ => K.length - (intOf v).toNat)
  case atStart => exact ⟨0, rfl, ⟨Nat.zero_le _⟩, by simpa [upN_zero hz0] using N4⟩
  case round =>
    obtain ⟨i, rfl, hi, NC⟩ := hrel
    rcases Nat.lt_or_ge i K.length with hlt2 | hge
    · obtain ⟨x, hx⟩ : ∃ x, K[i]? = some x := ⟨_, List.getElem?_eq_getElem hlt2⟩
      obtain ⟨y, hy⟩ : ∃ y, I[i + 1]? = some y := ⟨_, List.getElem?_eq_getElem (by have := HL.out; omega)⟩
      obtain ⟨ka, hka, hkc⟩ := HK.out i x hx
      obtain ⟨va, hva, hvc⟩ := HV.out (i + 1) y hy
      subst hka
      obtain rfl := Option.some.inj hva
      have kb : w.heap.size < w2.heap.size := hlt
      have kc : wr.cell? (ka.add i) = some (.string x) := NC.old hkc
      have gx : K.getD i ByteArray.empty = x := by rw [List.getD_eq_getElem?_getD, hx]; rfl
      have gy : I.getD (i + 1) 0 = y := by rw [List.getD_eq_getElem?_getD, hy]; rfl
      have bi : (i : Int) < (K.length : Int) := by omega
      have ew : wrap64 ((i : Int) + 1) = (i : Int) + 1 := by have := HN.out; unfold wrap64; omega
      have ew2 : IntKind.i64.wrap ((i : Int) + 1) = (i : Int) + 1 := by
        have h4 := HN.out
        unfold IntKind.wrap
        simp [IntKind.bits, IntKind.signed]
        omega
      have ea : ia.add (i + 1) = ⟨ia.block, ia.off + (i + 1), none⟩ := by simp [Addr.add]
      have hvd : w.cell? ⟨ia.block, ia.off + (i + 1), none⟩ = some (.int .i64 y) := by rw [← ea]; exact hvc
      have bv : (i : Int) + 1 < (I.length : Int) := by have := HL.out; omega
      have b1 : (0 : Int) ≤ (i : Int) + 1 := by omega
      have et : ((i : Int) + 1).toNat = i + 1 := by omega
      have b0 : (0 : Int) ≤ (i : Int) := by omega
      have hd : decide ((i : Int) < (K.length : Int)) = true := decide_eq_true bi
      have SZ := Aside0.mk (hsz i x hx)
      have SY := Aside0.mk (hiz (i + 1) y hy)
      go_wp2
      have lx := Lib.itoa_length_le (x.size : Int) (by omega) (by have := SZ.out; omega)
      have ly := Lib.itoa_length_le y (by have := SY.out; omega) (by have := SY.out; omega)
      have o1 : (9223372036854775807 < (Lib.itoa (x.size : Int)).length + 1) = False := eq_false (by omega)
      have o2 : (9223372036854775807 < (Lib.itoa (x.size : Int)).length + 1 + (Lib.itoa y).length) = False := eq_false (by omega)
      have o3 : (9223372036854775807 < (Lib.itoa (x.size : Int)).length + 1 + (Lib.itoa y).length + 1) = False := eq_false (by omega)
      have o4 : (9223372036854775807 < (Lib.itoa (x.size : Int)).length + 1 + (Lib.itoa y).length + 1 + x.size) = False := eq_false (by have := SZ.out; omega)
      have LN := Aside0.mk (show (Lib.byteCells (upN K I i)).length + (strN x y).size ≤ 140737488355328 by
        rw [Lib.byteCells_length, strN_size]
        have h5 := upN_len K I HL.out hsz hiz i hi.out
        have := SZ.out
        have := HN.out
        have : i ≤ 4 := by omega
        omega)
      clear lx ly
      have NCd := NC.drew
      clear NC
      go_region_held3 (fun w' => w'.cell? ⟨w.heap.size, 3, none⟩ = some (.slice (some ia) I.length cI) ∧ w'.cell? ⟨ia.block, ia.off + (i + 1), none⟩ = some (.int .i64 y)) (first | exact ⟨NCd.node.cell 3, NCd.old hvd⟩)
        (first | (go_at_call 24; refine (Tryd.strconv_Itoa (x.size : Int) (by omega) (by have := SZ.out; omega) _ (laid_below hlaid NCd.below)).mono ?_; rintro e w6 ⟨rfl, k6, os6, hw6⟩; have NC6 : NpAt w w6 w2.heap.size _ _ := NCd.keep (by rw [hw6]; exact Go.Lib.below_grow _ _ (Nat.le_refl _) _ _); clear NCd hw6; have NCd := NC6; clear NC6) | (go_at_call 24; refine (Tryd.strconv_Itoa y (by have := SY.out; omega) (by have := SY.out; omega) _ (laid_below hlaid NCd.below)).mono ?_; rintro e w6 ⟨rfl, k6, os6, hw6⟩; have NC6 : NpAt w w6 w2.heap.size _ _ := NCd.keep (by rw [hw6]; exact Go.Lib.below_grow _ _ (Nat.le_refl _) _ _); clear NCd hw6; have NCd := NC6; clear NC6) | (go_at_call 23; refine (bld_WriteString w.heap.size w2.heap.size _ _ _ NCd.bld LN.out (by have := NCd.below.size; omega)).mono ?_; rintro e w7 ⟨rfl, hB7, hb7, hk7⟩; have NC7 : NpAt w w7 w2.heap.size _ (upN K I i ++ entN x y) := NpAt.write NCd (strN_list x y) hB7 hb7 hk7 (Nat.ne_of_lt kb); clear NCd; have NCd := NC7; clear NC7))
      go_wp2
      first | rw [ew] | skip
      refine ⟨⟨i + 1, rfl, ⟨hlt2⟩, ?_⟩, ?_⟩
      · rw [upN_succ, gx, gy]
        exact NCd
      · simp only [intOf, Int.toNat_natCast]
        omega
    · have hd : decide ((i : Int) < (K.length : Int)) = false := decide_eq_false (by omega)
      obtain rfl : i = K.length := by have := hi.out; omega
      go_wp2_with (go_at_call 25; refine (Tryd.Builder_String_any_f w.heap.size w2.heap.size _ _ NC.bld (by have := NC.below.size; omega)).mono ?_; rintro e w5 ⟨rfl, hb5⟩)
      go_ret
      exact ⟨rfl, NC.below.trans hb5.2⟩
end Go.Proofs.YtcolgghllacloaaDoor.Q
end

section
/-! Rf: the seat's tables. -/
set_option autoImplicit false
namespace Go.Proofs.YtcolgghllacloaaDoor.R0
open Go.Rf
noncomputable def tabs : Tabs where
  ty := [(3, ⟨false, [.int .i64], [], 8⟩),
    (4, ⟨false, [.bool], [], 1⟩),
    (9, ⟨false, [.str], [], 16⟩),
    (22, ⟨false, [.sl .str], [], 24⟩),
    (23, ⟨false, [.sl (.int .i64)], [], 24⟩),
    (28, ⟨true, [.bool, .sl .str, .sl .str, .sl (.int .i64)], [(0, 1, false), (1, 1, false), (2, 1, false), (3, 1, false)], 80⟩)]
  el := [(22, 9), (23, 3)]
  ifcs := []
  known := [21, 22, 33, 43, 44, 45, 46, 60, 61]
  spec := [(21, ⟨[.agg [.v .bool, .v (.sl .str), .v (.sl .str), .v (.sl (.int .i64))]], [.c (.v .bool)]⟩),
    (22, ⟨[.agg [.v .bool, .v (.sl .str), .v (.sl .str), .v (.sl (.int .i64))]], [.c (.v .bool)]⟩),
    (33, ⟨[.c (.v (.int .i64)), .c (.v (.int .i64)), .c (.v (.int .i64))], [.c (.v .bool)]⟩),
    (44, ⟨[.c (.v .str)], [.c (.v .bool)]⟩),
    (46, ⟨[.c (.v (.int .i64))], [.c (.v .bool)]⟩),
    (45043, ⟨[.c (.v (.sl .str)), .clo 44 []], [.c (.v .bool)]⟩),
    (45060, ⟨[.c (.v (.sl .str)), .clo 44 []], [.c (.v (.int .i64))]⟩),
    (47045, ⟨[.c (.v (.sl (.int .i64))), .clo 46 []], [.c (.v .bool)]⟩),
    (47061, ⟨[.c (.v (.sl (.int .i64))), .clo 46 []], [.c (.v (.int .i64))]⟩)]
  cut := [(22, [(4, [(1, .box [.v .bool, .v (.sl .str), .v (.sl .str), .v (.sl (.int .i64))]), (10, .c (.v (.sl .str))), (11, .c (.v (.int .i64))), (12, .c (.v (.int .i64)))])]),
    (45060, [(2, [(0, .c (.v (.sl .str))), (1, .clo 44 []), (7, .c (.v (.int .i64))), (8, .c (.v (.int .i64)))])]),
    (47061, [(2, [(0, .c (.v (.sl (.int .i64)))), (1, .clo 46 []), (7, .c (.v (.int .i64))), (8, .c (.v (.int .i64)))])])]
  eqs := []
theorem tabs_ok : tabs.ok Tryd.prog = true := by kernel_rfl
noncomputable def cx : Go.Rf.Cx := tabs.cx Tryd.prog (fun _ => none) (fun _ => none) (fun _ => none)
theorem good : Go.Rf.Good cx := Go.Rf.Tabs.good tabs_ok
theorem told (k f : Nat) (inp : (cx.spec f).In) (out : (cx.spec f).Out) (h : callF cx k f inp = some out) : Go.Rf.Contract cx f inp out := (Go.Rf.run_ok good (fun f g inp out h => by cases h) k).1 f inp out h
end Go.Proofs.YtcolgghllacloaaDoor.R0
end

section
/-! Rf: the functions, and what each answers. -/
set_option autoImplicit false
set_option linter.unusedVariables false
namespace Go.Proofs.YtcolgghllacloaaDoor.R0
open Go.Rf
/-! (loop.example/jetton/impl.Node).zero -/
noncomputable def F21 (k : Nat) (a0_0 : Bool) (a0_1 : List ByteArray) (a0_2 : List ByteArray) (a0_3 : List Int) : Option ((Bool × Unit) × ((Unit × Unit × Unit × Unit × Unit) × Unit)) := callF cx k 21 ((a0_0, a0_1, a0_2, a0_3, ()), ())
/-! (loop.example/jetton/impl.Node).ok -/
noncomputable def F22 (k : Nat) (a0_0 : Bool) (a0_1 : List ByteArray) (a0_2 : List ByteArray) (a0_3 : List Int) : Option ((Bool × Unit) × ((Unit × Unit × Unit × Unit × Unit) × Unit)) := callF cx k 22 ((a0_0, a0_1, a0_2, a0_3, ()), ())
noncomputable def F22c4 (k : Nat) (x1_0 : Bool) (x1_1 : List ByteArray) (x1_2 : List ByteArray) (x1_3 : List Int) (x10 : List ByteArray) (x11 : Int) (x12 : Int) : Option ((Bool × Unit) × ((Unit × Unit × Unit × Unit × Unit) × Unit)) := cutF cx 22 4 Tryd.f22 k ((x1_0, x1_1, x1_2, x1_3, ()), x10, x11, x12, ())
/-! loop.example/jetton/impl.in -/
noncomputable def F33 (k : Nat) (a0 : Int) (a1 : Int) (a2 : Int) : Option ((Bool × Unit) × (Unit × Unit × Unit × Unit)) := callF cx k 33 (a0, a1, a2, ())
/-! (loop.example/jetton/impl.Node).ok$1 -/
noncomputable def F44 (k : Nat) (a0 : ByteArray) : Option ((Bool × Unit) × (Unit × Unit)) := callF cx k 44 (a0, ())
/-! (loop.example/jetton/impl.Node).ok$2 -/
noncomputable def F46 (k : Nat) (a0 : Int) : Option ((Bool × Unit) × (Unit × Unit)) := callF cx k 46 (a0, ())
/-! slices.ContainsFunc[[]string,string] -/
noncomputable def F45043 (k : Nat) (a0 : List ByteArray) : Option ((Bool × Unit) × (Unit × Unit × Unit)) := callF cx k 45043 (a0, (()), ())
/-! slices.IndexFunc[[]string,string] -/
noncomputable def F45060 (k : Nat) (a0 : List ByteArray) : Option ((Int × Unit) × (Unit × Unit × Unit)) := callF cx k 45060 (a0, (()), ())
noncomputable def F45060c2 (k : Nat) (x0 : List ByteArray) (x7 : Int) (x8 : Int) : Option ((Int × Unit) × (Unit × Unit × Unit)) := cutF cx 45060 2 Tryd.f60 k (x0, (()), x7, x8, ())
/-! slices.ContainsFunc[[]int,int] -/
noncomputable def F47045 (k : Nat) (a0 : List Int) : Option ((Bool × Unit) × (Unit × Unit × Unit)) := callF cx k 47045 (a0, (()), ())
/-! slices.IndexFunc[[]int,int] -/
noncomputable def F47061 (k : Nat) (a0 : List Int) : Option ((Int × Unit) × (Unit × Unit × Unit)) := callF cx k 47061 (a0, (()), ())
noncomputable def F47061c2 (k : Nat) (x0 : List Int) (x7 : Int) (x8 : Int) : Option ((Int × Unit) × (Unit × Unit × Unit)) := cutF cx 47061 2 Tryd.f61 k (x0, (()), x7, x8, ())
theorem F21_eq (k : Nat) (a0_0 : Bool) (a0_1 : List ByteArray) (a0_2 : List ByteArray) (a0_3 : List Int) : F21 (k + 2) a0_0 a0_1 a0_2 a0_3 =
    if (!a0_0) = true then if ((a0_1.length : Int) == (0 : Int)) = true then if ((a0_2.length : Int) == (0 : Int)) = true then some ((((a0_3.length : Int) == (0 : Int)), ()), (((), (), (), (), ()), ())) else some ((false, ()), (((), (), (), (), ()), ())) else some ((false, ()), (((), (), (), (), ()), ())) else some ((false, ()), (((), (), (), (), ()), ())) := by kernel_rfl
theorem F22_eq (k : Nat) (a0_0 : Bool) (a0_1 : List ByteArray) (a0_2 : List ByteArray) (a0_3 : List Int) : F22 (k + 2) a0_0 a0_1 a0_2 a0_3 =
    if (decide ((a0_1.length : Int) > (4 : Int))) = true then some ((false, ()), (((), (), (), (), ()), ())) else F22c4 k a0_0 a0_1 a0_2 a0_3 a0_1 (a0_1.length : Int) (0 : Int) := by kernel_rfl
theorem F22c4_eq (k : Nat) (x1_0 : Bool) (x1_1 : List ByteArray) (x1_2 : List ByteArray) (x1_3 : List Int) (x10 : List ByteArray) (x11 : Int) (x12 : Int) : F22c4 (k + 1) x1_0 x1_1 x1_2 x1_3 x10 x11 x12 =
    if (decide (x12 < x11)) = true then if (decide (0 ≤ x12)) = true then (x10[x12.toNat]?).bind fun y1 => (F33 k (y1.size : Int) (1 : Int) (96 : Int)).bind fun r2 => if (!r2.1.1) = true then some ((false, ()), (((), (), (), (), ()), ())) else if (decide (x12 > (0 : Int))) = true then if (decide (0 ≤ (IntKind.i64.wrap (x12 - (1 : Int))))) = true then (x1_1[(IntKind.i64.wrap (x12 - (1 : Int))).toNat]?).bind fun y3 => if (!(Op.bytesLess y3.toList y1.toList)) = true then some ((false, ()), (((), (), (), (), ()), ())) else F22c4 k x1_0 x1_1 x1_2 x1_3 x10 x11 (IntKind.i64.wrap (x12 + (1 : Int))) else none else F22c4 k x1_0 x1_1 x1_2 x1_3 x10 x11 (IntKind.i64.wrap (x12 + (1 : Int))) else none else if x1_0 = true then if ((x1_3.length : Int) == (0 : Int)) = true then if ((x1_2.length : Int) == (x1_1.length : Int)) = true then (F45043 k x1_2).bind fun r4 => some (((!r4.1.1), ()), (((), (), (), (), ()), ())) else some ((false, ()), (((), (), (), (), ()), ())) else some ((false, ()), (((), (), (), (), ()), ())) else if ((x1_2.length : Int) == (0 : Int)) = true then if (decide ((x1_1.length : Int) > (0 : Int))) = true then if ((x1_3.length : Int) == (IntKind.i64.wrap ((x1_1.length : Int) + (1 : Int)))) = true then (F47045 k x1_3).bind fun r5 => some (((!r5.1.1), ()), (((), (), (), (), ()), ())) else some ((false, ()), (((), (), (), (), ()), ())) else some ((false, ()), (((), (), (), (), ()), ())) else some ((false, ()), (((), (), (), (), ()), ())) := by kernel_rfl
theorem F33_eq (k : Nat) (a0 : Int) (a1 : Int) (a2 : Int) : F33 (k + 2) a0 a1 a2 =
    if (decide (a0 ≥ a1)) = true then some ((decide (a0 ≤ a2), ()), ((), (), (), ())) else some ((false, ()), ((), (), (), ())) := by kernel_rfl
theorem F44_eq (k : Nat) (a0 : ByteArray) : F44 (k + 2) a0 =
    some ((decide ((a0.size : Int) > (140 : Int)), ()), ((), ())) := by kernel_rfl
theorem F46_eq (k : Nat) (a0 : Int) : F46 (k + 2) a0 =
    (F33 k a0 (0 : Int) (18 : Int)).bind fun r1 => some (((!r1.1.1), ()), ((), ())) := by kernel_rfl
theorem F45043_eq (k : Nat) (a0 : List ByteArray) : F45043 (k + 2) a0 =
    (F45060 k a0).bind fun r1 => some ((decide (r1.1.1 ≥ (0 : Int)), ()), ((), (), ())) := by kernel_rfl
theorem F45060_eq (k : Nat) (a0 : List ByteArray) : F45060 (k + 2) a0 =
    F45060c2 k a0 (a0.length : Int) (0 : Int) := by kernel_rfl
theorem F45060c2_eq (k : Nat) (x0 : List ByteArray) (x7 : Int) (x8 : Int) : F45060c2 (k + 1) x0 x7 x8 =
    if (decide (x8 < x7)) = true then if (decide (0 ≤ x8)) = true then (x0[x8.toNat]?).bind fun y1 => (F44 k y1).bind fun r2 => if r2.1.1 = true then some ((x8, ()), ((), (), ())) else F45060c2 k x0 x7 (IntKind.i64.wrap (x8 + (1 : Int))) else none else some (((-1 : Int), ()), ((), (), ())) := by kernel_rfl
theorem F47045_eq (k : Nat) (a0 : List Int) : F47045 (k + 2) a0 =
    (F47061 k a0).bind fun r1 => some ((decide (r1.1.1 ≥ (0 : Int)), ()), ((), (), ())) := by kernel_rfl
theorem F47061_eq (k : Nat) (a0 : List Int) : F47061 (k + 2) a0 =
    F47061c2 k a0 (a0.length : Int) (0 : Int) := by kernel_rfl
theorem F47061c2_eq (k : Nat) (x0 : List Int) (x7 : Int) (x8 : Int) : F47061c2 (k + 1) x0 x7 x8 =
    if (decide (x8 < x7)) = true then if (decide (0 ≤ x8)) = true then (x0[x8.toNat]?).bind fun y1 => (F46 k y1).bind fun r2 => if r2.1.1 = true then some ((x8, ()), ((), (), ())) else F47061c2 k x0 x7 (IntKind.i64.wrap (x8 + (1 : Int))) else none else some (((-1 : Int), ()), ((), (), ())) := by kernel_rfl
end Go.Proofs.YtcolgghllacloaaDoor.R0
end

section
/-! Rf, trees: copies, comparisons, bulk. -/
set_option autoImplicit false
namespace Go.Proofs.YtcolgghllacloaaDoor.R0
open Go.Rf

abbrev NodeT : Type := Bool × List ByteArray × List ByteArray × List Int × Unit
def okLen (n : Nat) : Prop := n ≤ 1048576
def okNode (n : NodeT) : Prop := okLen n.2.1.length ∧ okLen n.2.2.1.length ∧ okLen n.2.2.2.1.length

/-- no string and no row longer than can be counted -/
def fits (n : NodeT) : Prop := n.2.1.length ≤ 9223372036854775807 ∧ (∀ y, y ∈ n.2.1 → y.size ≤ 9223372036854775807) ∧ n.2.2.1.length ≤ 9223372036854775807 ∧ (∀ y, y ∈ n.2.2.1 → y.size ≤ 9223372036854775807) ∧ n.2.2.2.1.length ≤ 9223372036854775807
end Go.Proofs.YtcolgghllacloaaDoor.R0
end

section
/-! Rf, trees: what a node must meet; both sides ask the same. -/
set_option autoImplicit false
namespace Go.Proofs.YtcolgghllacloaaDoor.R0
open Go.Rf

def within (n lo hi : Int) : Bool := decide (n ≥ lo) && decide (n ≤ hi)
theorem F33_ev (n lo hi : Int) : Ev (fun k => F33 k n lo hi) ((within n lo hi, ()), ((), (), (), ())) := by
  refine Ev.step 2 (fun k => F33_eq k n lo hi) ?_
  unfold within
  cases h : decide (n ≥ lo) with
  | true => exact Ev.now _
  | false => exact Ev.now _
/-- the i-th key: its size, its place behind the one before -/
def keyOk (l : List ByteArray) (i : Nat) : Bool := within ((l.getD i ByteArray.empty).size : Int) 1 96 && (i == 0 || Op.bytesLess (l.getD (i - 1) ByteArray.empty).toList (l.getD i ByteArray.empty).toList)
def keysOk' (l : List ByteArray) : Bool := (List.range l.length).all (keyOk l)
theorem getD_of {l : List ByteArray} {i : Nat} (h : i < l.length) : l[i]? = some (l.getD i ByteArray.empty) := by
  rw [List.getD_eq_getElem?_getD, List.getElem?_eq_getElem h]
  rfl
theorem gt0 {i : Nat} : decide ((i : Int) > 0) = !(i == 0) := by
  cases i with
  | zero => rfl
  | succ i => simp
theorem pred64 {i : Nat} (h : 0 < i) (hn : i ≤ 4611686018427387904) : IntKind.i64.wrap ((i : Int) - 1) = ((i - 1 : Nat) : Int) := by
  rw [wrap64 (by omega) (by omega)]
  omega
def valsOk (l : List ByteArray) : Bool := (List.range l.length).all fun i => !decide (((l.getD i ByteArray.empty).size : Int) > 140)
def kidsOk (l : List Int) : Bool := (List.range l.length).all fun i => within (l.getD i 0) 0 18
def nodeOk (n : NodeT) : Bool := keysOk' n.2.1 && decide ((n.2.1.length : Int) ≤ 4) && (if n.1 = true then valsOk n.2.2.1 && ((n.2.2.1.length : Int) == (n.2.1.length : Int)) && ((n.2.2.2.1.length : Int) == 0)
  else kidsOk n.2.2.2.1 && ((n.2.2.1.length : Int) == 0) && decide ((n.2.1.length : Int) > 0) && ((n.2.2.2.1.length : Int) == (n.2.1.length : Int) + 1))
theorem getI_of {l : List Int} {i : Nat} (h : i < l.length) : l[i]? = some (l.getD i 0) := by
  rw [List.getD_eq_getElem?_getD, List.getElem?_eq_getElem h]
  rfl
theorem F45060_ev (l : List ByteArray) (h : okLen l.length) : ∃ r, Ev (fun k => F45060 k l) r ∧ decide (r.1.1 ≥ (0 : Int)) = !valsOk l := by
  unfold okLen at h
  obtain ⟨r, h1, h2⟩ := find_loop (L := fun k i => F45060c2 k l (l.length : Int) i) (n := l.length) (no := fun i => (((i : Int), ()), ((), (), ()))) (yes := (((-1 : Int), ()), ((), (), ()))) (c := fun i => !decide (((l.getD i ByteArray.empty).size : Int) > 140)) (fun i hi hc => by
      refine Ev.step 1 (fun k => F45060c2_eq k l _ i) ?_
      simp only [Bool.not_eq_false'] at hc
      simp only [lt_true hi, ge0, if_true, Int.toNat_natCast, getD_of hi, Option.bind_some]
      refine Ev.bind (Ev.step 2 (fun k => F44_eq k _) (Ev.now _)) ?_
      simp only [hc, if_true]
      exact Ev.now _) (fun i hi hc r hr => by
      refine Ev.step 1 (fun k => F45060c2_eq k l _ i) ?_
      simp only [Bool.not_eq_true'] at hc
      simp only [lt_true hi, ge0, if_true, Int.toNat_natCast, getD_of hi, Option.bind_some]
      refine Ev.bind (Ev.step 2 (fun k => F44_eq k _) (Ev.now _)) ?_
      simp only [hc, Bool.false_eq_true, if_false]
      rw [wrap_succ (by omega)]
      exact hr) (by
      refine Ev.step 1 (fun k => F45060c2_eq k l _ l.length) ?_
      simp only [lt_false (Nat.le_refl l.length), Bool.false_eq_true, if_false]
      exact Ev.now _)
  refine ⟨r, Ev.step 2 (fun k => F45060_eq k l) h1, ?_⟩
  unfold valsOk
  rcases h2 with ⟨h2, rfl⟩ | ⟨h2, i, _, rfl⟩
  · rw [h2]; rfl
  · rw [h2]; simp
theorem F45043_ev (l : List ByteArray) (h : okLen l.length) : Ev (fun k => F45043 k l) ((!valsOk l, ()), ((), (), ())) := by
  obtain ⟨r, h1, h2⟩ := F45060_ev l h
  refine Ev.step 2 (fun k => F45043_eq k l) (Ev.bind h1 ?_)
  simp only [h2]
  exact Ev.now _
theorem F47061_ev (l : List Int) (h : okLen l.length) : ∃ r, Ev (fun k => F47061 k l) r ∧ decide (r.1.1 ≥ (0 : Int)) = !kidsOk l := by
  unfold okLen at h
  obtain ⟨r, h1, h2⟩ := find_loop (L := fun k i => F47061c2 k l (l.length : Int) i) (n := l.length) (no := fun i => (((i : Int), ()), ((), (), ()))) (yes := (((-1 : Int), ()), ((), (), ()))) (c := fun i => within (l.getD i 0) 0 18) (fun i hi hc => by
      refine Ev.step 1 (fun k => F47061c2_eq k l _ i) ?_
      simp only [lt_true hi, ge0, if_true, Int.toNat_natCast, getI_of hi, Option.bind_some]
      refine Ev.bind (Ev.step 2 (fun k => F46_eq k _) (Ev.bind (F33_ev _ _ _) (Ev.now _))) ?_
      simp only [hc, Bool.not_false, if_true]
      exact Ev.now _) (fun i hi hc r hr => by
      refine Ev.step 1 (fun k => F47061c2_eq k l _ i) ?_
      simp only [lt_true hi, ge0, if_true, Int.toNat_natCast, getI_of hi, Option.bind_some]
      refine Ev.bind (Ev.step 2 (fun k => F46_eq k _) (Ev.bind (F33_ev _ _ _) (Ev.now _))) ?_
      simp only [hc, Bool.not_true, Bool.false_eq_true, if_false]
      rw [wrap_succ (by omega)]
      exact hr) (by
      refine Ev.step 1 (fun k => F47061c2_eq k l _ l.length) ?_
      simp only [lt_false (Nat.le_refl l.length), Bool.false_eq_true, if_false]
      exact Ev.now _)
  refine ⟨r, Ev.step 2 (fun k => F47061_eq k l) h1, ?_⟩
  unfold kidsOk
  rcases h2 with ⟨h2, rfl⟩ | ⟨h2, i, _, rfl⟩
  · rw [h2]; rfl
  · rw [h2]; simp
theorem F47045_ev (l : List Int) (h : okLen l.length) : Ev (fun k => F47045 k l) ((!kidsOk l, ()), ((), (), ())) := by
  obtain ⟨r, h1, h2⟩ := F47061_ev l h
  refine Ev.step 2 (fun k => F47045_eq k l) (Ev.bind h1 ?_)
  simp only [h2]
  exact Ev.now _
theorem F22_ev (n : NodeT) (h : okNode n) : Ev (fun k => F22 k n.1 n.2.1 n.2.2.1 n.2.2.2.1) ((nodeOk n, ()), (((), (), (), (), ()), ())) := by
  obtain ⟨h1, h2, h3⟩ := h
  obtain ⟨leaf, keys, vals, kids, u⟩ := n
  simp only at h1 h2 h3 ⊢
  refine Ev.step 2 (fun k => F22_eq k leaf keys vals kids) ?_
  unfold nodeOk
  cases h4 : decide ((keys.length : Int) > 4) with
  | true =>
    have h5 : decide ((keys.length : Int) ≤ 4) = false := by simp at h4 ⊢; omega
    simp only [h5, Bool.and_false, Bool.false_and, if_true]
    exact Ev.now _
  | false =>
    have h5 : decide ((keys.length : Int) ≤ 4) = true := by simp at h4 ⊢; omega
    simp only [h5, Bool.and_true, Bool.false_eq_true, if_false]
    have hl := h1
    unfold okLen at hl
    have := all_loop (L := fun k i => F22c4 k leaf keys vals kids keys (keys.length : Int) i) (n := keys.length) (no := ((false, ()), (((), (), (), (), ()), ())))
      (yes := ((if leaf = true then valsOk vals && ((vals.length : Int) == (keys.length : Int)) && ((kids.length : Int) == 0) else kidsOk kids && ((vals.length : Int) == 0) && decide ((keys.length : Int) > 0) && ((kids.length : Int) == (keys.length : Int) + 1), ()), (((), (), (), (), ()), ())))
      (c := keyOk keys) ?_ ?_ ?_
    · unfold keysOk'
      refine (congrArg (Ev _) ?_).mp this
      cases (List.range keys.length).all (keyOk keys) <;> simp
    · intro i hi hc
      refine Ev.step 1 (fun k => F22c4_eq k leaf keys vals kids keys _ i) ?_
      simp only [lt_true hi, ge0, if_true, Int.toNat_natCast, getD_of hi, Option.bind_some]
      refine Ev.bind (F33_ev _ 1 96) ?_
      simp only [gt0]
      unfold keyOk at hc
      cases hw : within ((keys.getD i ByteArray.empty).size : Int) 1 96 with
      | false => exact Ev.now _
      | true =>
        rw [hw] at hc
        simp only [Bool.true_and, Bool.or_eq_false_iff] at hc
        have hp : 0 < i := by
          rcases Nat.eq_zero_or_pos i with h0 | h0
          · rw [h0] at hc; cases hc.1
          · exact h0
        have hi2 : i - 1 < keys.length := by omega
        simp only [hc.1, Bool.not_false, Bool.not_true, Bool.false_eq_true, if_false, if_true, pred64 hp (by omega), ge0, Int.toNat_natCast, getD_of hi2, Option.bind_some, hc.2]
        exact Ev.now _
    · intro i hi hc r hr
      refine Ev.step 1 (fun k => F22c4_eq k leaf keys vals kids keys _ i) ?_
      simp only [lt_true hi, ge0, if_true, Int.toNat_natCast, getD_of hi, Option.bind_some]
      refine Ev.bind (F33_ev _ 1 96) ?_
      unfold keyOk at hc
      simp only [Bool.and_eq_true, Bool.or_eq_true] at hc
      simp only [gt0, hc.1, Bool.not_true, Bool.false_eq_true, if_false]
      rw [wrap_succ (by omega)]
      cases h0 : (i == 0) with
      | true => exact hr
      | false =>
        have hp : 0 < i := by
          rcases Nat.eq_zero_or_pos i with h1 | h1
          · rw [h1] at h0; cases h0
          · exact h1
        have hi2 : i - 1 < keys.length := by omega
        rcases hc.2 with hc2 | hc2
        · rw [h0] at hc2; cases hc2
        · simp only [Bool.not_false, if_true, pred64 hp (by omega), ge0, Int.toNat_natCast, getD_of hi2, Option.bind_some, hc2, Bool.not_true, Bool.false_eq_true, if_false]
          exact hr
    · refine Ev.step 1 (fun k => F22c4_eq k leaf keys vals kids keys _ keys.length) ?_
      simp only [lt_false (Nat.le_refl keys.length), Bool.false_eq_true, if_false]
      rw [wrap64 (n := (keys.length : Int) + 1) (by omega) (by omega)]
      cases leaf with
      | true =>
        simp only [if_true]
        cases ((kids.length : Int) == 0) with
        | false => simp only [Bool.and_false]; exact Ev.now _
        | true =>
          cases ((vals.length : Int) == (keys.length : Int)) with
          | false => simp only [Bool.and_false, Bool.false_and]; exact Ev.now _
          | true =>
            simp only [if_true, Bool.and_true]
            refine Ev.bind (F45043_ev vals h2) ?_
            simp only [Bool.not_not]
            exact Ev.now _
      | false =>
        simp only [Bool.false_eq_true, if_false]
        cases ((vals.length : Int) == 0) with
        | false => simp only [Bool.and_false, Bool.false_and]; exact Ev.now _
        | true =>
          cases decide ((keys.length : Int) > 0) with
          | false => simp only [Bool.and_false, Bool.false_and]; exact Ev.now _
          | true =>
            cases ((kids.length : Int) == (keys.length : Int) + 1) with
            | false => simp only [Bool.and_false]; exact Ev.now _
            | true =>
              simp only [if_true, Bool.and_true]
              refine Ev.bind (F47045_ev kids h3) ?_
              simp only [Bool.not_not]
              exact Ev.now _
/-! nodes that are empty; keys within bounds -/
def nodeZero (n : NodeT) : Bool := !n.1 && ((n.2.1.length : Int) == 0) && ((n.2.2.1.length : Int) == 0) && ((n.2.2.2.1.length : Int) == 0)
theorem F21_ev (n : NodeT) : Ev (fun k => F21 k n.1 n.2.1 n.2.2.1 n.2.2.2.1) ((nodeZero n, ()), (((), (), (), (), ()), ())) := by
  refine Ev.step 2 (fun k => F21_eq k _ _ _ _) ?_
  unfold nodeZero
  cases n.1 with
  | true => exact Ev.now _
  | false =>
    cases ((n.2.1.length : Int) == 0) with
    | false => exact Ev.now _
    | true => cases ((n.2.2.1.length : Int) == 0) with
      | false => exact Ev.now _
      | true => exact Ev.now _
def inKey (l : List ByteArray) (low high : ByteArray) (i : Nat) : Bool := !(Op.bytesLess (l.getD i ByteArray.empty).toList low.toList) && (high.toList == (⟨#[]⟩ : ByteArray).toList || Op.bytesLess (l.getD i ByteArray.empty).toList high.toList)
def inKeys (l : List ByteArray) (low high : ByteArray) : Bool := (List.range l.length).all (inKey l low high)
end Go.Proofs.YtcolgghllacloaaDoor.R0
end

section
/-! Rf: what the contracts of the library say is what the run takes them to say. -/
set_option autoImplicit false
namespace Go.Proofs.YtcolgghllacloaaDoor.R
open Go.Rf Go.RowKit
theorem ans_below {sp : Go.Rf.Spec} {out : sp.Out} {w w' : World} {Z : Nat → Prop} {args rvs : List Value} (hZ : ∀ b, Z b → b < w.heap.size) (hb : Below w.heap.size w w') (hr : ShsRep w' Z sp.rs out.1 rvs []) (hp : PostRep w w' Z sp.ps out.2 args []) :
    AnsS sp out w Z args [] (.returned (tupV rvs)) w' :=
  ⟨rvs, Z, [], [], rfl, hr, hp, by simp, (fun b hb => by cases hb), (fun b hb => hb), fun b hz => ⟨Nat.lt_of_lt_of_le (hZ b hz) hb.size, .inl hz⟩, ⟨hb.os, hb.tape, hb.output, hb.size, fun b hlt _ => hb.block b hlt, fun b o ho _ => (hb.block b (Array.getElem?_eq_some_iff.1 ho).1).trans ho⟩⟩
/-- two arguments of one cell each -/
theorem two_args {w : World} {Z : Nat → Prop} {s t : T} {x : s.D} {y : t.D} {args : List Value} {fp : List Nat} (h : ShsRep w Z [.c (.v s), .c (.v t)] (x, y, ()) args fp) : ∃ u v, args = [u, v] ∧ fp = [] ∧ rep w Z s x [u] ∧ rep w Z t y [v] := by
  match args, h with
  | [v1, v2], ⟨f, g, hfp, ⟨hv, hf⟩, ⟨f2, g2, hg2, ⟨hv2, hf2⟩, hg⟩⟩ =>
    obtain rfl : f = [] := hf
    obtain rfl : f2 = [] := hf2
    obtain rfl : g2 = [] := hg
    obtain rfl : g = [] := hg2
    obtain rfl : fp = [] := hfp
    exact ⟨v1, v2, rfl, rfl, hv, hv2⟩
theorem one_arg {w : World} {Z : Nat → Prop} {s : T} {x : s.D} {args : List Value} {fp : List Nat} (h : ShsRep w Z [.c (.v s)] (x, ()) args fp) : ∃ u, args = [u] ∧ fp = [] ∧ rep w Z s x [u] := by
  match args, h with
  | [v1], ⟨f, g, hfp, ⟨hv, hf⟩, hg⟩ =>
    obtain rfl : f = [] := hf
    obtain rfl : g = [] := hg
    obtain rfl : fp = [] := hfp
    exact ⟨v1, rfl, rfl, hv⟩
theorem str_arg {w : World} {Z : Nat → Prop} {s : ByteArray} {v : Value} (h : rep w Z .str s [v]) : v = .string s := (List.cons.inj (show [v] = [Value.string s] from h)).1
theorem int_arg {w : World} {Z : Nat → Prop} {k : IntKind} {n : Int} {v : Value} (h : rep w Z (.int k) n [v]) : v = .int k n := (List.cons.inj (show [v] = [Value.int k n] from h)).1
theorem post_two {w w' : World} {Z : Nat → Prop} {s t : T} {u v : Value} : PostRep w w' Z [.c (.v s), .c (.v t)] ((), (), ()) [u, v] [] := ⟨[], [], rfl, rfl, ⟨[], [], rfl, rfl, rfl⟩⟩
theorem post_one {w w' : World} {Z : Nat → Prop} {s : T} {u : Value} : PostRep w w' Z [.c (.v s)] ((), ()) [u] [] := ⟨[], [], rfl, rfl, rfl⟩
theorem gPow : Tryd.prog.globalNamed "internal/strconv.uint64pow10" = some powG := by kernel_rfl
theorem laid_of {w : World} {Z : Nat → Prop} (h : GL cx w Z) : Q.Laid w := by
  obtain ⟨_, cs, t, fz, hh, rfl⟩ := h.2 powG (fun cs => cs = powCells) (by show objsR powG = _; unfold objsR; simp)
  unfold Q.Laid Lib.TabIs World.var?
  rw [gPow, Option.bind_some, hh]
  rfl
theorem np_cells {w : World} {Z : Nat → Prop} {l : List ByteArray} {v : Value} (h : rep w Z (.sl .str) l [v]) : ∃ A c, v = .slice A l.length c ∧ ∀ j p, l[j]? = some p → ∃ a : Addr, A = some a ∧ w.cell? (a.add j) = some (.string p) := by
  obtain ⟨A, c, vs, h1, h2, h3, h4⟩ := h
  refine ⟨A, c, (List.cons.inj h1).1, fun j p hp => ?_⟩
  obtain ⟨cs, hr, hg⟩ := reps.get (n := 1) (fun x c h => by rw [show c = [.string x] from h]; rfl) h3 j p hp
  obtain rfl : cs = [.string p] := hr
  obtain ⟨a, ha, _, _, hc⟩ := h4 (j * 1 + 0) (.string p) (hg 0 _ rfl)
  exact ⟨a, ha, by rw [show j * 1 + 0 = j by omega] at hc; exact hc⟩
theorem np_ints {w : World} {Z : Nat → Prop} {l : List Int} {v : Value} (h : rep w Z (.sl (.int .i64)) l [v]) : ∃ A c, v = .slice A l.length c ∧ ∀ j p, l[j]? = some p → ∃ a : Addr, A = some a ∧ w.cell? (a.add j) = some (.int .i64 p) := by
  obtain ⟨A, c, vs, h1, h2, h3, h4⟩ := h
  refine ⟨A, c, (List.cons.inj h1).1, fun j p hp => ?_⟩
  obtain ⟨cs, hr, hg⟩ := reps.get (n := 1) (fun x c h => by rw [show c = [.int .i64 x] from h]; rfl) h3 j p hp
  obtain rfl : cs = [.int .i64 p] := hr
  obtain ⟨a, ha, _, _, hc⟩ := h4 (j * 1 + 0) (.int .i64 p) (hg 0 _ rfl)
  exact ⟨a, ha, by rw [show j * 1 + 0 = j by omega] at hc; exact hc⟩
abbrev npTs : List Sc := [.v .bool, .v (.sl .str), .v (.sl .str), .v (.sl (.int .i64))]
/-- a question about a node, told ahead -/
theorem np_ask {f : Nat} {w w1 : World} {Z : Nat → Prop} {n : Bool × List ByteArray × List ByteArray × List Int × Unit} {us : List Value} {b : Bool} (hb : Below w.heap.size w w1) (hZ : ∀ b, Z b → b < w.heap.size) (hr : SReps w Z npTs n us [])
    (h : ∀ w Z args fp, ShsRep w Z [.agg npTs] (n, ()) args fp → fp.Nodup → (∀ b ∈ fp, ¬ Z b ∧ b < w.heap.size) → (∀ b, Z b → b < w.heap.size) →
      Calls Tryd.prog f args.toArray w (AnsS (⟨[.agg npTs], [.c (.v .bool)]⟩ : Go.Rf.Spec) ((b, ()), (((), (), (), (), ()), ())) w Z args fp)) :
    Calls Tryd.prog f #[.agg us.toArray] w1 fun e w' => e = .returned (.bool b) ∧ Below w1.heap.size w1 w' := by
  have hr1 : SReps w1 Z npTs n us [] := by
    match us, hr with
    | [u0, u1, u2, u3], ⟨f0, g0, e0, ⟨a0, b0⟩, f1, g1, e1, ⟨a1, b1⟩, f2, g2, e2, ⟨a2, b2⟩, f3, g3, e3, ⟨a3, b3⟩, e4⟩ =>
      have hh : ∀ b, Z b → w1.heap[b]? = w.heap[b]? := fun b hz => hb.block b (hZ b hz)
      exact ⟨f0, g0, e0, ⟨a0.ext hh (fun _ h => h), b0⟩, f1, g1, e1, ⟨a1.ext hh (fun _ h => h), b1⟩, f2, g2, e2, ⟨a2.ext hh (fun _ h => h), b2⟩, f3, g3, e3, ⟨a3.ext hh (fun _ h => h), b3⟩, e4⟩
  refine (h w1 Z [.agg us.toArray] [] ⟨[], [], rfl, ⟨us.toArray, rfl, by simpa using hr1⟩, rfl⟩ (by simp) (fun b hb => by cases hb) (fun b hz => Nat.lt_of_lt_of_le (hZ b hz) hb.size)).mono ?_
  rintro e w' ⟨rvs, Z', rfp, pfp, rfl, hs, _, _, _, _, _, hk⟩
  match rvs, hs with
  | [v], ⟨f, g, _, ⟨hv, _⟩, _⟩ =>
    obtain rfl : v = .bool b := (List.cons.inj (show [v] = [Value.bool b] from hv)).1
    refine ⟨rfl, hk.os, hk.tape, hk.output, hk.size, fun b hlt => hk.block b hlt ?_⟩
    rintro (h | h)
    · cases h
    · omega
theorem np_zero {w w1 : World} {Z : Nat → Prop} {n : Bool × List ByteArray × List ByteArray × List Int × Unit} {us : List Value} (hb : Below w.heap.size w w1) (hZ : ∀ b, Z b → b < w.heap.size) (hr : SReps w Z npTs n us []) :
    Calls Tryd.prog 21 #[.agg us.toArray] w1 fun e w' => e = .returned (.bool (npZero n)) ∧ Below w1.heap.size w1 w' := by
  refine np_ask hb hZ hr (f := 21) fun w Z args fp h1 h2 h3 h4 => ?_
  obtain ⟨k, hk⟩ := (R0.F21_ev n).get
  exact R0.told k 21 (n, ()) ((npZero n, ()), (((), (), (), (), ()), ())) hk w Z args fp h1 h2 h3 h4 ⟨(fun _ _ h => by cases h), (fun _ _ h => by cases h)⟩
theorem np_ok {w w1 : World} {Z : Nat → Prop} {n : Bool × List ByteArray × List ByteArray × List Int × Unit} {us : List Value} (hb : Below w.heap.size w w1) (hZ : ∀ b, Z b → b < w.heap.size) (hr : SReps w Z npTs n us []) (hn : R0.okNode n) :
    Calls Tryd.prog 22 #[.agg us.toArray] w1 fun e w' => e = .returned (.bool (npOk n)) ∧ Below w1.heap.size w1 w' := by
  refine np_ask hb hZ hr (f := 22) fun w Z args fp h1 h2 h3 h4 => ?_
  obtain ⟨k, hk⟩ := (R0.F22_ev n hn).get
  exact R0.told k 22 (n, ()) ((npOk n, ()), (((), (), (), (), ()), ())) hk w Z args fp h1 h2 h3 h4 ⟨(fun _ _ h => by cases h), (fun _ _ h => by cases h)⟩
theorem np_keys {K : List ByteArray} (h : npKeysOk K = true) (i : Nat) (x : ByteArray) (hx : K[i]? = some x) : x.size ≤ 96 := by
  have hi := (List.getElem?_eq_some_iff.1 hx).1
  have := List.all_eq_true.1 h i (List.mem_range.2 hi)
  unfold npKeyOk npWithin at this
  have e : K.getD i ByteArray.empty = x := by rw [List.getD_eq_getElem?_getD, hx]; rfl
  rw [e] at this
  simp only [Bool.and_eq_true, decide_eq_true_eq] at this
  omega
theorem nodeput_contract (inp : (cx.spec 8).In) (out : (cx.spec 8).Out) (h : nodeputR inp = some out) : Contract cx 8 inp out := by
  obtain ⟨n, u⟩ := inp
  unfold nodeputR at h
  obtain ⟨h1, h2⟩ := Go.Rf.cond_some h
  rw [Bool.and_eq_true, Bool.and_eq_true] at h1
  have hn : R0.okNode n := ⟨Nat.le_of_ble_eq_true h1.1.1, Nat.le_of_ble_eq_true h1.1.2, Nat.le_of_ble_eq_true h1.2⟩
  obtain rfl := Option.some.inj h2
  intro w Z args fp hrep _ _ hZ hGL
  match args, hrep with
  | [v], hrep =>
    obtain ⟨f, g, hfp, ⟨us, rfl, hS⟩, hg⟩ := hrep
    obtain ⟨us⟩ := us
    obtain rfl : g = [] := hg
    match us, hS with
    | [u0, u1, u2, u3], hS =>
      have hS0 := hS
      obtain ⟨f0, g0, e0, ⟨a0, b0⟩, f1, g1, e1, ⟨a1, b1⟩, f2, g2, e2, ⟨a2, b2⟩, f3, g3, e3, ⟨a3, b3⟩, e4⟩ := hS
      obtain rfl : f0 = [] := b0
      obtain rfl : f1 = [] := b1
      obtain rfl : f2 = [] := b2
      obtain rfl : f3 = [] := b3
      obtain rfl : g3 = [] := e4
      obtain rfl : g2 = [] := e3
      obtain rfl : g1 = [] := e2
      obtain rfl : g0 = [] := e1
      obtain rfl : f = [] := e0
      obtain rfl : fp = [] := hfp
      obtain ⟨lf, K, V, I, _⟩ := n
      have hz := fun w1 hb => np_zero (w1 := w1) hb hZ hS0
      have ho := fun w1 hb => np_ok (w1 := w1) hb hZ hS0 hn
      obtain ⟨AK, cK, rfl, hK⟩ := np_cells a1
      obtain ⟨AV, cV, rfl, hV⟩ := np_cells a2
      obtain ⟨AI, cI, rfl, hI⟩ := np_ints a3
      obtain rfl : u0 = .bool lf := (List.cons.inj (show [u0] = [Value.bool lf] from a0)).1
      have fin : ∀ s, npText (lf, K, V, I, ()) = s → (Calls Tryd.prog 8 #[.agg #[.bool lf, .slice AK K.length cK, .slice AV V.length cV, .slice AI I.length cI]] w fun e w' => e = .returned (.string s) ∧ Below w.heap.size w w') →
          Calls cx.P (8 % 1000) [Value.agg (List.toArray [.bool lf, .slice AK K.length cK, .slice AV V.length cV, .slice AI I.length cI])].toArray w (Ans cx 8 ((npText (lf, K, V, I, ()), ()), (((), (), (), (), ()), ())) w Z [.agg (List.toArray [.bool lf, .slice AK K.length cK, .slice AV V.length cV, .slice AI I.length cI])] []) := by
        intro s hs hc
        refine hc.mono ?_
        rintro e w' ⟨rfl, hb⟩
        rw [hs]
        exact ans_below (rvs := [.string _]) hZ hb ⟨[], [], rfl, ⟨rfl, rfl⟩, rfl⟩ ⟨[], [], rfl, ⟨_, rfl, rfl⟩, rfl⟩
      by_cases hno : npZero (lf, K, V, I, ()) = true ∨ npOk (lf, K, V, I, ()) = false
      · refine fin ⟨#[]⟩ (if_pos hno) ?_
        exact Q.np_none lf _ _ _ _ _ w rfl rfl rfl hz ho hno
      · have hz1 : npZero (lf, K, V, I, ()) = false := by cases hq : npZero (lf, K, V, I, ()) with | false => rfl | true => exact (hno (.inl hq)).elim
        have ho1 : npOk (lf, K, V, I, ()) = true := by cases hq : npOk (lf, K, V, I, ()) with | true => rfl | false => exact (hno (.inr hq)).elim
        rw [hz1] at hz
        rw [ho1] at ho
        unfold npOk at ho1
        simp only [Bool.and_eq_true, decide_eq_true_eq] at ho1
        obtain ⟨⟨ok1, ok2⟩, ok3⟩ := ho1
        cases lf with
        | true =>
          rw [if_pos rfl] at ok3
          simp only [Bool.and_eq_true, beq_iff_eq] at ok3
          obtain ⟨⟨ok3, ok4⟩, ok5⟩ := ok3
          refine fin ⟨(npL K V K.length).toArray⟩ (by unfold npText; rw [if_neg hno, if_pos rfl]) ?_
          refine Q.np_leaf AK cK K AV cV V _ w rfl (laid_of hGL) hK hV (by omega) (by omega) (fun i x y hx hy => ⟨by have := np_keys ok1 i x hx; omega, ?_⟩) hz ho
          have hi := (List.getElem?_eq_some_iff.1 hy).1
          have := List.all_eq_true.1 ok3 i (List.mem_range.2 hi)
          have e : V.getD i ByteArray.empty = y := by rw [List.getD_eq_getElem?_getD, hy]; rfl
          rw [e] at this
          simp only [Bool.not_eq_true', decide_eq_false_iff_not] at this
          omega
        | false =>
          rw [if_neg (by simp)] at ok3
          simp only [Bool.and_eq_true, beq_iff_eq, decide_eq_true_eq] at ok3
          obtain ⟨⟨⟨ok3, ok4⟩, ok5⟩, ok6⟩ := ok3
          refine fin ⟨(npN K I K.length).toArray⟩ (by unfold npText; rw [if_neg hno, if_neg (by simp)]) ?_
          refine Q.np_inner AK cK K AI cI I _ w rfl (laid_of hGL) hK hI (by omega) (by omega) (fun i x hx => by have := np_keys ok1 i x hx; omega) (fun i y hy => ?_) hz ho
          have hi := (List.getElem?_eq_some_iff.1 hy).1
          have := List.all_eq_true.1 ok3 i (List.mem_range.2 hi)
          have e : I.getD i 0 = y := by rw [List.getD_eq_getElem?_getD, hy]; rfl
          rw [e] at this
          unfold npWithin at this
          simp only [Bool.and_eq_true, decide_eq_true_eq] at this
          omega
theorem told (k f : Nat) (inp : (cx.spec f).In) (out : (cx.spec f).Out) (h : callF cx k f inp = some out) : Go.Rf.Contract cx f inp out := (Go.Rf.run_ok good (fun f g inp out h h2 => by
  have h : extR f = some g := h
  by_cases e8 : f = 8
  · subst e8
    obtain rfl := Option.some.inj h
    exact nodeput_contract inp out h2
  · exfalso
    unfold extR at h
    split at h
    · exact e8 rfl
    · cases h) k).1 f inp out h
end Go.Proofs.YtcolgghllacloaaDoor.R
end

section
/-! Rf: the row of a law, out of its pure statement. -/
set_option autoImplicit false
namespace Go.Proofs.YtcolgghllacloaaDoor.fnExactNodePut
open Go.Rf Go.Proofs.YtcolgghllacloaaDoor.R Go.ChangeShapes Go.WideShapes Go.ChangeAt Go.RowKit
set_option linter.unusedVariables false
theorem walk (P : PureFnExactNodePut) (w : World) (hGL : GL cx w (Here w)) (v0 : Value) (y0 : (vSh ⟨true, [.bool, .sl .str, .sl .str, .sl (.int .i64)], [(0, 1, false), (1, 1, false), (2, 1, false), (3, 1, false)], 80⟩).D) (h0 : ShRep w (Here w) (vSh ⟨true, [.bool, .sl .str, .sl .str, .sl (.int .i64)], [(0, 1, false), (1, 1, false), (2, 1, false), (3, 1, false)], 80⟩) y0 v0 []) (w0 : shWf (vSh ⟨true, [.bool, .sl .str, .sl .str, .sl (.int .i64)], [(0, 1, false), (1, 1, false), (2, 1, false), (3, 1, false)], 80⟩) y0) :
    Calls Tryd.prog 3 #[v0] w fun e w' => e = .returned (.bool true) ∧ Below w.heap.size w w' := by
  obtain ⟨k, p, h⟩ := P y0.1 y0.2.1 y0.2.2.1 y0.2.2.2.1 w0.1 w0.2.1 w0.2.2.1 w0.2.2.2.1
  have h' : callF cx k 3 (y0, ()) = some ((true, ()), p) := h
  have hr : ShsRep w (Here w) (cx.spec 3).ps (y0, ()) [v0] [] := ⟨[], [], rfl, h0, rfl⟩
  exact law_calls (told k 3 _ _ h') hr hGL (fun w' Z vs fp h => res_bool h)
theorem own : ownKnob Tryd.prog.godebug = none := by kernel_rfl
theorem laidOut : laidOutB Tryd.prog = true := by kernel_rfl
/-- what the row lists -/
def laidL : List (String × DataW Unit) := [("math/bits.deBruijn32tab", Rows.laid_math_bits_deBruijn32tab), ("math/bits.deBruijn64tab", Rows.laid_math_bits_deBruijn64tab), ("internal/strconv.uint64pow10", Rows.laid_internal_strconv_uint64pow10)]
theorem pow_data : (Rows.laid_internal_strconv_uint64pow10 : DataW Unit) = Lib.tabData .u64 Lib.pow10Tab := by kernel_rfl
theorem gl_of {W : World} (h : laidMetH Tryd.prog laidL W) : GL cx W (Here W) := by
  unfold laidL at h
  rw [MakeChecks.laidMetH_plain _ _ _ (by kernel_rfl)] at h
  refine ⟨fun g v hg => ?_, fun g p hg => ?_⟩
  · cases hg
  · have hg : objsR g = some p := hg
    unfold objsR at hg
    split at hg
    · rename_i e'
      subst e'
      obtain rfl := Option.some.inj hg
      have ht := (laidMet.tail (laidMet.tail h))
      rw [pow_data] at ht
      exact tab_of_laid (Lib.tabIs_of_head (n := 20) (t := 97) (e := 82) gPow (by kernel_rfl) (by kernel_rfl) (by kernel_rfl) (by kernel_rfl) (by kernel_rfl) ht) gPow
    · cases hg
noncomputable def door (os : Os) : World := World.doorLaid Tryd.prog 400 os
theorem door_met (os : Os) (args : Array Value) : laidMetH Tryd.prog laidL ((door os).forCall (fun _ _ => 0) ⟨#[], args, []⟩).memory :=
  laidMetH_of_parts3 (fuel := 8) (laidMet_of_run' 8 (by kernel_rfl) (by kernel_rfl)) (by kernel_rfl) (by kernel_rfl)
set_option maxRecDepth 100000 in
theorem lifted (P : PureFnExactNodePut) (os : Os) (started : os.Started) (H : Type) (enc : TypeId × Value → H) :
    ReturnsInHanded {} Tryd.checked os 3 .any (fun w args => (Rows.fnExactNodePutSpec.pre enc Tryd.prog Tryd.f3 [] false w args ∧ laidMetH Tryd.prog laidL w) ∧ sizedMet enc Tryd.prog Tryd.f3 (OpenSpec.ofChange Rows.fnExactNodePutSpec) false w args)
      (Rows.fnExactNodePutSpec.post enc Tryd.prog Tryd.f3 false true false false) := by
  refine returnsInHanded_of_change_and (C := Tryd.checked) (X := fun w _ => laidMetH Tryd.prog laidL w) (fun _ _ _ hh h => h.of_heap hh) own started (by kernel_rfl) Tryd.func3
    (ChangeSpec.witness_shaped (enc := enc) (C := Tryd.checked) (os := os) (X := fun w _ => laidMetH Tryd.prog laidL w) false (door os) #[.agg #[.bool false, .slice none 0 0, .slice none 0 0, .slice none 0 0]] 12 rfl (World.shaped_of_RefB (by kernel_rfl) (by kernel_rfl)) (by kernel_rfl) (by kernel_rfl) (by kernel_rfl) (door_met os _)) ?_
  intro W base args ds gs before hval0 hW _ _ hL _
  have hGL := gl_of hL
  have hval : ∀ (j : Nat) t v, Tryd.f3.params[j]? = some t → args[j]? = some v → Value.okWide Tryd.prog W .any base t v := hval0
  have hW' := hW
  obtain ⟨p, q, hA0, hV, rfl, hfz, hnd⟩ := hW
  have hA : DataW.TrodAll enc Tryd.prog W 0 (fun _ => true) true Tryd.f3.params.toList args.toList ds p := hA0
  rw [Tryd.params3] at hA hval
  obtain ⟨v0, vs0, d0, ds0, p0, q0, hargs, rfl, rfl, h0, r0⟩ := trodAll_cons hA
  obtain ⟨rfl, rfl, rfl⟩ := trodAll_nil r0
  obtain rfl : args = #[v0] := by cases args; simp_all
  obtain ⟨rfl, rfl⟩ := trodVars_none hV
  have k0 := h0
  have lt0 : ∀ x ∈ p0, x.block < W.heap.size := by obtain ⟨m, hm⟩ := k0; exact DataW.trod_lt m _ _ _ hm
  obtain ⟨y0, hy0, w0⟩ := opnArg_ok (tab := tabs.ty) (P := Tryd.prog) (t := 25) (i := ⟨true, [.bool, .sl .str, .sl .str, .sl (.int .i64)], [(0, 1, false), (1, 1, false), (2, 1, false), (3, 1, false)], 80⟩) (by kernel_rfl) (hval 0 25 v0 rfl rfl) h0
  clear hA0 hval0
  refine (walk P W hGL v0 y0 hy0 w0).mono fun e W' ⟨he, bel⟩ => ?_
  subst he
  exact ⟨_, rfl, _, _, _, [], _, [], hW', trodAll_mk1 (shut_bool Tryd.underlying4 _), (trodAll_cons_mk (Below.trod laidOut (by kernel_rfl) (of_decide_eq_true (by kernel_rfl)) k0 bel lt0) trodAll_mk0), rfl, bel.frame _, fun h => by cases h⟩
theorem over (P : PureFnExactNodePut) : Rows.fnExactNodePutRow.holds Tryd.pinned (OpenSpec.ofChange Rows.fnExactNodePutSpec) :=
  OpenClaim.holds_of_wide 3 Tryd.f3 rfl rfl rfl rfl rfl rfl rfl ⟨rfl, rfl, rfl, rfl, rfl⟩ rfl rfl rfl rfl rfl (by kernel_rfl) Tryd.func3 (by kernel_rfl)
    (of_decide_eq_true (by kernel_rfl)) (by unfold Func.isWrapper; first | (rw [if_pos (by decide +kernel)]; kernel_rfl) | (rw [if_neg (by decide +kernel)]; exact ⟨rfl, rfl⟩))
    (fun os started H enc _ => lifted P os started H enc)
/-- THE TIED CARD. -/
theorem card (P : PureFnExactNodePut) : Rows.FnExactNodePutCardSaid :=
  Claim7.holds_tied_plain_at .later [] [.data, .data, .data] true (true, "cabd6bdaf4996521c424c943e3af5e3ec32b86ea02d917f2e2d511cb876725be") true
    (over P) (fun _ h => by cases h) (by kernel_rfl) (fun _ h => by cases h) fnExactNodePut_row_tie rfl ⟨rfl, rfl⟩ (by kernel_rfl) rfl
    (fun f fn hf hfn => by
      obtain rfl : f = 3 := Option.some.inj ((show Tryd.prog.funcNamed "loop.example/jetton/laws.FnExactNodePut" = some 3 by kernel_rfl).symm.trans hf) |>.symm
      obtain rfl : fn = Tryd.f3 := (Option.some.inj (Tryd.func3.symm.trans hfn)).symm
      exact ⟨by kernel_rfl, fun j t ht => by
        rw [Tryd.params3] at ht
        have hm : t ∈ [25] := by simpa using Array.mem_of_getElem? ht
        have hall : ([25].all fun u => !Tryd.prog.wantsStandIn u) = true := by kernel_rfl
        exact (show Tryd.prog.wantsStandIn t = false by simpa using List.all_eq_true.1 hall t hm)⟩)
    (by kernel_rfl)
end Go.Proofs.YtcolgghllacloaaDoor.fnExactNodePut
end

section
/-! Rf, trees: copies, comparisons, bulk. -/
set_option autoImplicit false
namespace Go.Proofs.YtcolgghllacloaaDoor.R
open Go.Rf

abbrev NodeT : Type := Bool × List ByteArray × List ByteArray × List Int × Unit
def okLen (n : Nat) : Prop := n ≤ 1048576
def okNode (n : NodeT) : Prop := okLen n.2.1.length ∧ okLen n.2.2.1.length ∧ okLen n.2.2.2.1.length

theorem F19_ev (l : List ByteArray) (h : okLen l.length) : Ev (fun k => F19 k l) ((l, ()), ((), ())) := by
  unfold okLen at h
  refine Ev.step 2 (fun k => F19_eq k l) ?_
  have c : (decide (0 ≤ (l.length : Int)) && decide ((l.length : Int) ≤ (l.length : Int)) && decide ((l.length : Int) ≤ (8796093022208 : Int))) = true := by simp; omega
  simp only [c, if_true]
  have := copy_loop (L := fun k x3 i => F19c3 k l x3 i) (x0 := l) (g := fun _ y => some y) (f := id) (fin := fun x => ((x, ()), ((), ()))) (h := id) (by omega) (fun k x3 i => F19c3_eq k l x3 i) (fun y _ => Ev.now y)
    (List.replicate (l.length : Int).toNat ByteArray.empty) (by simp)
  simpa using this
theorem F20_ev (l : List Int) (h : okLen l.length) : Ev (fun k => F20 k l) ((l, ()), ((), ())) := by
  unfold okLen at h
  refine Ev.step 2 (fun k => F20_eq k l) ?_
  have c : (decide (0 ≤ (l.length : Int)) && decide ((l.length : Int) ≤ (l.length : Int)) && decide ((l.length : Int) ≤ (17592186044416 : Int))) = true := by simp; omega
  simp only [c, if_true]
  have := copy_loop (L := fun k x3 i => F20c3 k l x3 i) (x0 := l) (g := fun _ y => some y) (f := id) (fin := fun x => ((x, ()), ((), ()))) (h := id) (by omega) (fun k x3 i => F20c3_eq k l x3 i) (fun y _ => Ev.now y)
    (List.replicate (l.length : Int).toNat (0 : Int)) (by simp)
  simpa using this
theorem F7_ev (n : NodeT) (h : okNode n) : Ev (fun k => F7 k n.1 n.2.1 n.2.2.1 n.2.2.2.1) ((n, ()), (((), (), (), (), ()), ())) := by
  obtain ⟨h1, h2, h3⟩ := h
  refine Ev.step 2 (fun k => F7_eq k _ _ _ _) ?_
  refine Ev.bind (F19_ev _ h1) ?_
  refine Ev.bind (F19_ev _ h2) ?_
  exact Ev.bind (F20_ev _ h3) (Ev.now _)
theorem F26_ev (l : List ByteArray) (h : okLen l.length) : Ev (fun k => F26 k l l) ((true, ()), ((), (), ())) := by
  unfold okLen at h
  refine Ev.step 2 (fun k => F26_eq k l l) ?_
  simp only [bne_self_eq_false, Bool.false_eq_true, if_false]
  exact same_loop (L := fun k i => F26c4 k l l i) (x0 := l) (g := fun _ y1 y2 => some (y1.toList == y2.toList)) (p := id) (no := ((false, ()), ((), (), ()))) (h := fun _ => true) (by omega) (fun k i => F26c4_eq k l l i) (fun y _ => by
    simp only [beq_self_eq_true]
    exact ⟨Ev.now _, rfl⟩)
theorem F27_ev (l : List Int) (h : okLen l.length) : Ev (fun k => F27 k l l) ((true, ()), ((), (), ())) := by
  unfold okLen at h
  refine Ev.step 2 (fun k => F27_eq k l l) ?_
  simp only [bne_self_eq_false, Bool.false_eq_true, if_false]
  exact same_loop (L := fun k i => F27c4 k l l i) (x0 := l) (g := fun _ y1 y2 => some (y1 == y2)) (p := id) (no := ((false, ()), ((), (), ()))) (h := fun _ => true) (by omega) (fun k i => F27c4_eq k l l i) (fun y _ => by
    simp only [beq_self_eq_true]
    exact ⟨Ev.now _, rfl⟩)
theorem F9_ev (n : NodeT) (h : okNode n) : Ev (fun k => F9 k n.1 n.2.1 n.2.2.1 n.2.2.2.1 n.1 n.2.1 n.2.2.1 n.2.2.2.1) ((true, ()), (((), (), (), (), ()), ((), (), (), (), ()), ())) := by
  obtain ⟨h1, h2, h3⟩ := h
  refine Ev.step 2 (fun k => F9_eq k _ _ _ _ _ _ _ _) ?_
  simp only [beq_self_eq_true, Bool.not_true, Bool.false_eq_true, if_false]
  refine Ev.bind (F26_ev _ h1) ?_
  simp only [Bool.not_true, Bool.false_eq_true, if_false]
  refine Ev.bind (F26_ev _ h2) ?_
  simp only [Bool.not_true, Bool.false_eq_true, if_false]
  refine Ev.bind (F27_ev _ h3) ?_
  simp only [Bool.not_true, Bool.false_eq_true, if_false]
  exact Ev.now _
theorem F14_ev (l : List ByteArray) (hlen : l.length ≤ 9223372036854775807) (b : Int) (h0 : 0 ≤ b) (hb : b ≤ 1048576) (hs : ∀ y, y ∈ l → y.size ≤ 9223372036854775807) :
    ∃ r, Ev (fun k => F14 k l b) r ∧ (r.1.1 < 0 ∨ (0 ≤ r.1.1 ∧ r.1.1 ≤ b ∧ okLen l.length)) := by
  have st : ∀ {r}, Ev (fun k => if decide (IntKind.i64.wrap (b - (l.length : Int)) < (0 : Int)) = true then some (((-1 : Int), ()), ((), (), ())) else F14c5 k l (IntKind.i64.wrap (b - (l.length : Int))) (0 : Int)) r → Ev (fun k => F14 k l b) r := fun h => Ev.step 2 (fun k => F14_eq k l b) h
  rw [wrap64 (by omega) (by omega)] at st
  by_cases hn : b - (l.length : Int) < 0
  · refine ⟨(((-1 : Int), ()), ((), (), ())), st ?_, .inl (by decide : (-1 : Int) < 0)⟩
    simp only [hn, decide_true, if_true]
    exact Ev.now _
  · obtain ⟨r, h1, h2⟩ := size_loop (L := fun k b i => F14c5 k l b i) (x0 := l) (g := fun _ y b => some (IntKind.i64.wrap (b - (y.size : Int)))) (p := id) (no := (((-1 : Int), ()), ((), (), ()))) (fin := fun b => ((b, ()), ((), (), ()))) (Q := fun _ => True) hlen (fun k b i => F14c5_eq k l b i)
      (B := 1048576) (fun y hy b hb0 hb1 => ⟨_, Ev.now _, by
        have := hs y hy
        simp only [id]
        rw [wrap64 (by omega) (by omega)]
        by_cases hc : b - (y.size : Int) < 0
        · exact .inl hc
        · exact .inr ⟨by omega, by omega, trivial⟩⟩) (b - (l.length : Int)) (by omega) (by omega)
    refine ⟨r, st ?_, ?_⟩
    · have : decide (b - (l.length : Int) < 0) = false := by simp; omega
      simp only [this, Bool.false_eq_true, if_false]
      exact h1
    · rcases h2 with rfl | ⟨b', rfl, h3, h4, _⟩
      · exact .inl (by decide : (-1 : Int) < 0)
      · exact .inr ⟨h3, by show b' ≤ b; omega, by unfold okLen; omega⟩
theorem F15_ev (l : List Int) (hlen : l.length ≤ 9223372036854775807) (b : Int) (h0 : 0 ≤ b) (hb : b ≤ 1048576) : ∃ r, Ev (fun k => F15 k l b) r ∧ (r.1.1 < 0 ∨ (0 ≤ r.1.1 ∧ r.1.1 ≤ b ∧ okLen l.length)) := by
  have st : ∀ {r}, Ev (fun _ => if decide (IntKind.i64.wrap (b - (l.length : Int)) < (0 : Int)) = true then some (((-1 : Int), ()), ((), (), ())) else some (((IntKind.i64.wrap (b - (l.length : Int))), ()), ((), (), ()))) r → Ev (fun k => F15 k l b) r := fun h => Ev.step 2 (fun k => F15_eq k l b) h
  rw [wrap64 (by omega) (by omega)] at st
  by_cases hn : b - (l.length : Int) < 0
  · refine ⟨(((-1 : Int), ()), ((), (), ())), st ?_, .inl (by decide : (-1 : Int) < 0)⟩
    simp only [hn, decide_true, if_true]
    exact Ev.now _
  · refine ⟨(((b - (l.length : Int)), ()), ((), (), ())), st ?_, .inr ?_⟩
    · have : decide (b - (l.length : Int) < 0) = false := by simp; omega
      simp only [this, Bool.false_eq_true, if_false]
      exact Ev.now _
    · exact ⟨by show 0 ≤ b - (l.length : Int); omega, by show b - (l.length : Int) ≤ b; omega, by unfold okLen; omega⟩
/-- no string and no row longer than can be counted -/
def fits (n : NodeT) : Prop := n.2.1.length ≤ 9223372036854775807 ∧ (∀ y, y ∈ n.2.1 → y.size ≤ 9223372036854775807) ∧ n.2.2.1.length ≤ 9223372036854775807 ∧ (∀ y, y ∈ n.2.2.1 → y.size ≤ 9223372036854775807) ∧ n.2.2.2.1.length ≤ 9223372036854775807
theorem F5_ev (n : NodeT) (hf : fits n) (b : Int) (h0 : 0 ≤ b) (hb : b ≤ 1048576) : ∃ r, Ev (fun k => F5 k n.1 n.2.1 n.2.2.1 n.2.2.2.1 b) r ∧ (r.1.1 < 0 ∨ (0 ≤ r.1.1 ∧ r.1.1 ≤ b ∧ okNode n)) := by
  obtain ⟨f1, f2, f3, f4, f5⟩ := hf
  have e := fun k => F5_eq k n.1 n.2.1 n.2.2.1 n.2.2.2.1 b
  have neg1 : ((-1 : Int) < 0) := by decide
  obtain ⟨r1, h1, c1⟩ := F14_ev n.2.1 f1 b h0 hb f2
  rcases c1 with c1 | ⟨c1, d1, e1⟩
  · refine ⟨(((-1 : Int), ()), (((), (), (), (), ()), (), ())), Ev.step 2 e (Ev.bind h1 ?_), .inl neg1⟩
    simp only [c1, decide_true, if_true]
    exact Ev.now _
  obtain ⟨r2, h2, c2⟩ := F14_ev n.2.2.1 f3 r1.1.1 c1 (by omega) f4
  have n1 : decide (r1.1.1 < 0) = false := by simp; omega
  rcases c2 with c2 | ⟨c2, d2, e2⟩
  · refine ⟨(((-1 : Int), ()), (((), (), (), (), ()), (), ())), Ev.step 2 e (Ev.bind h1 ?_), .inl neg1⟩
    simp only [n1, Bool.false_eq_true, if_false]
    refine Ev.bind h2 ?_
    simp only [c2, decide_true, if_true]
    exact Ev.now _
  obtain ⟨r3, h3, c3⟩ := F15_ev n.2.2.2.1 f5 r2.1.1 c2 (by omega)
  have n2 : decide (r2.1.1 < 0) = false := by simp; omega
  rcases c3 with c3 | ⟨c3, d3, e3⟩
  · refine ⟨(((-1 : Int), ()), (((), (), (), (), ()), (), ())), Ev.step 2 e (Ev.bind h1 ?_), .inl neg1⟩
    simp only [n1, Bool.false_eq_true, if_false]
    refine Ev.bind h2 ?_
    simp only [n2, Bool.false_eq_true, if_false]
    refine Ev.bind h3 ?_
    simp only [c3, decide_true, if_true]
    exact Ev.now _
  · have n3 : decide (r3.1.1 < 0) = false := by simp; omega
    refine ⟨((r3.1.1, ()), (((), (), (), (), ()), (), ())), Ev.step 2 e (Ev.bind h1 ?_), .inr ⟨c3, by show r3.1.1 ≤ b; omega, e1, e2, e3⟩⟩
    simp only [n1, Bool.false_eq_true, if_false]
    refine Ev.bind h2 ?_
    simp only [n2, Bool.false_eq_true, if_false]
    refine Ev.bind h3 ?_
    simp only [n3, Bool.false_eq_true, if_false]
    exact Ev.now _
end Go.Proofs.YtcolgghllacloaaDoor.R
end

section
/-! Rf, trees: what a node must meet; both sides ask the same. -/
set_option autoImplicit false
namespace Go.Proofs.YtcolgghllacloaaDoor.R
open Go.Rf

def within (n lo hi : Int) : Bool := decide (n ≥ lo) && decide (n ≤ hi)
theorem F41_ev (n lo hi : Int) : Ev (fun k => F41 k n lo hi) ((within n lo hi, ()), ((), (), (), ())) := by
  refine Ev.step 2 (fun k => F41_eq k n lo hi) ?_
  unfold within
  cases h : decide (n ≥ lo) with
  | true => exact Ev.now _
  | false => exact Ev.now _
/-- the i-th key: its size, its place behind the one before -/
def keyOk (l : List ByteArray) (i : Nat) : Bool := within ((l.getD i ByteArray.empty).size : Int) 1 96 && (i == 0 || Op.bytesLess (l.getD (i - 1) ByteArray.empty).toList (l.getD i ByteArray.empty).toList)
def keysOk' (l : List ByteArray) : Bool := (List.range l.length).all (keyOk l)
theorem getD_of {l : List ByteArray} {i : Nat} (h : i < l.length) : l[i]? = some (l.getD i ByteArray.empty) := by
  rw [List.getD_eq_getElem?_getD, List.getElem?_eq_getElem h]
  rfl
theorem gt0 {i : Nat} : decide ((i : Int) > 0) = !(i == 0) := by
  cases i with
  | zero => rfl
  | succ i => simp
theorem pred64 {i : Nat} (h : 0 < i) (hn : i ≤ 4611686018427387904) : IntKind.i64.wrap ((i : Int) - 1) = ((i - 1 : Nat) : Int) := by
  rw [wrap64 (by omega) (by omega)]
  omega
theorem F40_ev (l : List ByteArray) (h : okLen l.length) : Ev (fun k => F40 k l) ((keysOk' l && decide ((l.length : Int) ≤ 4), ()), ((), ())) := by
  unfold okLen at h
  refine Ev.step 2 (fun k => F40_eq k l) ?_
  have := all_loop (L := fun k i => F40c2 k l i) (n := l.length) (no := ((false, ()), ((), ()))) (yes := ((decide ((l.length : Int) ≤ 4), ()), ((), ()))) (c := keyOk l) ?_ ?_ ?_
  · unfold keysOk'
    refine (congrArg (Ev _) ?_).mp this
    cases (List.range l.length).all (keyOk l) <;> rfl
  · intro i hi hc
    refine Ev.step 1 (fun k => F40c2_eq k l i) ?_
    simp only [lt_true hi, ge0, if_true, Int.toNat_natCast, getD_of hi, Option.bind_some]
    refine Ev.bind (F41_ev _ 1 96) ?_
    simp only [gt0]
    unfold keyOk at hc
    cases hw : within ((l.getD i ByteArray.empty).size : Int) 1 96 with
    | false => exact Ev.now _
    | true =>
      rw [hw] at hc
      simp only [Bool.true_and, Bool.or_eq_false_iff] at hc
      have hp : 0 < i := by
        rcases Nat.eq_zero_or_pos i with h0 | h0
        · rw [h0] at hc; cases hc.1
        · exact h0
      have hi2 : i - 1 < l.length := by omega
      simp only [hc.1, Bool.not_false, Bool.not_true, Bool.false_eq_true, if_false, if_true, pred64 hp (by omega), ge0, Int.toNat_natCast, getD_of hi2, Option.bind_some]
      have := not_less (l.getD (i - 1) ByteArray.empty).toList (l.getD i ByteArray.empty).toList
      rw [hc.2] at this
      simp only [← this, Bool.not_false, if_true]
      exact Ev.now _
  · intro i hi hc r hr
    refine Ev.step 1 (fun k => F40c2_eq k l i) ?_
    simp only [lt_true hi, ge0, if_true, Int.toNat_natCast, getD_of hi, Option.bind_some]
    refine Ev.bind (F41_ev _ 1 96) ?_
    unfold keyOk at hc
    simp only [Bool.and_eq_true, Bool.or_eq_true] at hc
    simp only [gt0, hc.1, Bool.not_true, Bool.false_eq_true, if_false]
    rw [wrap_succ (by omega)]
    cases h0 : (i == 0) with
    | true => exact hr
    | false =>
      have hp : 0 < i := by
        rcases Nat.eq_zero_or_pos i with h1 | h1
        · rw [h1] at h0; cases h0
        · exact h1
      have hi2 : i - 1 < l.length := by omega
      rcases hc.2 with hc2 | hc2
      · rw [h0] at hc2; cases hc2
      · simp only [Bool.not_false, if_true, pred64 hp (by omega), ge0, Int.toNat_natCast, getD_of hi2, Option.bind_some]
        have := not_less (l.getD (i - 1) ByteArray.empty).toList (l.getD i ByteArray.empty).toList
        rw [hc2] at this
        simp only [← this, Bool.not_true, Bool.false_eq_true, if_false]
        exact hr
  · refine Ev.step 1 (fun k => F40c2_eq k l l.length) ?_
    simp only [lt_false (Nat.le_refl l.length), Bool.false_eq_true, if_false]
    exact Ev.now _
def valsOk (l : List ByteArray) : Bool := (List.range l.length).all fun i => !decide (((l.getD i ByteArray.empty).size : Int) > 140)
def kidsOk (l : List Int) : Bool := (List.range l.length).all fun i => within (l.getD i 0) 0 18
def nodeOk (n : NodeT) : Bool := keysOk' n.2.1 && decide ((n.2.1.length : Int) ≤ 4) && (if n.1 = true then valsOk n.2.2.1 && ((n.2.2.1.length : Int) == (n.2.1.length : Int)) && ((n.2.2.2.1.length : Int) == 0)
  else kidsOk n.2.2.2.1 && ((n.2.2.1.length : Int) == 0) && decide ((n.2.1.length : Int) > 0) && ((n.2.2.2.1.length : Int) == (n.2.1.length : Int) + 1))
theorem getI_of {l : List Int} {i : Nat} (h : i < l.length) : l[i]? = some (l.getD i 0) := by
  rw [List.getD_eq_getElem?_getD, List.getElem?_eq_getElem h]
  rfl
theorem F17_ev (n : NodeT) (h : okNode n) : Ev (fun k => F17 k n.1 n.2.1 n.2.2.1 n.2.2.2.1) ((nodeOk n, ()), (((), (), (), (), ()), ())) := by
  obtain ⟨h1, h2, h3⟩ := h
  obtain ⟨leaf, keys, vals, kids, u⟩ := n
  simp only at h1 h2 h3 ⊢
  refine Ev.step 2 (fun k => F17_eq k leaf keys vals kids) ?_
  refine Ev.bind (F40_ev keys h1) ?_
  unfold okLen at h1 h2 h3
  unfold nodeOk
  cases hk : (keysOk' keys && decide ((keys.length : Int) ≤ 4)) with
  | false =>
    simp only [Bool.false_and]
    exact Ev.now _
  | true =>
    simp only [Bool.true_and, Bool.not_true, Bool.false_eq_true, if_false]
    cases leaf with
    | true =>
      simp only [if_true]
      have := all_loop (L := fun k i => F17c5 k true keys vals kids i) (n := vals.length) (no := ((false, ()), (((), (), (), (), ()), ()))) (yes := ((((vals.length : Int) == (keys.length : Int)) && ((kids.length : Int) == 0), ()), (((), (), (), (), ()), ())))
        (c := fun i => !decide (((vals.getD i ByteArray.empty).size : Int) > 140)) ?_ ?_ ?_
      · unfold valsOk
        refine (congrArg (Ev _) ?_).mp this
        cases (List.range vals.length).all _ <;> simp
      · intro i hi hc
        refine Ev.step 1 (fun k => F17c5_eq k true keys vals kids i) ?_
        simp only [Bool.not_eq_false'] at hc
        simp only [lt_true hi, ge0, if_true, Int.toNat_natCast, getD_of hi, Option.bind_some, hc]
        exact Ev.now _
      · intro i hi hc r hr
        refine Ev.step 1 (fun k => F17c5_eq k true keys vals kids i) ?_
        simp only [Bool.not_eq_true'] at hc
        simp only [lt_true hi, ge0, if_true, Int.toNat_natCast, getD_of hi, Option.bind_some, hc, Bool.false_eq_true, if_false]
        rw [wrap_succ (by omega)]
        exact hr
      · refine Ev.step 1 (fun k => F17c5_eq k true keys vals kids vals.length) ?_
        simp only [lt_false (Nat.le_refl vals.length), Bool.false_eq_true, if_false]
        cases ((vals.length : Int) == (keys.length : Int)) with
        | true => exact Ev.now _
        | false => exact Ev.now _
    | false =>
      simp only [Bool.false_eq_true, if_false]
      have := all_loop (L := fun k i => F17c11 k false keys vals kids i) (n := kids.length) (no := ((false, ()), (((), (), (), (), ()), ()))) (yes := ((((vals.length : Int) == 0) && decide ((keys.length : Int) > 0) && ((kids.length : Int) == (keys.length : Int) + 1), ()), (((), (), (), (), ()), ())))
        (c := fun i => within (kids.getD i 0) 0 18) ?_ ?_ ?_
      · unfold kidsOk
        refine (congrArg (Ev _) ?_).mp this
        cases (List.range kids.length).all _ <;> simp
      · intro i hi hc
        refine Ev.step 1 (fun k => F17c11_eq k false keys vals kids i) ?_
        simp only [lt_true hi, ge0, if_true, Int.toNat_natCast, getI_of hi, Option.bind_some]
        refine Ev.bind (F41_ev _ 0 18) ?_
        simp only [hc, Bool.not_false, if_true]
        exact Ev.now _
      · intro i hi hc r hr
        refine Ev.step 1 (fun k => F17c11_eq k false keys vals kids i) ?_
        simp only [lt_true hi, ge0, if_true, Int.toNat_natCast, getI_of hi, Option.bind_some]
        refine Ev.bind (F41_ev _ 0 18) ?_
        simp only [hc, Bool.not_true, Bool.false_eq_true, if_false]
        rw [wrap_succ (by omega)]
        exact hr
      · refine Ev.step 1 (fun k => F17c11_eq k false keys vals kids kids.length) ?_
        simp only [lt_false (Nat.le_refl kids.length), Bool.false_eq_true, if_false]
        rw [wrap64 (n := (keys.length : Int) + 1) (by omega) (by omega)]
        cases ((vals.length : Int) == 0) with
        | false => exact Ev.now _
        | true =>
          cases decide ((keys.length : Int) > 0) with
          | true => exact Ev.now _
          | false => exact Ev.now _
/-! the other side -/
def nodeZero (n : NodeT) : Bool := !n.1 && ((n.2.1.length : Int) == 0) && ((n.2.2.1.length : Int) == 0) && ((n.2.2.2.1.length : Int) == 0)
theorem F16_ev (n : NodeT) : Ev (fun k => F16 k n.1 n.2.1 n.2.2.1 n.2.2.2.1) ((nodeZero n, ()), (((), (), (), (), ()), ())) := by
  refine Ev.step 2 (fun k => F16_eq k _ _ _ _) ?_
  unfold nodeZero
  cases n.1 with
  | true => exact Ev.now _
  | false =>
    cases ((n.2.1.length : Int) == 0) with
    | false => exact Ev.now _
    | true => cases ((n.2.2.1.length : Int) == 0) with
      | false => exact Ev.now _
      | true => exact Ev.now _
def inKey (l : List ByteArray) (low high : ByteArray) (i : Nat) : Bool := !(Op.bytesLess (l.getD i ByteArray.empty).toList low.toList) && (high.toList == (⟨#[]⟩ : ByteArray).toList || Op.bytesLess (l.getD i ByteArray.empty).toList high.toList)
def inKeys (l : List ByteArray) (low high : ByteArray) : Bool := (List.range l.length).all (inKey l low high)
end Go.Proofs.YtcolgghllacloaaDoor.R
end

section
/-! Rf, decimals: figures; what is in order. -/
set_option autoImplicit false
set_option linter.unusedSimpArgs false
namespace Go.Proofs.YtcolgghllacloaaDoor.R
open Go.Rf
theorem toIntS_ev (l : List Int) (h : l.length ≤ 1048576) : Ev (fun k => F20 k l) ((l, ()), ((), ())) := by
  refine Ev.step 2 (fun k => F20_eq k l) ?_
  have c : (decide (0 ≤ (l.length : Int)) && decide ((l.length : Int) ≤ (l.length : Int)) && decide ((l.length : Int) ≤ (17592186044416 : Int))) = true := by simp; omega
  simp only [c, if_true]
  have := copy_loop (L := fun k x3 i => F20c3 k l x3 i) (x0 := l) (g := fun _ y => some y) (f := id) (fin := fun x => ((x, ()), ((), ()))) (h := id) (by omega) (fun k x3 i => F20c3_eq k l x3 i) (fun y _ => Ev.now y)
    (List.replicate (l.length : Int).toNat (0 : Int)) (by simp)
  simpa using this
theorem eqIntS_ev (l : List Int) (h : l.length ≤ 1048576) : Ev (fun k => F27 k l l) ((true, ()), ((), (), ())) := by
  refine Ev.step 2 (fun k => F27_eq k l l) ?_
  simp only [bne_self_eq_false, Bool.false_eq_true, if_false]
  exact same_loop (L := fun k i => F27c4 k l l i) (x0 := l) (g := fun _ y1 y2 => some (y1 == y2)) (p := id) (no := ((false, ()), ((), (), ()))) (h := fun _ => true) (by omega) (fun k i => F27c4_eq k l l i) (fun y _ => by
    simp only [beq_self_eq_true]
    exact ⟨Ev.now _, rfl⟩)
theorem szIntS_ev (l : List Int) (hlen : l.length ≤ 9223372036854775807) (b : Int) (h0 : 0 ≤ b) (hb : b ≤ 1048576) : ∃ r, Ev (fun k => F15 k l b) r ∧ (r.1.1 < 0 ∨ (0 ≤ r.1.1 ∧ r.1.1 ≤ b ∧ l.length ≤ 1048576)) := by
  have st : ∀ {r}, Ev (fun _ => if decide (IntKind.i64.wrap (b - (l.length : Int)) < (0 : Int)) = true then some (((-1 : Int), ()), ((), (), ())) else some (((IntKind.i64.wrap (b - (l.length : Int))), ()), ((), (), ()))) r → Ev (fun k => F15 k l b) r := fun h => Ev.step 2 (fun k => F15_eq k l b) h
  rw [wrap64 (by omega) (by omega)] at st
  by_cases hn : b - (l.length : Int) < 0
  · refine ⟨(((-1 : Int), ()), ((), (), ())), st ?_, .inl (by decide : (-1 : Int) < 0)⟩
    simp only [hn, decide_true, if_true]
    exact Ev.now _
  · refine ⟨(((b - (l.length : Int)), ()), ((), (), ())), st ?_, .inr ?_⟩
    · have : decide (b - (l.length : Int) < 0) = false := by simp; omega
      simp only [this, Bool.false_eq_true, if_false]
      exact Ev.now _
    · exact ⟨by show 0 ≤ b - (l.length : Int); omega, by show b - (l.length : Int) ≤ b; omega, by omega⟩
theorem l1In_ev (n lo hi : Int) : Ev (fun k => F41 k n lo hi) ((within n lo hi, ()), ((), (), (), ())) := by
  refine Ev.step 2 (fun k => F41_eq k n lo hi) ?_
  unfold within
  cases decide (n ≥ lo) with
  | true => exact Ev.now _
  | false => exact Ev.now _
theorem l1Dec_ev : ∀ n : Nat, n ≤ 1000000000000000000 → Ev (fun k => F42 k (n : Int)) ((⟨(Lib.decDigits n).toArray⟩, ()), ((), ())) := by
  intro n
  induction n using Nat.strongRecOn with
  | _ n ih =>
    intro hn
    have c1 : decide ((n : Int) < (-9223372036854775807 : Int)) = false := decide_eq_false (by omega)
    have c2 : decide ((n : Int) < 0) = false := decide_eq_false (by omega)
    refine Ev.step 2 (fun k => F42_eq k n) ?_
    simp only [c1, c2, Bool.false_eq_true, if_false]
    by_cases h : n < 10
    · have c3 : decide ((n : Int) < 10) = true := decide_eq_true (by omega)
      rw [Lib.decDigits, dif_pos h]
      simp only [c3, if_true, bytesOf_digit h]
      exact Ev.now _
    · have c3 : decide ((n : Int) < 10) = false := decide_eq_false (by omega)
      have e1 : IntKind.i64.wrap ((n : Int).tdiv 10) = ((n / 10 : Nat) : Int) := by
        rw [Int.tdiv_eq_ediv_of_nonneg (by omega), wrap64 (by omega) (by omega)]
        omega
      have e2 : (n : Int).tmod 10 = ((n % 10 : Nat) : Int) := by
        rw [Int.tmod_eq_emod_of_nonneg (by omega)]
        omega
      have hl := decDigits_len 18 (n / 10) (by omega)
      rw [Lib.decDigits, dif_neg h]
      simp only [c3, Bool.false_eq_true, if_false, e1, e2, bytesOf_digit (show n % 10 < 10 by omega)]
      refine Ev.bind (ih (n / 10) (by omega) (by omega)) ?_
      have hb : Nat.ble ((Lib.decDigits (n / 10)).length + [UInt8.ofNat (48 + n % 10)].length) 9223372036854775807 = true := Nat.ble_eq_true_of_le (by simp; omega)
      simp only [bytes_size, hb, if_true, bytes_append]
      exact Ev.now _
end Go.Proofs.YtcolgghllacloaaDoor.R
end

section
/-! Rf: a node as the reference writes it. -/
set_option autoImplicit false
set_option linter.unusedSimpArgs false
set_option linter.unusedVariables false
namespace Go.Proofs.YtcolgghllacloaaDoor.R
open Go.Rf
theorem sz_mk (l : List UInt8) : (⟨l.toArray⟩ : ByteArray).size = l.length := rfl
theorem ble9 {n : Nat} (h : n ≤ 9223372036854775807) : Nat.ble n 9223372036854775807 = true := Nat.ble_eq_true_of_le h
theorem ba_ext {a b : ByteArray} (h : a.data.toList = b.data.toList) : a = b := ByteArray.ext (Array.toList_inj.1 h)
theorem dec_len {n : Nat} (h : n ≤ 1000000) : (Lib.decDigits n).length ≤ 21 := by
  rw [← itoa_nat]
  exact Lib.itoa_length_le (n : Int) (by omega) (by omega)
theorem npL_succ (K V : List ByteArray) (i : Nat) : npL K V (i + 1) = npL K V i ++ npEntL (K.getD i ByteArray.empty) (V.getD i ByteArray.empty) := by
  unfold npL
  rw [List.range_succ, List.flatMap_append, List.flatMap_singleton, List.append_assoc]
theorem npN_succ (K : List ByteArray) (I : List Int) (i : Nat) : npN K I (i + 1) = npN K I i ++ npEntN (K.getD i ByteArray.empty) (I.getD (i + 1) 0) := by
  unfold npN
  simp only [List.range_succ, List.flatMap_append, List.flatMap_singleton, List.append_assoc]
theorem npEntL_nat (x y : ByteArray) : npEntL x y = Lib.decDigits x.size ++ [44] ++ Lib.decDigits y.size ++ [58] ++ x.data.toList ++ y.data.toList := by unfold npEntL; rw [itoa_nat, itoa_nat]
theorem npEntN_nat (x : ByteArray) (y : Nat) : npEntN x (y : Int) = Lib.decDigits x.size ++ [44] ++ Lib.decDigits y ++ [58] ++ x.data.toList := by unfold npEntN; rw [itoa_nat, itoa_nat]
theorem getS {l : List ByteArray} {i : Nat} {x : ByteArray} (h : l[i]? = some x) : l.getD i ByteArray.empty = x := by rw [List.getD_eq_getElem?_getD, h]; rfl
theorem getN {l : List Int} {i : Nat} {x : Int} (h : l[i]? = some x) : l.getD i 0 = x := by rw [List.getD_eq_getElem?_getD, h]; rfl
theorem npEntL_len {x y : ByteArray} (hx : x.size ≤ 200) (hy : y.size ≤ 200) : (npEntL x y).length ≤ 444 := by
  have h1 := dec_len (n := x.size) (by omega)
  have h2 := dec_len (n := y.size) (by omega)
  have h3 : x.data.toList.length = x.size := rfl
  have h4 : y.data.toList.length = y.size := rfl
  simp only [npEntL_nat, List.length_append, List.length_cons, List.length_nil, h3, h4]
  omega
theorem npEntN_len {x : ByteArray} {y : Nat} (hx : x.size ≤ 200) (hy : y ≤ 100) : (npEntN x (y : Int)).length ≤ 444 := by
  have h1 := dec_len (n := x.size) (by omega)
  have h2 := dec_len (n := y) (by omega)
  have h3 : x.data.toList.length = x.size := rfl
  simp only [npEntN_nat, List.length_append, List.length_cons, List.length_nil, h3]
  omega
theorem leafPut_ev {K V : List ByteArray} {I : List Int} {lf : Bool} (hlen : V.length = K.length) (hn : K.length ≤ 4) (hsz : ∀ (i : Nat) x y, K[i]? = some x → V[i]? = some y → x.size ≤ 200 ∧ y.size ≤ 200) :
    ∀ (m i : Nat) (s : ByteArray), i + m = K.length → s = ⟨(npL K V i).toArray⟩ → s.size ≤ 1 + 444 * i → Ev (fun k => F18c6 k lf K V I s (i : Int)) (((⟨(npL K V K.length).toArray⟩ : ByteArray), ()), (((), (), (), (), ()), ())) := by
  intro m
  induction m with
  | zero =>
    intro i s hi hs hz
    refine Ev.step 1 (fun k => F18c6_eq k _ _ _ _ _ _) ?_
    simp only [lt_false (show K.length ≤ i by omega), Bool.false_eq_true, if_false]
    rw [hs, show i = K.length by omega]
    exact Ev.now _
  | succ m ih =>
    intro i s hi hs hz
    obtain ⟨x, hx⟩ : ∃ x, K[i]? = some x := ⟨_, List.getElem?_eq_getElem (by omega)⟩
    obtain ⟨y, hy⟩ : ∃ y, V[i]? = some y := ⟨_, List.getElem?_eq_getElem (by omega)⟩
    obtain ⟨zx, zy⟩ := hsz i x y hx hy
    have dx := dec_len (n := x.size) (by omega)
    have dy := dec_len (n := y.size) (by omega)
    have e1 : (⟨#[44]⟩ : ByteArray).size = 1 := rfl
    have e2 : (⟨#[58]⟩ : ByteArray).size = 1 := rfl
    refine Ev.step 1 (fun k => F18c6_eq k _ _ _ _ _ _) ?_
    simp only [lt_true (show i < K.length by omega), ge0, if_true, Int.toNat_natCast, hx, hy, Option.bind_some]
    refine Ev.bind (l1Dec_ev x.size (by omega)) ?_
    refine Ev.pos (fun _ => ble9 (by simp only [ByteArray.size_append, sz_mk, e1, e2]; omega)) ?_
    refine Ev.pos (fun _ => ble9 (by simp only [ByteArray.size_append, sz_mk, e1, e2]; omega)) ?_
    refine Ev.bind (l1Dec_ev y.size (by omega)) ?_
    refine Ev.pos (fun _ => ble9 (by simp only [ByteArray.size_append, sz_mk, e1, e2]; omega)) ?_
    refine Ev.pos (fun _ => ble9 (by simp only [ByteArray.size_append, sz_mk, e1, e2]; omega)) ?_
    refine Ev.pos (fun _ => ble9 (by simp only [ByteArray.size_append, sz_mk, e1, e2]; omega)) ?_
    refine Ev.pos (fun _ => ble9 (by simp only [ByteArray.size_append, sz_mk, e1, e2]; omega)) ?_
    rw [wrap_succ (by omega)]
    refine ih (i + 1) _ (by omega) ?_ (by simp only [ByteArray.size_append, sz_mk, e1, e2]; omega)
    refine ba_ext ?_
    rw [hs]
    simp [npL_succ, npEntL_nat, hx, hy, ByteArray.data_append]
theorem innerPut_ev {K V : List ByteArray} {I : List Int} {lf : Bool} (hlen : I.length = K.length + 1) (hn : K.length ≤ 4) (hsz : ∀ (i : Nat) x, K[i]? = some x → x.size ≤ 200) (hiz : ∀ (i : Nat) y, I[i]? = some y → 0 ≤ y ∧ y ≤ 100) :
    ∀ (m i : Nat) (s : ByteArray), i + m = K.length → s = ⟨(npN K I i).toArray⟩ → s.size ≤ 23 + 444 * i → Ev (fun k => F18c12 k lf K V I s (i : Int)) (((⟨(npN K I K.length).toArray⟩ : ByteArray), ()), (((), (), (), (), ()), ())) := by
  intro m
  induction m with
  | zero =>
    intro i s hi hs hz
    refine Ev.step 1 (fun k => F18c12_eq k _ _ _ _ _ _) ?_
    simp only [lt_false (show K.length ≤ i by omega), Bool.false_eq_true, if_false]
    rw [hs, show i = K.length by omega]
    exact Ev.now _
  | succ m ih =>
    intro i s hi hs hz
    obtain ⟨x, hx⟩ : ∃ x, K[i]? = some x := ⟨_, List.getElem?_eq_getElem (by omega)⟩
    obtain ⟨y, hy⟩ : ∃ y, I[i + 1]? = some y := ⟨_, List.getElem?_eq_getElem (by omega)⟩
    have zx := hsz i x hx
    have zy := hiz (i + 1) y hy
    obtain ⟨y, rfl⟩ : ∃ q : Nat, y = (q : Int) := ⟨y.toNat, by omega⟩
    have dx := dec_len (n := x.size) (by omega)
    have dy := dec_len (n := y) (by omega)
    have e1 : (⟨#[44]⟩ : ByteArray).size = 1 := rfl
    have e2 : (⟨#[58]⟩ : ByteArray).size = 1 := rfl
    refine Ev.step 1 (fun k => F18c12_eq k _ _ _ _ _ _) ?_
    simp only [wrap_succ (show i < 9223372036854775807 by omega), lt_true (show i < K.length by omega), ge0, if_true, Int.toNat_natCast, hx, hy, Option.bind_some]
    refine Ev.bind (l1Dec_ev x.size (by omega)) ?_
    refine Ev.pos (fun _ => ble9 (by simp only [ByteArray.size_append, sz_mk, e1, e2]; omega)) ?_
    refine Ev.pos (fun _ => ble9 (by simp only [ByteArray.size_append, sz_mk, e1, e2]; omega)) ?_
    refine Ev.bind (l1Dec_ev y (by omega)) ?_
    refine Ev.pos (fun _ => ble9 (by simp only [ByteArray.size_append, sz_mk, e1, e2]; omega)) ?_
    refine Ev.pos (fun _ => ble9 (by simp only [ByteArray.size_append, sz_mk, e1, e2]; omega)) ?_
    refine Ev.pos (fun _ => ble9 (by simp only [ByteArray.size_append, sz_mk, e1, e2]; omega)) ?_
    refine ih (i + 1) _ (by omega) ?_ (by simp only [ByteArray.size_append, sz_mk, e1, e2]; omega)
    refine ba_ext ?_
    rw [hs]
    simp [npN_succ, npEntN_nat, hx, hy, ByteArray.data_append]
theorem npOk_leaf {K V : List ByteArray} {I : List Int} (h : nodeOk (true, K, V, I, ()) = true) : V.length = K.length ∧ K.length ≤ 4 ∧ (∀ (i : Nat) x, K[i]? = some x → 1 ≤ x.size ∧ x.size ≤ 96) ∧ (∀ (i : Nat) y, V[i]? = some y → y.size ≤ 140) ∧ I = [] := by
  unfold nodeOk at h
  simp only [Bool.and_eq_true, decide_eq_true_eq, if_true, beq_iff_eq] at h
  obtain ⟨⟨h1, h2⟩, ⟨h3, h4⟩, h5⟩ := h
  refine ⟨by omega, by omega, fun i x hx => ?_, fun i y hy => ?_, List.eq_nil_of_length_eq_zero (by omega)⟩
  · have := List.all_eq_true.1 h1 i (List.mem_range.2 (List.getElem?_eq_some_iff.1 hx).1)
    unfold keyOk within at this
    rw [getS hx] at this
    simp only [Bool.and_eq_true, decide_eq_true_eq] at this
    omega
  · have := List.all_eq_true.1 h3 i (List.mem_range.2 (List.getElem?_eq_some_iff.1 hy).1)
    rw [getS hy] at this
    simp only [Bool.not_eq_true', decide_eq_false_iff_not] at this
    omega
theorem npOk_inner {K V : List ByteArray} {I : List Int} (h : nodeOk (false, K, V, I, ()) = true) : I.length = K.length + 1 ∧ 0 < K.length ∧ K.length ≤ 4 ∧ (∀ (i : Nat) x, K[i]? = some x → 1 ≤ x.size ∧ x.size ≤ 96) ∧ (∀ (i : Nat) y, I[i]? = some y → 0 ≤ y ∧ y ≤ 18) ∧ V = [] := by
  unfold nodeOk at h
  simp only [Bool.and_eq_true, decide_eq_true_eq, Bool.false_eq_true, if_false, beq_iff_eq] at h
  obtain ⟨⟨h1, h2⟩, ⟨⟨h3, h4⟩, h5⟩, h6⟩ := h
  refine ⟨by omega, by omega, by omega, fun i x hx => ?_, fun i y hy => ?_, List.eq_nil_of_length_eq_zero (by omega)⟩
  · have := List.all_eq_true.1 h1 i (List.mem_range.2 (List.getElem?_eq_some_iff.1 hx).1)
    unfold keyOk within at this
    rw [getS hx] at this
    simp only [Bool.and_eq_true, decide_eq_true_eq] at this
    omega
  · have := List.all_eq_true.1 h3 i (List.mem_range.2 (List.getElem?_eq_some_iff.1 hy).1)
    rw [getN hy] at this
    unfold within at this
    simp only [Bool.and_eq_true, decide_eq_true_eq] at this
    omega
theorem npZero_eq (n : NodeT) : npZero n = nodeZero n := rfl
theorem npOk_eq (n : NodeT) : npOk n = nodeOk n := rfl
/-- the reference writes a node that is ok -/
theorem l9NodePut_ev (n : NodeT) (h : nodeOk n = true ∨ nodeZero n = true) : Ev (fun k => F18 k n.1 n.2.1 n.2.2.1 n.2.2.2.1) ((npText n, ()), (((), (), (), (), ()), ())) := by
  obtain ⟨lf, K, V, I, u⟩ := n
  obtain ⟨⟩ := u
  refine Ev.step 2 (fun k => F18_eq k _ _ _ _) (Ev.bind (F16_ev (lf, K, V, I, ())) ?_)
  cases hz : nodeZero (lf, K, V, I, ()) with
  | true =>
    simp only [if_true]
    unfold npText
    rw [if_pos (.inl hz)]
    exact Ev.now _
  | false =>
    simp only [Bool.false_eq_true, if_false]
    have ho : nodeOk (lf, K, V, I, ()) = true := h.resolve_right (by rw [hz]; simp)
    have hno : ¬ (npZero (lf, K, V, I, ()) = true ∨ npOk (lf, K, V, I, ()) = false) := by rw [npZero_eq, npOk_eq, hz, ho]; simp
    cases lf with
    | true =>
      obtain ⟨a1, a2, a3, a4, _⟩ := npOk_leaf ho
      have e : npText (true, K, V, I, ()) = ⟨(npL K V K.length).toArray⟩ := by unfold npText; rw [if_neg hno, if_pos rfl]
      rw [e]
      simp only [if_true]
      exact leafPut_ev a1 a2 (fun i x y hx hy => ⟨by have := a3 i x hx; omega, by have := a4 i y hy; omega⟩) K.length 0 _ (by omega) (by simp [npL]) (by decide)
    | false =>
      obtain ⟨a1, a2, a3, a4, a5, _⟩ := npOk_inner ho
      have e : npText (false, K, V, I, ()) = ⟨(npN K I K.length).toArray⟩ := by unfold npText; rw [if_neg hno, if_neg (by simp)]
      rw [e]
      obtain ⟨z, hz0⟩ : ∃ z, I[0]? = some z := ⟨_, List.getElem?_eq_getElem (by omega)⟩
      have zz := a5 0 z hz0
      obtain ⟨z, rfl⟩ : ∃ q : Nat, z = (q : Int) := ⟨z.toNat, by omega⟩
      have dz := dec_len (n := z) (by omega)
      have e1 : (⟨#[78]⟩ : ByteArray).size = 1 := rfl
      have e2 : (⟨#[58]⟩ : ByteArray).size = 1 := rfl
      simp only [hz0, Option.bind_some, Bool.false_eq_true, if_false]
      refine Ev.bind (l1Dec_ev z (by omega)) ?_
      refine Ev.pos (fun _ => ble9 (by simp only [ByteArray.size_append, sz_mk, e1, e2]; omega)) ?_
      refine Ev.pos (fun _ => ble9 (by simp only [ByteArray.size_append, sz_mk, e1, e2]; omega)) ?_
      refine innerPut_ev a1 a3 (fun i x hx => by have := a4 i x hx; omega) (fun i y hy => by have := a5 i y hy; omega) K.length 0 _ (by omega) ?_ (by simp only [ByteArray.size_append, sz_mk, e1, e2]; omega)
      refine ba_ext ?_
      simp [npN, hz0, itoa_nat, ByteArray.data_append]
theorem specNodePut_ev (n : NodeT) (h : okNode n) : Ev (fun k => F6 k n.1 n.2.1 n.2.2.1 n.2.2.2.1) ((npText n, ()), (((), (), (), (), ()), ())) := by
  refine Ev.step 2 (fun k => F6_eq k _ _ _ _) (Ev.bind (F16_ev n) ?_)
  cases hz : nodeZero n with
  | true =>
    simp only [Bool.not_true, Bool.false_eq_true, if_false]
    exact Ev.bind (l9NodePut_ev n (.inr hz)) (Ev.now _)
  | false =>
    simp only [Bool.not_false, if_true]
    refine Ev.bind (F17_ev n h) ?_
    cases ho : nodeOk n with
    | true =>
      simp only [Bool.not_true, Bool.false_eq_true, if_false]
      exact Ev.bind (l9NodePut_ev n (.inl ho)) (Ev.now _)
    | false =>
      simp only [Bool.not_false, if_true]
      have e : npText n = ⟨#[]⟩ := by unfold npText; rw [if_pos (.inr ho)]
      rw [e]
      exact Ev.now _
theorem implNodePut_ev (n : NodeT) (h : okNode n) : Ev (fun k => F8 k n.1 n.2.1 n.2.2.1 n.2.2.2.1) ((npText n, ()), (((), (), (), (), ()), ())) := by
  refine Ev.step 1 (fun k => F8_eq k _ _ _ _) ?_
  unfold nodeputR
  dsimp only
  rw [Nat.ble_eq_true_of_le h.1, Nat.ble_eq_true_of_le h.2.1, Nat.ble_eq_true_of_le h.2.2]
  exact Ev.now _
end Go.Proofs.YtcolgghllacloaaDoor.R
end

section
/-! Rf: the law FnExactNodePut, with no machine in sight. -/
set_option autoImplicit false
namespace Go.Proofs.YtcolgghllacloaaDoor.R
open Go.Rf
theorem FnExactNodePut : PureFnExactNodePut := by
  intro lf K V I _ h2 h3 h4
  have hf : fits (lf, K, V, I, ()) := by
    have e : maxLen = 9223372036854775807 := by decide
    exact ⟨e ▸ h2.1, fun y hy => by have : y.size ≤ maxLen := h2.2 y hy; omega, e ▸ h3.1, fun y hy => by have : y.size ≤ maxLen := h3.2 y hy; omega, e ▸ h4.1⟩
  obtain ⟨r, e1, e2⟩ := F5_ev (lf, K, V, I, ()) hf 1048576 (by omega) (by omega)
  have st : ∀ {q}, Ev (fun k => if (decide (r.1.1 < (0 : Int))) = true then some ((true, ()), (((), (), (), (), ()), ())) else (F7 k lf K V I).bind fun r2 => (F6 k r2.1.1.1 r2.1.1.2.1 r2.1.1.2.2.1 r2.1.1.2.2.2.1).bind fun r3 => (F7 k lf K V I).bind fun r4 => (F8 k r4.1.1.1 r4.1.1.2.1 r4.1.1.2.2.1 r4.1.1.2.2.2.1).bind fun r5 => if (!(r5.1.1.toList == r3.1.1.toList)) = true then some ((false, ()), (((), (), (), (), ()), ())) else (F7 k lf K V I).bind fun r6 => (F9 k r4.1.1.1 r4.1.1.2.1 r4.1.1.2.2.1 r4.1.1.2.2.2.1 r6.1.1.1 r6.1.1.2.1 r6.1.1.2.2.1 r6.1.1.2.2.2.1).bind fun r7 => if (!r7.1.1) = true then some ((false, ()), (((), (), (), (), ()), ())) else some ((true, ()), (((), (), (), (), ()), ()))) q → Ev (fun k => F3 k lf K V I) q := fun hq =>
    Ev.step 2 (fun k => F3_eq k _ _ _ _) (Ev.bind e1 hq)
  rcases e2 with e2 | ⟨e2, e3, e4⟩
  · obtain ⟨k, hk⟩ := Ev.get (st (q := ((true, ()), (((), (), (), (), ()), ()))) (by
      simp only [e2, decide_true, if_true]
      exact Ev.now _))
    exact ⟨k, _, hk⟩
  · have hneg : decide (r.1.1 < 0) = false := by simp; omega
    have ht := F7_ev (lf, K, V, I, ()) e4
    obtain ⟨k, hk⟩ := Ev.get (st (q := ((true, ()), (((), (), (), (), ()), ()))) (by
      simp only [hneg, Bool.false_eq_true, if_false]
      refine Ev.bind ht (Ev.bind (specNodePut_ev (lf, K, V, I, ()) e4) (Ev.bind ht (Ev.bind (implNodePut_ev (lf, K, V, I, ()) e4) ?_)))
      simp only [beq_self_eq_true, Bool.not_true, Bool.false_eq_true, if_false]
      refine Ev.bind ht (Ev.bind (F9_ev (lf, K, V, I, ()) e4) ?_)
      simp only [Bool.not_true, Bool.false_eq_true, if_false]
      exact Ev.now _))
    exact ⟨k, _, hk⟩
end Go.Proofs.YtcolgghllacloaaDoor.R
end

section
/-- The row, under a short name, for the claim. -/
theorem Go.Proofs.YtcolgghllacloaaDoor.fnExactNodePut_holds : Go.Proofs.YtcolgghllacloaaDoor.Rows.FnExactNodePutCardSaid := Go.Proofs.YtcolgghllacloaaDoor.fnExactNodePut.card Go.Proofs.YtcolgghllacloaaDoor.R.FnExactNodePut
end
