/- A part of the proof that the law FnExactTypeGet answers true for every input: contracts of functions that it reaches, or its plain law. -/
import Derived.Lib.LaidTab
import Derived.Shelf.Strconv.Itoa3
import Derived.Lib.CutLaws
import Derived.Lib.AtoiAll
import Derived.Lib.ItoaNum
import Derived.Test.YtajbbnkomnfmlaaDoorProg
import Derived.KernelRfl
import Derived.Shelf.Strings.Builder1
import Derived.Shelf.Strings.BuilderF
import Derived.Shelf.Strings.BuilderK
import Derived.Shelf.Strconv.Atoi
import Derived.Shelf.Strconv.Itoa0
import Derived.Shelf.Strconv.Itoa1
import Derived.Shelf.LaysM
import Derived.Shelf.Strconv.Itoa2
import Derived.Shelf.Strconv.AtoiErrFast
import Derived.Shelf.Strconv.ParseIntEmpty
import Derived.Shelf.Strconv.AtoiFail
import Derived.Shelf.Strconv.Clone
import Derived.Shelf.Strconv.SyntaxError
import Derived.Shelf.LaysC
import Derived.Shelf.Strconv.ToError
import Derived.Shelf.Strconv.AtoiErr
import Derived.Shelf.Strconv.Lower
import Derived.Shelf.Strconv.ParseUint10
import Derived.Shelf.Strconv.ParseUint10Empty
import Derived.Shelf.Strconv.ParseUint10Any
import Derived.Shelf.Strconv.ParseInt10
import Derived.Shelf.Strconv.AtoiLong
import Derived.Shelf.Strconv.AtoiInnerAll
import Derived.Shelf.Strconv.RangeError
import Derived.Shelf.Strconv.ToErrorRange
import Derived.Shelf.Strconv.AtoiAll
import Derived.Shelf.Strconv.ParseUintEmpty
import Derived.Shelf.Strconv.ParseUint10b64
import Derived.Shelf.Strconv.ParseUint10b32
import Derived.Shelf.Strconv.ParseUint10b16
import Derived.Shelf.Strconv.ParseUint10b8
import Derived.Shelf.Strconv.ParseUint10At
import Derived.Shelf.Strconv.ParseInt10At64
import Derived.Shelf.Strconv.ParseInt10At32
import Derived.Shelf.Strconv.ParseInt10At16
import Derived.Shelf.Strconv.ParseInt10At8
import Derived.Shelf.Strings.Search1
import Derived.Shelf.Strings.Search2
import Derived.Shelf.Strings.Cut
import Derived.Shelf.Strings.Shaped
import Derived.Shelf.Strings.Prefix
import Derived.Shelf.Strings.BuilderCap
import Derived.Ground.Names2Prog
import Derived.Shelf.Slices.Clone
import Derived.Ground.SlgnProg
import Derived.Shelf.SlicesE.Clone
import Derived.Lib.AppendIntMem
import Derived.Test.YtajbbnkomnfmlaaDoorRows
import Derived.WalkKit
import Derived.ProofKit
import Derived.OpenShut
import Derived.ShutString
import Derived.ChangeOld
import Derived.Below
import Derived.SizedLaws
import Derived.Carry
import Derived.Test.YtajbbnkomnfmlaaDoorCards
import Derived.Test.YtajbbnkomnfmlaaDoorTie
import Derived.LaidMore
import Derived.Stop.Joined
import Derived.Stop.LaidErr
import Derived.SevenTiedAt
import Derived.OpenVars
import Derived.ChangeVars
import Derived.Lib.Strings
import Derived.Lib.TrimByte
import Derived.Lib.Bytealg
import Derived.Test.YtajbbnkomnfmlaaDoorCFnExactTypeGetx0
import Derived.Test.YtajbbnkomnfmlaaDoorCFnExactTypeGetx1
import Derived.Test.YtajbbnkomnfmlaaDoorCFnExactTypeGetx2
import Derived.Test.YtajbbnkomnfmlaaDoorCFnExactTypeGetx3
namespace Go.Proofs.YtajbbnkomnfmlaaDoor.Q
end Go.Proofs.YtajbbnkomnfmlaaDoor.Q
namespace Go.Proofs.YtajbbnkomnfmlaaDoor.R
end Go.Proofs.YtajbbnkomnfmlaaDoor.R
namespace Go.Proofs.YtajbbnkomnfmlaaDoorW.PrintLast
end Go.Proofs.YtajbbnkomnfmlaaDoorW.PrintLast
namespace Go.Proofs.YtajbbnkomnfmlaaDoorW.PrintMore
end Go.Proofs.YtajbbnkomnfmlaaDoorW.PrintMore
namespace Go.Proofs.YtajbbnkomnfmlaaDoorW.PrintWords
end Go.Proofs.YtajbbnkomnfmlaaDoorW.PrintWords
section
/-! Rf: the seat's tables. -/
set_option autoImplicit false
namespace Go.Proofs.YtajbbnkomnfmlaaDoor.R
open Go.Rf
noncomputable def tabs : Tabs where
  ty := [(3, ⟨false, [.int .i64], [], 8⟩),
    (4, ⟨false, [.bool], [], 1⟩),
    (5, ⟨false, [.int .u8], [], 1⟩),
    (9, ⟨false, [.str], [], 16⟩),
    (23, ⟨true, [.int .i64, .int .i64, .int .i64], [(0, 1, false), (1, 1, false), (2, 1, false)], 24⟩),
    (28, ⟨false, [.sl (.int .u8)], [], 24⟩),
    (34, ⟨false, [.sl .str], [], 24⟩),
    (35, ⟨false, [.sl (.int .i64)], [], 24⟩),
    (51, ⟨false, [.err], [], 16⟩),
    (82, ⟨true, [.sl (.int .u8), .int .i64], [(0, 1, false), (1, 1, false)], 32⟩)]
  el := [(28, 5), (34, 9), (35, 3)]
  ifcs := []
  known := [3, 4, 7, 8, 9, 10, 11, 12, 13, 14, 15, 25, 26, 27, 28, 29, 30, 31, 32, 33, 34, 35, 36, 37, 38, 39, 62, 63, 64, 66, 67, 70, 72, 73, 87, 88]
  spec := [(3, ⟨[.c (.v .str)], [.c (.v .bool)]⟩),
    (4, ⟨[.c (.v (.sl (.int .u8))), .c (.v (.sl (.int .u8)))], [.c (.v .bool)]⟩),
    (7, ⟨[.c (.v .str)], [.agg [.v (.int .i64), .v (.int .i64), .v (.int .i64)], .c (.v .bool)]⟩),
    (8, ⟨[.c (.v .str)], [.agg [.v (.int .i64), .v (.int .i64), .v (.int .i64)], .c (.v .bool)]⟩),
    (9, ⟨[.agg [.v (.int .i64), .v (.int .i64), .v (.int .i64)], .agg [.v (.int .i64), .v (.int .i64), .v (.int .i64)]], [.c (.v .bool)]⟩),
    (10, ⟨[.c (.v (.sl (.int .u8)))], [.agg [.v (.int .i64), .v (.int .i64), .v (.int .i64)]]⟩),
    (11, ⟨[.agg [.v (.int .i64), .v (.int .i64), .v (.int .i64)]], [.c (.v .str)]⟩),
    (12, ⟨[.agg [.v (.int .i64), .v (.int .i64), .v (.int .i64)]], [.c (.v .str)]⟩),
    (13, ⟨[.agg [.v (.int .i64), .v (.int .i64), .v (.int .i64)]], [.c (.v .bool)]⟩),
    (14, ⟨[.agg [.v (.int .i64), .v (.int .i64), .v (.int .i64)]], [.c (.v .bool)]⟩),
    (15, ⟨[.c (.v (.sl (.int .u8)))], [.c (.v .str)]⟩),
    (25, ⟨[.c (.v .str)], [.agg [.v (.int .i64), .v (.int .i64), .v (.int .i64)], .c (.v .bool)]⟩),
    (26, ⟨[.c (.v .str), .c (.v .str)], [.c (.v .str), .c (.v .str), .c (.v .bool)]⟩),
    (27, ⟨[.c (.v .str), .c (.v .str)], [.c (.v .str)]⟩),
    (28, ⟨[.c (.v .str), .c (.v .str)], [.c (.v .str)]⟩),
    (29, ⟨[.c (.v .str)], [.c (.v (.int .i64)), .c (.v .err)]⟩),
    (30, ⟨[.box [.v (.sl (.int .u8)), .v (.int .i64)]], [.agg [.v (.int .i64), .v (.int .i64), .v (.int .i64)]]⟩),
    (31, ⟨[.c (.v (.sl (.int .u8)))], [.box [.v (.sl (.int .u8)), .v (.int .i64)]]⟩),
    (32, ⟨[.c (.v (.int .i64))], [.c (.v .str)]⟩),
    (33, ⟨[.agg [.v (.int .i64), .v (.int .i64), .v (.int .i64)]], [.c (.v .bool)]⟩),
    (34, ⟨[.agg [.v (.int .i64), .v (.int .i64), .v (.int .i64)]], [.c (.v .str)]⟩),
    (35, ⟨[.c (.v (.int .i64)), .c (.v (.int .i64)), .c (.v (.int .i64))], [.c (.v .bool)]⟩),
    (36, ⟨[.box [.v (.sl (.int .u8)), .v (.int .i64)], .c (.v (.int .i64))], [.c (.v (.int .i64))]⟩),
    (37, ⟨[.box [.v (.sl (.int .u8)), .v (.int .i64)], .c (.o .str 9 false)], [.c (.v .str)]⟩),
    (38, ⟨[.box [.v (.sl (.int .u8)), .v (.int .i64)], .c (.v .str)], [.c (.v .str)]⟩),
    (39, ⟨[.box [.v (.sl (.int .u8)), .v (.int .i64)]], [.agg [.v (.int .i64), .v (.int .i64), .v (.int .i64)]]⟩),
    (62, ⟨[.c (.v .str), .c (.v .str)], [.c (.v .bool)]⟩),
    (63, ⟨[.c (.v .str), .c (.v (.int .u8)), .c (.v (.int .i64))], [.c (.v (.sl .str))]⟩),
    (64, ⟨[.c (.v .str)], [.c (.v (.int .i64))]⟩),
    (66, ⟨[.c (.v .str), .c (.v .str)], [.c (.v .str)]⟩),
    (67, ⟨[.c (.v .str), .c (.v .str)], [.c (.v .str)]⟩),
    (70, ⟨[.box [.v (.sl (.int .u8)), .v (.int .i64)], .c (.o (.int .i64) 3 false)], [.c (.v (.int .i64))]⟩),
    (72, ⟨[.c (.v (.int .i64)), .c (.v (.int .i64)), .c (.v (.int .i64))], [.c (.v .bool)]⟩),
    (73, ⟨[.c (.v (.int .i64))], [.c (.v .str)]⟩),
    (87, ⟨[.c (.v .str), .c (.v .str)], [.c (.v .bool)]⟩),
    (88, ⟨[.c (.v .str), .c (.v .str)], [.c (.v .bool)]⟩)]
  cut := [(8, [(6, [(0, .c (.v .str)), (2, .box [.v (.int .i64), .v (.int .i64), .v (.int .i64)]), (4, .box [.v (.int .i64), .v (.int .i64), .v (.int .i64)]), (8, .c (.v (.int .i64)))]), (7, [(0, .c (.v .str)), (2, .box [.v (.int .i64), .v (.int .i64), .v (.int .i64)]), (4, .box [.v (.int .i64), .v (.int .i64), .v (.int .i64)]), (8, .c (.v (.int .i64)))])]),
    (30, [(9, [(0, .box [.v (.sl (.int .u8)), .v (.int .i64)]), (2, .box [.v (.int .i64), .v (.int .i64), .v (.int .i64)]), (3, .box [.v (.int .i64), .v (.int .i64), .v (.int .i64)])])]),
    (31, [(3, [(0, .c (.v (.sl (.int .u8))))])]),
    (38, [(12, [(0, .box [.v (.sl (.int .u8)), .v (.int .i64)]), (1, .c (.v .str))])]),
    (39, [(7, [(0, .box [.v (.sl (.int .u8)), .v (.int .i64)]), (2, .box [.v (.int .i64), .v (.int .i64), .v (.int .i64)]), (3, .c (.v (.int .i64))), (4, .c (.v (.int .i64))), (5, .c (.v (.int .i64)))])]),
    (63, [(4, [(0, .c (.v .str)), (1, .c (.v (.int .u8))), (2, .c (.v (.int .i64))), (7, .c (.o .str 9 true)), (8, .c (.v (.int .i64))), (9, .c (.v (.int .i64)))]), (5, [(0, .c (.v .str)), (1, .c (.v (.int .u8))), (2, .c (.v (.int .i64))), (7, .c (.o .str 9 true)), (8, .c (.v (.int .i64))), (9, .c (.v (.int .i64))), (17, .c (.v (.int .i64))), (18, .c (.v (.int .i64))), (19, .c (.v .bool))])]),
    (64, [(3, [(0, .c (.v .str)), (3, .c (.v (.int .i64))), (4, .c (.v (.int .i64)))])])]
  eqs := [(23, [.int .i64, .int .i64, .int .i64])]
theorem tabs_ok : tabs.ok Tryd.prog = true := by kernel_rfl
noncomputable def cutR (x : ByteArray × ByteArray × Unit) : Option ((ByteArray × ByteArray × Bool × Unit) × (Unit × Unit × Unit)) := bif Nat.ble (x.1.size + 1) 4294967281 then some ((⟨(Lib.cut x.1.data.toList x.2.1.data.toList).1.toArray⟩, ⟨(Lib.cut x.1.data.toList x.2.1.data.toList).2.1.toArray⟩, (Lib.cut x.1.data.toList x.2.1.data.toList).2.2, ()), ((), (), ())) else none
noncomputable def atoiaR (x : ByteArray × Unit) : Option ((Int × Bool × Unit) × (Unit × Unit)) := bif Nat.ble x.1.size 281474976710656 then match Lib.atoiAll x.1.data.toList with
  | .ok v => some ((v, true, ()), ((), ()))
  | .range => some ((Lib.atoiSat x.1.data.toList, false, ()), ((), ()))
  | _ => some ((0, false, ()), ((), ()))
  else none
noncomputable def itoaR (x : Int × Unit) : Option ((ByteArray × Unit) × (Unit × Unit)) := bif decide (-9223372036854775808 ≤ x.1) && decide (x.1 ≤ 9223372036854775807) then some ((⟨(Lib.itoa x.1).toArray⟩, ()), ((), ())) else none
noncomputable def extR : (f : Nat) → Option ((specOf tabs.spec f).In → Option (specOf tabs.spec f).Out) := fun f => match f with
  | 26 => some cutR
  | 29 => some atoiaR
  | 32 => some itoaR
  | _ => none
/-- the variable that holds strconv's powers of ten, and its cells -/
def powG : Nat := 4
def powCells : Array Value := (Lib.pow10Tab.map fun z => Value.int .u64 z).toArray
/-- a variable that holds some number -/
def maxG : Nat := 1
/-- variables that hold an error -/
def synG : Nat := 2
def ranG : Nat := 3
def objsR : Nat → Option (Array Value → Prop) := fun g => if g = powG then some (fun cs => cs = powCells) else if g = maxG then some (fun cs => ∃ m, cs[0]? = some (.int .i64 m)) else if g = synG then some (fun cs => ∃ ev, cs[0]? = some ev ∧ (ev = .nilIface ∨ ∃ te pe, ev = .iface te pe)) else if g = ranG then some (fun cs => ∃ ev, cs[0]? = some ev ∧ (ev = .nilIface ∨ ∃ te pe, ev = .iface te pe)) else none
/-- a laid slice of strings -/
def namesG : Nat := 0
def namesL : List ByteArray := [⟨#[]⟩, ⟨#[98, 111, 111, 108]⟩, ⟨#[110, 117, 109]⟩, ⟨#[100, 97, 121]⟩, ⟨#[115, 112, 97, 110]⟩, ⟨#[116, 101, 120, 116]⟩]
def globR : Nat → Option Go.Rf.Gv := fun g => if g = namesG then some ⟨.sl .str, namesL⟩ else none

noncomputable def cx : Go.Rf.Cx := tabs.cx Tryd.prog extR globR objsR
theorem good : Go.Rf.Good cx := Go.Rf.Tabs.good tabs_ok
end Go.Proofs.YtajbbnkomnfmlaaDoor.R
end

section
/-! Rf: the functions, and what each answers. -/
set_option autoImplicit false
set_option linter.unusedVariables false
namespace Go.Proofs.YtajbbnkomnfmlaaDoor.R
open Go.Rf
/-! loop.example/jetton/laws.FnExactTypeGet -/
noncomputable def F3 (k : Nat) (a0 : ByteArray) : Option ((Bool × Unit) × (Unit × Unit)) := callF cx k 3 (a0, ())
/-! loop.example/jetton/laws.FnType -/
noncomputable def F4 (k : Nat) (a0 : List Int) (a1 : List Int) : Option ((Bool × Unit) × (Unit × Unit × Unit)) := callF cx k 4 (a0, a1, ())
/-! loop.example/jetton/spec.TypeGet -/
noncomputable def F7 (k : Nat) (a0 : ByteArray) : Option (((Int × Int × Int × Unit) × Bool × Unit) × (Unit × Unit)) := callF cx k 7 (a0, ())
/-! loop.example/jetton/impl.TypeGet -/
noncomputable def F8 (k : Nat) (a0 : ByteArray) : Option (((Int × Int × Int × Unit) × Bool × Unit) × (Unit × Unit)) := callF cx k 8 (a0, ())
noncomputable def F8c6 (k : Nat) (x0 : ByteArray) (x2_0 : Int) (x2_1 : Int) (x2_2 : Int) (x4_0 : Int) (x4_1 : Int) (x4_2 : Int) (x8 : Int) : Option (((Int × Int × Int × Unit) × Bool × Unit) × (Unit × Unit)) := cutF cx 8 6 Tryd.f8 k (x0, (x2_0, x2_1, x2_2, ()), (x4_0, x4_1, x4_2, ()), x8, ())
noncomputable def F8c7 (k : Nat) (x0 : ByteArray) (x2_0 : Int) (x2_1 : Int) (x2_2 : Int) (x4_0 : Int) (x4_1 : Int) (x4_2 : Int) (x8 : Int) : Option (((Int × Int × Int × Unit) × Bool × Unit) × (Unit × Unit)) := cutF cx 8 7 Tryd.f8 k (x0, (x2_0, x2_1, x2_2, ()), (x4_0, x4_1, x4_2, ()), x8, ())
/-! loop.example/jetton/laws.eqType -/
noncomputable def F9 (k : Nat) (a0_0 : Int) (a0_1 : Int) (a0_2 : Int) (a1_0 : Int) (a1_1 : Int) (a1_2 : Int) : Option ((Bool × Unit) × ((Unit × Unit × Unit × Unit) × (Unit × Unit × Unit × Unit) × Unit)) := callF cx k 9 ((a0_0, a0_1, a0_2, ()), (a1_0, a1_1, a1_2, ()), ())
/-! loop.example/jetton/spec.DrawTypePut -/
noncomputable def F10 (k : Nat) (a0 : List Int) : Option (((Int × Int × Int × Unit) × Unit) × (Unit × Unit)) := callF cx k 10 (a0, ())
/-! loop.example/jetton/impl.TypePut -/
noncomputable def F11 (k : Nat) (a0_0 : Int) (a0_1 : Int) (a0_2 : Int) : Option ((ByteArray × Unit) × ((Unit × Unit × Unit × Unit) × Unit)) := callF cx k 11 ((a0_0, a0_1, a0_2, ()), ())
/-! loop.example/jetton/spec.TypePut -/
noncomputable def F12 (k : Nat) (a0_0 : Int) (a0_1 : Int) (a0_2 : Int) : Option ((ByteArray × Unit) × ((Unit × Unit × Unit × Unit) × Unit)) := callF cx k 12 ((a0_0, a0_1, a0_2, ()), ())
/-! loop.example/jetton/impl.TypeOk -/
noncomputable def F13 (k : Nat) (a0_0 : Int) (a0_1 : Int) (a0_2 : Int) : Option ((Bool × Unit) × ((Unit × Unit × Unit × Unit) × Unit)) := callF cx k 13 ((a0_0, a0_1, a0_2, ()), ())
/-! loop.example/jetton/spec.TypeOk -/
noncomputable def F14 (k : Nat) (a0_0 : Int) (a0_1 : Int) (a0_2 : Int) : Option ((Bool × Unit) × ((Unit × Unit × Unit × Unit) × Unit)) := callF cx k 14 ((a0_0, a0_1, a0_2, ()), ())
/-! loop.example/jetton/spec.DrawTypeGet -/
noncomputable def F15 (k : Nat) (a0 : List Int) : Option ((ByteArray × Unit) × (Unit × Unit)) := callF cx k 15 (a0, ())
/-! loop.example/jetton/spec.l4TypeGet -/
noncomputable def F25 (k : Nat) (a0 : ByteArray) : Option (((Int × Int × Int × Unit) × Bool × Unit) × (Unit × Unit)) := callF cx k 25 (a0, ())
/-! strings.Cut -/
noncomputable def F26 (k : Nat) (a0 : ByteArray) (a1 : ByteArray) : Option ((ByteArray × ByteArray × Bool × Unit) × (Unit × Unit × Unit)) := callF cx k 26 (a0, a1, ())
/-! strings.TrimSuffix -/
noncomputable def F27 (k : Nat) (a0 : ByteArray) (a1 : ByteArray) : Option ((ByteArray × Unit) × (Unit × Unit × Unit)) := callF cx k 27 (a0, a1, ())
/-! strings.TrimPrefix -/
noncomputable def F28 (k : Nat) (a0 : ByteArray) (a1 : ByteArray) : Option ((ByteArray × Unit) × (Unit × Unit × Unit)) := callF cx k 28 (a0, a1, ())
/-! strconv.Atoi -/
noncomputable def F29 (k : Nat) (a0 : ByteArray) : Option ((Int × Bool × Unit) × (Unit × Unit)) := callF cx k 29 (a0, ())
/-! loop.example/jetton/spec.l14AnyType -/
noncomputable def F30 (k : Nat) (a0_0 : List Int) (a0_1 : Int) : Option (((Int × Int × Int × Unit) × Unit) × (((List Int) × Int × Unit) × Unit)) := callF cx k 30 ((a0_0, a0_1, ()), ())
noncomputable def F30c9 (k : Nat) (x0_0 : List Int) (x0_1 : Int) (x2_0 : Int) (x2_1 : Int) (x2_2 : Int) (x3_0 : Int) (x3_1 : Int) (x3_2 : Int) : Option (((Int × Int × Int × Unit) × Unit) × (((List Int) × Int × Unit) × Unit)) := cutF cx 30 9 Tryd.f30 k ((x0_0, x0_1, ()), (x2_0, x2_1, x2_2, ()), (x3_0, x3_1, x3_2, ()), ())
/-! loop.example/jetton/spec.l1Open -/
noncomputable def F31 (k : Nat) (a0 : List Int) : Option ((((List Int) × Int × Unit) × Unit) × (Unit × Unit)) := callF cx k 31 (a0, ())
noncomputable def F31c3 (k : Nat) (x0 : List Int) : Option ((((List Int) × Int × Unit) × Unit) × (Unit × Unit)) := cutF cx 31 3 Tryd.f31 k (x0, ())
/-! strconv.Itoa -/
noncomputable def F32 (k : Nat) (a0 : Int) : Option ((ByteArray × Unit) × (Unit × Unit)) := callF cx k 32 (a0, ())
/-! loop.example/jetton/spec.l4TypeOk -/
noncomputable def F33 (k : Nat) (a0_0 : Int) (a0_1 : Int) (a0_2 : Int) : Option ((Bool × Unit) × ((Unit × Unit × Unit × Unit) × Unit)) := callF cx k 33 ((a0_0, a0_1, a0_2, ()), ())
/-! loop.example/jetton/spec.l4TypePut -/
noncomputable def F34 (k : Nat) (a0_0 : Int) (a0_1 : Int) (a0_2 : Int) : Option ((ByteArray × Unit) × ((Unit × Unit × Unit × Unit) × Unit)) := callF cx k 34 ((a0_0, a0_1, a0_2, ()), ())
/-! loop.example/jetton/impl.in -/
noncomputable def F35 (k : Nat) (a0 : Int) (a1 : Int) (a2 : Int) : Option ((Bool × Unit) × (Unit × Unit × Unit × Unit)) := callF cx k 35 (a0, a1, a2, ())
/-! (*loop.example/jetton/spec.l1Rd).pick -/
noncomputable def F36 (k : Nat) (a0_0 : List Int) (a0_1 : Int) (a1 : Int) : Option ((Int × Unit) × (((List Int) × Int × Unit) × Unit × Unit)) := callF cx k 36 ((a0_0, a0_1, ()), a1, ())
/-! (*loop.example/jetton/spec.l1Rd).of -/
noncomputable def F37 (k : Nat) (a0_0 : List Int) (a0_1 : Int) (a1 : List ByteArray) : Option ((ByteArray × Unit) × (((List Int) × Int × Unit) × Unit × Unit)) := callF cx k 37 ((a0_0, a0_1, ()), a1, ())
/-! loop.example/jetton/spec.l14Bent -/
noncomputable def F38 (k : Nat) (a0_0 : List Int) (a0_1 : Int) (a1 : ByteArray) : Option ((ByteArray × Unit) × (((List Int) × Int × Unit) × Unit × Unit)) := callF cx k 38 ((a0_0, a0_1, ()), a1, ())
noncomputable def F38c12 (k : Nat) (x0_0 : List Int) (x0_1 : Int) (x1 : ByteArray) : Option ((ByteArray × Unit) × (((List Int) × Int × Unit) × Unit × Unit)) := cutF cx 38 12 Tryd.f38 k ((x0_0, x0_1, ()), x1, ())
/-! loop.example/jetton/spec.l14Type -/
noncomputable def F39 (k : Nat) (a0_0 : List Int) (a0_1 : Int) : Option (((Int × Int × Int × Unit) × Unit) × (((List Int) × Int × Unit) × Unit)) := callF cx k 39 ((a0_0, a0_1, ()), ())
noncomputable def F39c7 (k : Nat) (x0_0 : List Int) (x0_1 : Int) (x2_0 : Int) (x2_1 : Int) (x2_2 : Int) (x3 : Int) (x4 : Int) (x5 : Int) : Option (((Int × Int × Int × Unit) × Unit) × (((List Int) × Int × Unit) × Unit)) := cutF cx 39 7 Tryd.f39 k ((x0_0, x0_1, ()), (x2_0, x2_1, x2_2, ()), x3, x4, x5, ())
/-! loop.example/jetton/spec.l1Starts -/
noncomputable def F62 (k : Nat) (a0 : ByteArray) (a1 : ByteArray) : Option ((Bool × Unit) × (Unit × Unit × Unit)) := callF cx k 62 (a0, a1, ())
/-! loop.example/jetton/spec.l1Cut -/
noncomputable def F63 (k : Nat) (a0 : ByteArray) (a1 : Int) (a2 : Int) : Option (((List ByteArray) × Unit) × (Unit × Unit × Unit × Unit)) := callF cx k 63 (a0, a1, a2, ())
noncomputable def F63c4 (k : Nat) (x0 : ByteArray) (x1 : Int) (x2 : Int) (x7 : List ByteArray) (x8 : Int) (x9 : Int) : Option (((List ByteArray) × Unit) × (Unit × Unit × Unit × Unit)) := cutF cx 63 4 Tryd.f63 k (x0, x1, x2, x7, x8, x9, ())
noncomputable def F63c5 (k : Nat) (x0 : ByteArray) (x1 : Int) (x2 : Int) (x7 : List ByteArray) (x8 : Int) (x9 : Int) (x17 : Int) (x18 : Int) (x19 : Bool) : Option (((List ByteArray) × Unit) × (Unit × Unit × Unit × Unit)) := cutF cx 63 5 Tryd.f63 k (x0, x1, x2, x7, x8, x9, x17, x18, x19, ())
/-! loop.example/jetton/spec.l1Num -/
noncomputable def F64 (k : Nat) (a0 : ByteArray) : Option ((Int × Unit) × (Unit × Unit)) := callF cx k 64 (a0, ())
noncomputable def F64c3 (k : Nat) (x0 : ByteArray) (x3 : Int) (x4 : Int) : Option ((Int × Unit) × (Unit × Unit)) := cutF cx 64 3 Tryd.f64 k (x0, x3, x4, ())
/-! internal/stringslite.TrimSuffix -/
noncomputable def F66 (k : Nat) (a0 : ByteArray) (a1 : ByteArray) : Option ((ByteArray × Unit) × (Unit × Unit × Unit)) := callF cx k 66 (a0, a1, ())
/-! internal/stringslite.TrimPrefix -/
noncomputable def F67 (k : Nat) (a0 : ByteArray) (a1 : ByteArray) : Option ((ByteArray × Unit) × (Unit × Unit × Unit)) := callF cx k 67 (a0, a1, ())
/-! (*loop.example/jetton/spec.l1Rd).one -/
noncomputable def F70 (k : Nat) (a0_0 : List Int) (a0_1 : Int) (a1 : List Int) : Option ((Int × Unit) × (((List Int) × Int × Unit) × Unit × Unit)) := callF cx k 70 ((a0_0, a0_1, ()), a1, ())
/-! loop.example/jetton/spec.l1In -/
noncomputable def F72 (k : Nat) (a0 : Int) (a1 : Int) (a2 : Int) : Option ((Bool × Unit) × (Unit × Unit × Unit × Unit)) := callF cx k 72 (a0, a1, a2, ())
/-! loop.example/jetton/spec.l1Dec -/
noncomputable def F73 (k : Nat) (a0 : Int) : Option ((ByteArray × Unit) × (Unit × Unit)) := callF cx k 73 (a0, ())
/-! internal/stringslite.HasSuffix -/
noncomputable def F87 (k : Nat) (a0 : ByteArray) (a1 : ByteArray) : Option ((Bool × Unit) × (Unit × Unit × Unit)) := callF cx k 87 (a0, a1, ())
/-! internal/stringslite.HasPrefix -/
noncomputable def F88 (k : Nat) (a0 : ByteArray) (a1 : ByteArray) : Option ((Bool × Unit) × (Unit × Unit × Unit)) := callF cx k 88 (a0, a1, ())
theorem F3_eq (k : Nat) (a0 : ByteArray) : F3 (k + 2) a0 =
    if (decide ((a0.size : Int) > (1048576 : Int))) = true then some ((true, ()), ((), ())) else (F7 k a0).bind fun r1 => (F8 k a0).bind fun r2 => (F9 k r2.1.1.1 r2.1.1.2.1 r2.1.1.2.2.1 r1.1.1.1 r1.1.1.2.1 r1.1.1.2.2.1).bind fun r3 => if (!r3.1.1) = true then some ((false, ()), ((), ())) else if (!(r2.1.2.1 == r1.1.2.1)) = true then some ((false, ()), ((), ())) else some ((true, ()), ((), ())) := by kernel_rfl
theorem F4_eq (k : Nat) (a0 : List Int) (a1 : List Int) : F4 (k + 2) a0 a1 =
    if (decide ((a0.length : Int) > (1048576 : Int))) = true then some ((true, ()), ((), (), ())) else if (decide ((a1.length : Int) > (1048576 : Int))) = true then some ((true, ()), ((), (), ())) else (F10 k a0).bind fun r1 => (F11 k r1.1.1.1 r1.1.1.2.1 r1.1.1.2.2.1).bind fun r2 => (F8 k r2.1.1).bind fun r3 => (F12 k r1.1.1.1 r1.1.1.2.1 r1.1.1.2.2.1).bind fun r4 => if (!(r2.1.1.toList == r4.1.1.toList)) = true then some ((false, ()), ((), (), ())) else (F13 k r1.1.1.1 r1.1.1.2.1 r1.1.1.2.2.1).bind fun r5 => (F14 k r1.1.1.1 r1.1.1.2.1 r1.1.1.2.2.1).bind fun r6 => if (!(r5.1.1 == r6.1.1)) = true then some ((false, ()), ((), (), ())) else (F13 k r1.1.1.1 r1.1.1.2.1 r1.1.1.2.2.1).bind fun r7 => if (!(r3.1.2.1 == r7.1.1)) = true then some ((false, ()), ((), (), ())) else if r3.1.2.1 = true then if (!(r3.1.1.1 == r1.1.1.1 && (r3.1.1.2.1 == r1.1.1.2.1 && (r3.1.1.2.2.1 == r1.1.1.2.2.1 && true)))) = true then some ((false, ()), ((), (), ())) else (F15 k a1).bind fun r8 => (F8 k r8.1.1).bind fun r9 => (F7 k r8.1.1).bind fun r10 => if (r9.1.2.1 == r10.1.2.1) = true then if (r9.1.1.1 == r10.1.1.1 && (r9.1.1.2.1 == r10.1.1.2.1 && (r9.1.1.2.2.1 == r10.1.1.2.2.1 && true))) = true then if (!r9.1.2.1) = true then some ((true, ()), ((), (), ())) else (F11 k r9.1.1.1 r9.1.1.2.1 r9.1.1.2.2.1).bind fun r11 => some (((r11.1.1.toList == r8.1.1.toList), ()), ((), (), ())) else some ((false, ()), ((), (), ())) else some ((false, ()), ((), (), ())) else (F15 k a1).bind fun r12 => (F8 k r12.1.1).bind fun r13 => (F7 k r12.1.1).bind fun r14 => if (r13.1.2.1 == r14.1.2.1) = true then if (r13.1.1.1 == r14.1.1.1 && (r13.1.1.2.1 == r14.1.1.2.1 && (r13.1.1.2.2.1 == r14.1.1.2.2.1 && true))) = true then if (!r13.1.2.1) = true then some ((true, ()), ((), (), ())) else (F11 k r13.1.1.1 r13.1.1.2.1 r13.1.1.2.2.1).bind fun r15 => some (((r15.1.1.toList == r12.1.1.toList), ()), ((), (), ())) else some ((false, ()), ((), (), ())) else some ((false, ()), ((), (), ())) := by kernel_rfl
theorem F7_eq (k : Nat) (a0 : ByteArray) : F7 (k + 2) a0 =
    (F25 k a0).bind fun r1 => some (((r1.1.1.1, r1.1.1.2.1, r1.1.1.2.2.1, ()), r1.1.2.1, ()), ((), ())) := by kernel_rfl
theorem F8_eq (k : Nat) (a0 : ByteArray) : F8 (k + 2) a0 =
    (F28 k a0 (⟨#[110, 117, 109, 40]⟩ : ByteArray)).bind fun r1 => (F27 k r1.1.1 (⟨#[41]⟩ : ByteArray)).bind fun r2 => (F26 k r2.1.1 (⟨#[44]⟩ : ByteArray)).bind fun r3 => (F29 k r3.1.1).bind fun r4 => (F29 k r3.1.2.1).bind fun r5 => F8c6 k a0 (0 : Int) (0 : Int) (0 : Int) (2 : Int) r4.1.1 r5.1.1 (1 : Int) := by kernel_rfl
theorem F8c6_eq (k : Nat) (x0 : ByteArray) (x2_0 : Int) (x2_1 : Int) (x2_2 : Int) (x4_0 : Int) (x4_1 : Int) (x4_2 : Int) (x8 : Int) : F8c6 (k + 1) x0 x2_0 x2_1 x2_2 x4_0 x4_1 x4_2 x8 =
    if (decide (x8 ≤ (5 : Int))) = true then if (x8 != (2 : Int)) = true then if (decide (0 ≤ x8)) = true then (namesL[x8.toNat]?).bind fun y6 => if (x0.toList == y6.toList) = true then F8c7 k x0 x2_0 x2_1 x2_2 x8 (0 : Int) (0 : Int) x8 else F8c7 k x0 x2_0 x2_1 x2_2 x4_0 x4_1 x4_2 x8 else none else F8c7 k x0 x2_0 x2_1 x2_2 x4_0 x4_1 x4_2 x8 else if (x0.toList == (⟨#[]⟩ : ByteArray).toList) = true then some ((((0 : Int), (0 : Int), (0 : Int), ()), false, ()), ((), ())) else (F11 k x4_0 x4_1 x4_2).bind fun r7 => if (!(r7.1.1.toList == x0.toList)) = true then some ((((0 : Int), (0 : Int), (0 : Int), ()), false, ()), ((), ())) else some (((x4_0, x4_1, x4_2, ()), true, ()), ((), ())) := by kernel_rfl
theorem F8c7_eq (k : Nat) (x0 : ByteArray) (x2_0 : Int) (x2_1 : Int) (x2_2 : Int) (x4_0 : Int) (x4_1 : Int) (x4_2 : Int) (x8 : Int) : F8c7 (k + 1) x0 x2_0 x2_1 x2_2 x4_0 x4_1 x4_2 x8 =
    F8c6 k x0 x2_0 x2_1 x2_2 x4_0 x4_1 x4_2 (IntKind.i64.wrap (x8 + (1 : Int))) := by kernel_rfl
theorem F9_eq (k : Nat) (a0_0 : Int) (a0_1 : Int) (a0_2 : Int) (a1_0 : Int) (a1_1 : Int) (a1_2 : Int) : F9 (k + 2) a0_0 a0_1 a0_2 a1_0 a1_1 a1_2 =
    if (a0_0 != a1_0) = true then some ((false, ()), (((), (), (), ()), ((), (), (), ()), ())) else if (a0_1 != a1_1) = true then some ((false, ()), (((), (), (), ()), ((), (), (), ()), ())) else if (a0_2 != a1_2) = true then some ((false, ()), (((), (), (), ()), ((), (), (), ()), ())) else some ((true, ()), (((), (), (), ()), ((), (), (), ()), ())) := by kernel_rfl
theorem F10_eq (k : Nat) (a0 : List Int) : F10 (k + 2) a0 =
    (F31 k a0).bind fun r1 => (F30 k r1.1.1.1 r1.1.1.2.1).bind fun r2 => some (((r2.1.1.1, r2.1.1.2.1, r2.1.1.2.2.1, ()), ()), ((), ())) := by kernel_rfl
theorem F11_eq (k : Nat) (a0_0 : Int) (a0_1 : Int) (a0_2 : Int) : F11 (k + 2) a0_0 a0_1 a0_2 =
    (F13 k a0_0 a0_1 a0_2).bind fun r1 => if (!r1.1.1) = true then some (((⟨#[]⟩ : ByteArray), ()), (((), (), (), ()), ())) else if (a0_0 == (2 : Int)) = true then (F32 k a0_1).bind fun r2 => if (Nat.ble ((⟨#[110, 117, 109, 40]⟩ : ByteArray).size + r2.1.1.size) 9223372036854775807) = true then if (Nat.ble (((⟨#[110, 117, 109, 40]⟩ : ByteArray) ++ r2.1.1).size + (⟨#[44]⟩ : ByteArray).size) 9223372036854775807) = true then (F32 k a0_2).bind fun r3 => if (Nat.ble ((((⟨#[110, 117, 109, 40]⟩ : ByteArray) ++ r2.1.1) ++ (⟨#[44]⟩ : ByteArray)).size + r3.1.1.size) 9223372036854775807) = true then if (Nat.ble (((((⟨#[110, 117, 109, 40]⟩ : ByteArray) ++ r2.1.1) ++ (⟨#[44]⟩ : ByteArray)) ++ r3.1.1).size + (⟨#[41]⟩ : ByteArray).size) 9223372036854775807) = true then some (((((((⟨#[110, 117, 109, 40]⟩ : ByteArray) ++ r2.1.1) ++ (⟨#[44]⟩ : ByteArray)) ++ r3.1.1) ++ (⟨#[41]⟩ : ByteArray)), ()), (((), (), (), ()), ())) else none else none else none else none else if (decide (0 ≤ a0_0)) = true then (namesL[a0_0.toNat]?).bind fun y4 => some ((y4, ()), (((), (), (), ()), ())) else none := by kernel_rfl
theorem F12_eq (k : Nat) (a0_0 : Int) (a0_1 : Int) (a0_2 : Int) : F12 (k + 2) a0_0 a0_1 a0_2 =
    (F33 k a0_0 a0_1 a0_2).bind fun r1 => if (!r1.1.1) = true then some (((⟨#[]⟩ : ByteArray), ()), (((), (), (), ()), ())) else (F34 k a0_0 a0_1 a0_2).bind fun r2 => some ((r2.1.1, ()), (((), (), (), ()), ())) := by kernel_rfl
theorem F13_eq (k : Nat) (a0_0 : Int) (a0_1 : Int) (a0_2 : Int) : F13 (k + 2) a0_0 a0_1 a0_2 =
    if (a0_0 == (2 : Int)) = true then (F35 k a0_1 (1 : Int) (30 : Int)).bind fun r1 => if r1.1.1 = true then (F35 k a0_2 (0 : Int) (if a0_1 < (12 : Int) then a0_1 else (12 : Int))).bind fun r2 => some ((r2.1.1, ()), (((), (), (), ()), ())) else some ((false, ()), (((), (), (), ()), ())) else (F35 k a0_0 (1 : Int) (5 : Int)).bind fun r3 => if r3.1.1 = true then if (a0_1 == (0 : Int)) = true then some (((a0_2 == (0 : Int)), ()), (((), (), (), ()), ())) else some ((false, ()), (((), (), (), ()), ())) else some ((false, ()), (((), (), (), ()), ())) := by kernel_rfl
theorem F14_eq (k : Nat) (a0_0 : Int) (a0_1 : Int) (a0_2 : Int) : F14 (k + 2) a0_0 a0_1 a0_2 =
    (F33 k a0_0 a0_1 a0_2).bind fun r1 => some ((r1.1.1, ()), (((), (), (), ()), ())) := by kernel_rfl
theorem F15_eq (k : Nat) (a0 : List Int) : F15 (k + 2) a0 =
    (F31 k a0).bind fun r1 => (F36 k r1.1.1.1 r1.1.1.2.1 (8 : Int)).bind fun r2 => if (r2.1.1 == (0 : Int)) = true then (F37 k r2.2.1.1 r2.2.1.2.1 [(⟨#[]⟩ : ByteArray), (⟨#[110, 117, 109]⟩ : ByteArray), (⟨#[110, 117, 109, 40, 41]⟩ : ByteArray), (⟨#[110, 117, 109, 40]⟩ : ByteArray), (⟨#[110, 117, 109, 40, 49, 41]⟩ : ByteArray), (⟨#[110, 117, 109, 40, 48, 44, 48, 41]⟩ : ByteArray), (⟨#[110, 117, 109, 40, 50, 44, 51, 41]⟩ : ByteArray), (⟨#[110, 117, 109, 40, 51, 49, 44, 48, 41]⟩ : ByteArray), (⟨#[110, 117, 108, 108]⟩ : ByteArray)]).bind fun r3 => some ((r3.1.1, ()), ((), ())) else (F39 k r2.2.1.1 r2.2.1.2.1).bind fun r4 => (F34 k r4.1.1.1 r4.1.1.2.1 r4.1.1.2.2.1).bind fun r5 => (F38 k r4.2.1.1 r4.2.1.2.1 r5.1.1).bind fun r6 => some ((r6.1.1, ()), ((), ())) := by kernel_rfl
theorem F25_eq (k : Nat) (a0 : ByteArray) : F25 (k + 2) a0 =
    if (a0.toList == (⟨#[98, 111, 111, 108]⟩ : ByteArray).toList) = true then some ((((1 : Int), (0 : Int), (0 : Int), ()), true, ()), ((), ())) else if (a0.toList == (⟨#[100, 97, 121]⟩ : ByteArray).toList) = true then some ((((3 : Int), (0 : Int), (0 : Int), ()), true, ()), ((), ())) else if (a0.toList == (⟨#[115, 112, 97, 110]⟩ : ByteArray).toList) = true then some ((((4 : Int), (0 : Int), (0 : Int), ()), true, ()), ((), ())) else if (a0.toList == (⟨#[116, 101, 120, 116]⟩ : ByteArray).toList) = true then some ((((5 : Int), (0 : Int), (0 : Int), ()), true, ()), ((), ())) else (F62 k a0 (⟨#[110, 117, 109, 40]⟩ : ByteArray)).bind fun r1 => if (!r1.1.1) = true then some ((((0 : Int), (0 : Int), (0 : Int), ()), false, ()), ((), ())) else if (decide (0 ≤ (IntKind.i64.wrap ((a0.size : Int) - (1 : Int))))) = true then (a0[(IntKind.i64.wrap ((a0.size : Int) - (1 : Int))).toNat]?).bind fun u2 => if ((u2.toNat : Int) != (41 : Int)) = true then some ((((0 : Int), (0 : Int), (0 : Int), ()), false, ()), ((), ())) else if (decide (0 ≤ (4 : Int)) && decide ((4 : Int) ≤ (IntKind.i64.wrap ((a0.size : Int) - (1 : Int)))) && decide ((IntKind.i64.wrap ((a0.size : Int) - (1 : Int))) ≤ (a0.size : Int))) = true then (F63 k (a0.extract 4 ((IntKind.i64.wrap ((a0.size : Int) - (1 : Int))).toNat)) (44 : Int) (1 : Int)).bind fun r3 => if ((r3.1.1.length : Int) != (2 : Int)) = true then some ((((0 : Int), (0 : Int), (0 : Int), ()), false, ()), ((), ())) else (r3.1.1[0]?).bind fun y4 => (F64 k y4).bind fun r5 => (r3.1.1[1]?).bind fun y6 => (F64 k y6).bind fun r7 => (F33 k (2 : Int) r5.1.1 r7.1.1).bind fun r8 => if (!r8.1.1) = true then some ((((0 : Int), (0 : Int), (0 : Int), ()), false, ()), ((), ())) else some ((((2 : Int), r5.1.1, r7.1.1, ()), true, ()), ((), ())) else none else none := by kernel_rfl
theorem F26_eq (k : Nat) (a0 : ByteArray) (a1 : ByteArray) : F26 (k + 1) a0 a1 = cutR (a0, a1, ()) := by kernel_rfl
theorem F27_eq (k : Nat) (a0 : ByteArray) (a1 : ByteArray) : F27 (k + 2) a0 a1 =
    (F66 k a0 a1).bind fun r1 => some ((r1.1.1, ()), ((), (), ())) := by kernel_rfl
theorem F28_eq (k : Nat) (a0 : ByteArray) (a1 : ByteArray) : F28 (k + 2) a0 a1 =
    (F67 k a0 a1).bind fun r1 => some ((r1.1.1, ()), ((), (), ())) := by kernel_rfl
theorem F29_eq (k : Nat) (a0 : ByteArray) : F29 (k + 1) a0 = atoiaR (a0, ()) := by kernel_rfl
theorem F30_eq (k : Nat) (a0_0 : List Int) (a0_1 : Int) : F30 (k + 2) a0_0 a0_1 =
    (F39 k a0_0 a0_1).bind fun r1 => (F36 k r1.2.1.1 r1.2.1.2.1 (20 : Int)).bind fun r2 => if (r2.1.1 == (0 : Int)) = true then (F70 k r2.2.1.1 r2.2.1.2.1 [(0 : Int), (-1 : Int), (6 : Int)]).bind fun r3 => F30c9 k r3.2.1.1 r3.2.1.2.1 (0 : Int) (0 : Int) (0 : Int) r3.1.1 r1.1.1.2.1 r1.1.1.2.2.1 else if (r2.1.1 == (1 : Int)) = true then (F70 k r2.2.1.1 r2.2.1.2.1 [(-1 : Int), (0 : Int), (31 : Int)]).bind fun r4 => F30c9 k r4.2.1.1 r4.2.1.2.1 (0 : Int) (0 : Int) (0 : Int) r1.1.1.1 r4.1.1 r1.1.1.2.2.1 else if (r2.1.1 == (2 : Int)) = true then (F70 k r2.2.1.1 r2.2.1.2.1 [(-1 : Int), (13 : Int), (31 : Int)]).bind fun r5 => F30c9 k r5.2.1.1 r5.2.1.2.1 (0 : Int) (0 : Int) (0 : Int) r1.1.1.1 r1.1.1.2.1 r5.1.1 else F30c9 k r2.2.1.1 r2.2.1.2.1 (0 : Int) (0 : Int) (0 : Int) r1.1.1.1 r1.1.1.2.1 r1.1.1.2.2.1 := by kernel_rfl
theorem F30c9_eq (k : Nat) (x0_0 : List Int) (x0_1 : Int) (x2_0 : Int) (x2_1 : Int) (x2_2 : Int) (x3_0 : Int) (x3_1 : Int) (x3_2 : Int) : F30c9 (k + 1) x0_0 x0_1 x2_0 x2_1 x2_2 x3_0 x3_1 x3_2 =
    some (((x3_0, x3_1, x3_2, ()), ()), ((x0_0, x0_1, ()), ())) := by kernel_rfl
theorem F31_eq (k : Nat) (a0 : List Int) : F31 (k + 2) a0 =
    if (decide ((a0.length : Int) > (2000 : Int))) = true then if (decide (0 ≤ (2000 : Int)) && decide ((2000 : Int) ≤ (a0.length : Int))) = true then F31c3 k (slices a0 0 2000) else none else F31c3 k a0 := by kernel_rfl
theorem F31c3_eq (k : Nat) (x0 : List Int) : F31c3 (k + 1) x0 =
    some (((x0, (0 : Int), ()), ()), ((), ())) := by kernel_rfl
theorem F32_eq (k : Nat) (a0 : Int) : F32 (k + 1) a0 = itoaR (a0, ()) := by kernel_rfl
theorem F33_eq (k : Nat) (a0_0 : Int) (a0_1 : Int) (a0_2 : Int) : F33 (k + 2) a0_0 a0_1 a0_2 =
    if (a0_0 == (2 : Int)) = true then (F72 k a0_1 (1 : Int) (30 : Int)).bind fun r1 => if r1.1.1 = true then (F72 k a0_2 (0 : Int) (12 : Int)).bind fun r2 => if r2.1.1 = true then some ((decide (a0_2 ≤ a0_1), ()), (((), (), (), ()), ())) else some ((false, ()), (((), (), (), ()), ())) else some ((false, ()), (((), (), (), ()), ())) else (F72 k a0_0 (1 : Int) (5 : Int)).bind fun r3 => if r3.1.1 = true then if (a0_1 == (0 : Int)) = true then some (((a0_2 == (0 : Int)), ()), (((), (), (), ()), ())) else some ((false, ()), (((), (), (), ()), ())) else some ((false, ()), (((), (), (), ()), ())) := by kernel_rfl
theorem F34_eq (k : Nat) (a0_0 : Int) (a0_1 : Int) (a0_2 : Int) : F34 (k + 2) a0_0 a0_1 a0_2 =
    if (a0_0 == (1 : Int)) = true then some (((⟨#[98, 111, 111, 108]⟩ : ByteArray), ()), (((), (), (), ()), ())) else if (a0_0 == (3 : Int)) = true then some (((⟨#[100, 97, 121]⟩ : ByteArray), ()), (((), (), (), ()), ())) else if (a0_0 == (4 : Int)) = true then some (((⟨#[115, 112, 97, 110]⟩ : ByteArray), ()), (((), (), (), ()), ())) else if (a0_0 == (5 : Int)) = true then some (((⟨#[116, 101, 120, 116]⟩ : ByteArray), ()), (((), (), (), ()), ())) else (F73 k a0_1).bind fun r1 => if (Nat.ble ((⟨#[110, 117, 109, 40]⟩ : ByteArray).size + r1.1.1.size) 9223372036854775807) = true then if (Nat.ble (((⟨#[110, 117, 109, 40]⟩ : ByteArray) ++ r1.1.1).size + (⟨#[44]⟩ : ByteArray).size) 9223372036854775807) = true then (F73 k a0_2).bind fun r2 => if (Nat.ble ((((⟨#[110, 117, 109, 40]⟩ : ByteArray) ++ r1.1.1) ++ (⟨#[44]⟩ : ByteArray)).size + r2.1.1.size) 9223372036854775807) = true then if (Nat.ble (((((⟨#[110, 117, 109, 40]⟩ : ByteArray) ++ r1.1.1) ++ (⟨#[44]⟩ : ByteArray)) ++ r2.1.1).size + (⟨#[41]⟩ : ByteArray).size) 9223372036854775807) = true then some (((((((⟨#[110, 117, 109, 40]⟩ : ByteArray) ++ r1.1.1) ++ (⟨#[44]⟩ : ByteArray)) ++ r2.1.1) ++ (⟨#[41]⟩ : ByteArray)), ()), (((), (), (), ()), ())) else none else none else none else none := by kernel_rfl
theorem F35_eq (k : Nat) (a0 : Int) (a1 : Int) (a2 : Int) : F35 (k + 2) a0 a1 a2 =
    if (decide (a0 ≥ a1)) = true then some ((decide (a0 ≤ a2), ()), ((), (), (), ())) else some ((false, ()), ((), (), (), ())) := by kernel_rfl
theorem F36_eq (k : Nat) (a0_0 : List Int) (a0_1 : Int) (a1 : Int) : F36 (k + 2) a0_0 a0_1 a1 =
    if (decide (a1 < (1 : Int))) = true then some (((0 : Int), ()), ((a0_0, (IntKind.i64.wrap (a0_1 + (1 : Int))), ()), (), ())) else if ((a0_0.length : Int) == (0 : Int)) = true then some (((0 : Int), ()), ((a0_0, (IntKind.i64.wrap (a0_1 + (1 : Int))), ()), (), ())) else if (decide ((IntKind.i64.wrap ((IntKind.i64.wrap (a0_1 + (1 : Int))) - (1 : Int))) < (a0_0.length : Int))) = true then if (decide (0 ≤ (IntKind.i64.wrap ((IntKind.i64.wrap (a0_1 + (1 : Int))) - (1 : Int))))) = true then (a0_0[(IntKind.i64.wrap ((IntKind.i64.wrap (a0_1 + (1 : Int))) - (1 : Int))).toNat]?).bind fun y1 => if (!(a1 == 0)) = true then some ((((IntKind.i64.wrap y1).tmod a1), ()), ((a0_0, (IntKind.i64.wrap (a0_1 + (1 : Int))), ()), (), ())) else none else none else if (!((a0_0.length : Int) == 0)) = true then if (decide (0 ≤ ((IntKind.i64.wrap ((IntKind.i64.wrap (a0_1 + (1 : Int))) - (1 : Int))).tmod (a0_0.length : Int)))) = true then (a0_0[((IntKind.i64.wrap ((IntKind.i64.wrap (a0_1 + (1 : Int))) - (1 : Int))).tmod (a0_0.length : Int)).toNat]?).bind fun y2 => if (!((a0_0.length : Int) == 0)) = true then if (decide (0 ≤ ((IntKind.i64.wrap ((IntKind.i64.wrap ((IntKind.i64.wrap ((IntKind.i64.wrap (a0_1 + (1 : Int))) - (1 : Int))) * (7 : Int))) + (3 : Int))).tmod (a0_0.length : Int)))) = true then (a0_0[((IntKind.i64.wrap ((IntKind.i64.wrap ((IntKind.i64.wrap ((IntKind.i64.wrap (a0_1 + (1 : Int))) - (1 : Int))) * (7 : Int))) + (3 : Int))).tmod (a0_0.length : Int)).toNat]?).bind fun y3 => if (!((a0_0.length : Int) == 0)) = true then if (!(a1 == 0)) = true then some ((((IntKind.i64.wrap (((BitVec.ofInt IntKind.i64.bits (IntKind.i64.wrap ((IntKind.i64.wrap ((IntKind.i64.wrap ((IntKind.i64.wrap ((IntKind.i64.wrap y2) * (131 : Int))) + (IntKind.i64.wrap ((IntKind.i64.wrap y3) * (1117 : Int))))) + (IntKind.i64.wrap ((IntKind.i64.wrap ((IntKind.i64.wrap (a0_1 + (1 : Int))) - (1 : Int))) * (29 : Int))))) + (IntKind.i64.wrap ((IntKind.i64.wrap ((IntKind.i64.wrap ((IntKind.i64.wrap (a0_1 + (1 : Int))) - (1 : Int))).tdiv (a0_0.length : Int))) * (53 : Int))))) ^^^ BitVec.ofInt IntKind.i64.bits (IntKind.i64.wrap ((IntKind.i64.wrap ((IntKind.i64.wrap ((IntKind.i64.wrap ((IntKind.i64.wrap ((IntKind.i64.wrap y2) * (131 : Int))) + (IntKind.i64.wrap ((IntKind.i64.wrap y3) * (1117 : Int))))) + (IntKind.i64.wrap ((IntKind.i64.wrap ((IntKind.i64.wrap (a0_1 + (1 : Int))) - (1 : Int))) * (29 : Int))))) + (IntKind.i64.wrap ((IntKind.i64.wrap ((IntKind.i64.wrap ((IntKind.i64.wrap (a0_1 + (1 : Int))) - (1 : Int))).tdiv (a0_0.length : Int))) * (53 : Int))))).tdiv (64 : Int)))).toNat : Int))).tmod a1), ()), ((a0_0, (IntKind.i64.wrap (a0_1 + (1 : Int))), ()), (), ())) else none else none else none else none else none else none := by kernel_rfl
theorem F37_eq (k : Nat) (a0_0 : List Int) (a0_1 : Int) (a1 : List ByteArray) : F37 (k + 2) a0_0 a0_1 a1 =
    (F36 k a0_0 a0_1 (a1.length : Int)).bind fun r1 => if (decide (0 ≤ r1.1.1) && decide (r1.1.1 < (a1.length : Int))) = true then (a1[r1.1.1.toNat]?).bind fun y2 => some ((y2, ()), ((r1.2.1.1, r1.2.1.2.1, ()), (), ())) else none := by kernel_rfl
theorem F38_eq (k : Nat) (a0_0 : List Int) (a0_1 : Int) (a1 : ByteArray) : F38 (k + 2) a0_0 a0_1 a1 =
    (F36 k a0_0 a0_1 (IntKind.i64.wrap ((a1.size : Int) + (1 : Int)))).bind fun r1 => (F36 k r1.2.1.1 r1.2.1.2.1 (6 : Int)).bind fun r2 => if (r2.1.1 == (0 : Int)) = true then if (decide (r1.1.1 < (a1.size : Int))) = true then if (decide (0 ≤ r1.1.1) && decide (r1.1.1 ≤ (a1.size : Int))) = true then if (decide (0 ≤ (IntKind.i64.wrap (r1.1.1 + (1 : Int)))) && decide ((IntKind.i64.wrap (r1.1.1 + (1 : Int))) ≤ (a1.size : Int))) = true then (F37 k r2.2.1.1 r2.2.1.2.1 [(⟨#[48]⟩ : ByteArray), (⟨#[57]⟩ : ByteArray), (⟨#[45]⟩ : ByteArray), (⟨#[46]⟩ : ByteArray), (⟨#[32]⟩ : ByteArray), (⟨#[120]⟩ : ByteArray), (⟨#[44]⟩ : ByteArray), (⟨#[58]⟩ : ByteArray), (⟨#[39]⟩ : ByteArray), (⟨#[33]⟩ : ByteArray), (⟨#[59]⟩ : ByteArray)]).bind fun r3 => if (Nat.ble ((a1.extract 0 r1.1.1.toNat).size + r3.1.1.size) 9223372036854775807) = true then if (Nat.ble ((a1.extract 0 r1.1.1.toNat ++ r3.1.1).size + (a1.extract ((IntKind.i64.wrap (r1.1.1 + (1 : Int))).toNat) a1.size).size) 9223372036854775807) = true then some ((((a1.extract 0 r1.1.1.toNat ++ r3.1.1) ++ a1.extract ((IntKind.i64.wrap (r1.1.1 + (1 : Int))).toNat) a1.size), ()), ((r3.2.1.1, r3.2.1.2.1, ()), (), ())) else none else none else none else none else F38c12 k r2.2.1.1 r2.2.1.2.1 a1 else if (r2.1.1 == (1 : Int)) = true then if (decide (0 ≤ r1.1.1) && decide (r1.1.1 ≤ (a1.size : Int))) = true then some ((a1.extract 0 r1.1.1.toNat, ()), ((r2.2.1.1, r2.2.1.2.1, ()), (), ())) else none else if (r2.1.1 == (2 : Int)) = true then (F37 k r2.2.1.1 r2.2.1.2.1 [(⟨#[120]⟩ : ByteArray), (⟨#[48]⟩ : ByteArray), (⟨#[32]⟩ : ByteArray), (⟨#[39]⟩ : ByteArray), (⟨#[59]⟩ : ByteArray), (⟨#[10]⟩ : ByteArray)]).bind fun r4 => if (Nat.ble (a1.size + r4.1.1.size) 9223372036854775807) = true then some (((a1 ++ r4.1.1), ()), ((r4.2.1.1, r4.2.1.2.1, ()), (), ())) else none else if (r2.1.1 == (3 : Int)) = true then if (decide (0 ≤ r1.1.1) && decide (r1.1.1 ≤ (a1.size : Int))) = true then if (decide (0 ≤ r1.1.1) && decide (r1.1.1 ≤ (a1.size : Int))) = true then (F37 k r2.2.1.1 r2.2.1.2.1 [(⟨#[48]⟩ : ByteArray), (⟨#[45]⟩ : ByteArray), (⟨#[46]⟩ : ByteArray), (⟨#[32]⟩ : ByteArray), (⟨#[40]⟩ : ByteArray), (⟨#[49]⟩ : ByteArray)]).bind fun r5 => if (Nat.ble ((a1.extract 0 r1.1.1.toNat).size + r5.1.1.size) 9223372036854775807) = true then if (Nat.ble ((a1.extract 0 r1.1.1.toNat ++ r5.1.1).size + (a1.extract r1.1.1.toNat a1.size).size) 9223372036854775807) = true then some ((((a1.extract 0 r1.1.1.toNat ++ r5.1.1) ++ a1.extract r1.1.1.toNat a1.size), ()), ((r5.2.1.1, r5.2.1.2.1, ()), (), ())) else none else none else none else none else F38c12 k r2.2.1.1 r2.2.1.2.1 a1 := by kernel_rfl
theorem F38c12_eq (k : Nat) (x0_0 : List Int) (x0_1 : Int) (x1 : ByteArray) : F38c12 (k + 1) x0_0 x0_1 x1 =
    some ((x1, ()), ((x0_0, x0_1, ()), (), ())) := by kernel_rfl
theorem F39_eq (k : Nat) (a0_0 : List Int) (a0_1 : Int) : F39 (k + 2) a0_0 a0_1 =
    (F70 k a0_0 a0_1 [(1 : Int), (2 : Int), (2 : Int), (2 : Int), (3 : Int), (4 : Int), (5 : Int)]).bind fun r1 => if (r1.1.1 == (2 : Int)) = true then (F70 k r1.2.1.1 r1.2.1.2.1 [(1 : Int), (2 : Int), (3 : Int), (6 : Int), (10 : Int), (30 : Int), (12 : Int)]).bind fun r2 => (F70 k r2.2.1.1 r2.2.1.2.1 [(0 : Int), (0 : Int), (1 : Int), (2 : Int), (6 : Int), (12 : Int)]).bind fun r3 => if (decide (r3.1.1 > r2.1.1)) = true then F39c7 k r3.2.1.1 r3.2.1.2.1 (0 : Int) (0 : Int) (0 : Int) r1.1.1 r2.1.1 r2.1.1 else F39c7 k r3.2.1.1 r3.2.1.2.1 (0 : Int) (0 : Int) (0 : Int) r1.1.1 r2.1.1 r3.1.1 else some (((r1.1.1, (0 : Int), (0 : Int), ()), ()), ((r1.2.1.1, r1.2.1.2.1, ()), ())) := by kernel_rfl
theorem F39c7_eq (k : Nat) (x0_0 : List Int) (x0_1 : Int) (x2_0 : Int) (x2_1 : Int) (x2_2 : Int) (x3 : Int) (x4 : Int) (x5 : Int) : F39c7 (k + 1) x0_0 x0_1 x2_0 x2_1 x2_2 x3 x4 x5 =
    some (((x3, x4, x5, ()), ()), ((x0_0, x0_1, ()), ())) := by kernel_rfl
theorem F62_eq (k : Nat) (a0 : ByteArray) (a1 : ByteArray) : F62 (k + 2) a0 a1 =
    if (decide ((a0.size : Int) ≥ (a1.size : Int))) = true then if (decide (0 ≤ (a1.size : Int)) && decide ((a1.size : Int) ≤ (a0.size : Int))) = true then some ((((a0.extract 0 ((a1.size : Int).toNat)).toList == a1.toList), ()), ((), (), ())) else none else some ((false, ()), ((), (), ())) := by kernel_rfl
theorem F63_eq (k : Nat) (a0 : ByteArray) (a1 : Int) (a2 : Int) : F63 (k + 2) a0 a1 a2 =
    F63c4 k a0 a1 a2 ([] : List ByteArray) (0 : Int) (0 : Int) := by kernel_rfl
theorem F63c4_eq (k : Nat) (x0 : ByteArray) (x1 : Int) (x2 : Int) (x7 : List ByteArray) (x8 : Int) (x9 : Int) : F63c4 (k + 1) x0 x1 x2 x7 x8 x9 =
    if (decide (x9 < (x0.size : Int))) = true then if (decide ((x7.length : Int) < x2)) = true then if (decide (0 ≤ x9)) = true then (x0[x9.toNat]?).bind fun u1 => if ((u1.toNat : Int) == x1) = true then if (decide (0 ≤ x8) && decide (x8 ≤ x9) && decide (x9 ≤ (x0.size : Int))) = true then if (decide (x7.length + [x0.extract x8.toNat x9.toNat].length ≤ 8796093022208)) = true then F63c5 k x0 x1 x2 (x7 ++ [x0.extract x8.toNat x9.toNat]) (IntKind.i64.wrap (x9 + (1 : Int))) x9 (x7.length : Int) x2 (decide ((x7.length : Int) < x2)) else none else none else F63c5 k x0 x1 x2 x7 x8 x9 (x7.length : Int) x2 (decide ((x7.length : Int) < x2)) else none else if (decide (0 ≤ x8) && decide (x8 ≤ (x0.size : Int))) = true then if (decide (x7.length + [x0.extract x8.toNat x0.size].length ≤ 8796093022208)) = true then some (((x7 ++ [x0.extract x8.toNat x0.size]), ()), ((), (), (), ())) else none else none else if (decide (0 ≤ x8) && decide (x8 ≤ (x0.size : Int))) = true then if (decide (x7.length + [x0.extract x8.toNat x0.size].length ≤ 8796093022208)) = true then some (((x7 ++ [x0.extract x8.toNat x0.size]), ()), ((), (), (), ())) else none else none := by kernel_rfl
theorem F63c5_eq (k : Nat) (x0 : ByteArray) (x1 : Int) (x2 : Int) (x7 : List ByteArray) (x8 : Int) (x9 : Int) (x17 : Int) (x18 : Int) (x19 : Bool) : F63c5 (k + 1) x0 x1 x2 x7 x8 x9 x17 x18 x19 =
    F63c4 k x0 x1 x2 x7 x8 (IntKind.i64.wrap (x9 + (1 : Int))) := by kernel_rfl
theorem F64_eq (k : Nat) (a0 : ByteArray) : F64 (k + 2) a0 =
    F64c3 k a0 (0 : Int) (0 : Int) := by kernel_rfl
theorem F64c3_eq (k : Nat) (x0 : ByteArray) (x3 : Int) (x4 : Int) : F64c3 (k + 1) x0 x3 x4 =
    if (decide (x4 < (x0.size : Int))) = true then if (decide (0 ≤ x4)) = true then (x0[x4.toNat]?).bind fun u1 => if (decide ((u1.toNat : Int) < (48 : Int))) = true then some (((-1 : Int), ()), ((), ())) else if (decide (0 ≤ x4)) = true then (x0[x4.toNat]?).bind fun u2 => if (decide ((u2.toNat : Int) > (57 : Int))) = true then some (((-1 : Int), ()), ((), ())) else if (decide (x4 ≥ (9 : Int))) = true then some (((-1 : Int), ()), ((), ())) else if (decide (0 ≤ x4)) = true then (x0[x4.toNat]?).bind fun u3 => F64c3 k x0 (IntKind.i64.wrap ((IntKind.i64.wrap (x3 * (10 : Int))) + (IntKind.i64.wrap (IntKind.u8.wrap ((u3.toNat : Int) - (48 : Int)))))) (IntKind.i64.wrap (x4 + (1 : Int))) else none else none else none else if ((x0.size : Int) == (0 : Int)) = true then some (((-1 : Int), ()), ((), ())) else if (decide ((x0.size : Int) > (1 : Int))) = true then (x0[0]?).bind fun u4 => if ((u4.toNat : Int) == (48 : Int)) = true then some (((-1 : Int), ()), ((), ())) else some ((x3, ()), ((), ())) else some ((x3, ()), ((), ())) := by kernel_rfl
theorem F66_eq (k : Nat) (a0 : ByteArray) (a1 : ByteArray) : F66 (k + 2) a0 a1 =
    (F87 k a0 a1).bind fun r1 => if r1.1.1 = true then if (decide (0 ≤ (IntKind.i64.wrap ((a0.size : Int) - (a1.size : Int)))) && decide ((IntKind.i64.wrap ((a0.size : Int) - (a1.size : Int))) ≤ (a0.size : Int))) = true then some ((a0.extract 0 ((IntKind.i64.wrap ((a0.size : Int) - (a1.size : Int))).toNat), ()), ((), (), ())) else none else some ((a0, ()), ((), (), ())) := by kernel_rfl
theorem F67_eq (k : Nat) (a0 : ByteArray) (a1 : ByteArray) : F67 (k + 2) a0 a1 =
    (F88 k a0 a1).bind fun r1 => if r1.1.1 = true then if (decide (0 ≤ (a1.size : Int)) && decide ((a1.size : Int) ≤ (a0.size : Int))) = true then some ((a0.extract ((a1.size : Int).toNat) a0.size, ()), ((), (), ())) else none else some ((a0, ()), ((), (), ())) := by kernel_rfl
theorem F70_eq (k : Nat) (a0_0 : List Int) (a0_1 : Int) (a1 : List Int) : F70 (k + 2) a0_0 a0_1 a1 =
    (F36 k a0_0 a0_1 (a1.length : Int)).bind fun r1 => if (decide (0 ≤ r1.1.1) && decide (r1.1.1 < (a1.length : Int))) = true then (a1[r1.1.1.toNat]?).bind fun y2 => some ((y2, ()), ((r1.2.1.1, r1.2.1.2.1, ()), (), ())) else none := by kernel_rfl
theorem F72_eq (k : Nat) (a0 : Int) (a1 : Int) (a2 : Int) : F72 (k + 2) a0 a1 a2 =
    if (decide (a0 ≥ a1)) = true then some ((decide (a0 ≤ a2), ()), ((), (), (), ())) else some ((false, ()), ((), (), (), ())) := by kernel_rfl
theorem F73_eq (k : Nat) (a0 : Int) : F73 (k + 2) a0 =
    if (decide (a0 < (-9223372036854775807 : Int))) = true then some (((⟨#[45, 57, 50, 50, 51, 51, 55, 50, 48, 51, 54, 56, 53, 52, 55, 55, 53, 56, 48, 56]⟩ : ByteArray), ()), ((), ())) else if (decide (a0 < (0 : Int))) = true then (F73 k (IntKind.i64.wrap (0 - a0))).bind fun r1 => if (Nat.ble ((⟨#[45]⟩ : ByteArray).size + r1.1.1.size) 9223372036854775807) = true then some ((((⟨#[45]⟩ : ByteArray) ++ r1.1.1), ()), ((), ())) else none else if (decide (a0 < (10 : Int))) = true then some (((bytesOf [(IntKind.u8.wrap (IntKind.i64.wrap ((48 : Int) + a0)))]), ()), ((), ())) else (F73 k (IntKind.i64.wrap (a0.tdiv (10 : Int)))).bind fun r2 => if (Nat.ble (r2.1.1.size + (bytesOf [(IntKind.u8.wrap (IntKind.i64.wrap ((48 : Int) + (a0.tmod (10 : Int)))))]).size) 9223372036854775807) = true then some (((r2.1.1 ++ (bytesOf [(IntKind.u8.wrap (IntKind.i64.wrap ((48 : Int) + (a0.tmod (10 : Int)))))])), ()), ((), ())) else none := by kernel_rfl
theorem F87_eq (k : Nat) (a0 : ByteArray) (a1 : ByteArray) : F87 (k + 2) a0 a1 =
    if (decide ((a0.size : Int) ≥ (a1.size : Int))) = true then if (decide (0 ≤ (IntKind.i64.wrap ((a0.size : Int) - (a1.size : Int)))) && decide ((IntKind.i64.wrap ((a0.size : Int) - (a1.size : Int))) ≤ (a0.size : Int))) = true then some ((((a0.extract ((IntKind.i64.wrap ((a0.size : Int) - (a1.size : Int))).toNat) a0.size).toList == a1.toList), ()), ((), (), ())) else none else some ((false, ()), ((), (), ())) := by kernel_rfl
theorem F88_eq (k : Nat) (a0 : ByteArray) (a1 : ByteArray) : F88 (k + 2) a0 a1 =
    if (decide ((a0.size : Int) ≥ (a1.size : Int))) = true then if (decide (0 ≤ (a1.size : Int)) && decide ((a1.size : Int) ≤ (a0.size : Int))) = true then some ((((a0.extract 0 ((a1.size : Int).toNat)).toList == a1.toList), ()), ((), (), ())) else none else some ((false, ()), ((), (), ())) := by kernel_rfl
end Go.Proofs.YtajbbnkomnfmlaaDoor.R
end

section
/-! Rf: what is to be shown of a law, with no machine in sight. -/
set_option autoImplicit false
namespace Go.Proofs.YtajbbnkomnfmlaaDoor.R
open Go.Rf
def PureFnExactTypeGet : Prop := ∀ (a0 : ByteArray), wfT .str a0 → ∃ k p, F3 k a0 = some ((true, ()), p)
end Go.Proofs.YtajbbnkomnfmlaaDoor.R
end

section
namespace Go.Proofs.YtajbbnkomnfmlaaDoor.Q
open Go.RowKit Go.Proofs.YtajbbnkomnfmlaaDoor.Q Go.Proofs.YtajbbnkomnfmlaaDoorW.PrintWords Go.Proofs.YtajbbnkomnfmlaaDoorW.PrintLast Go.Proofs.YtajbbnkomnfmlaaDoorW.PrintMore
set_option linter.unusedVariables false
set_option linter.unusedSimpArgs false
/-- The table that strconv reads is laid. -/
def Laid (w : World) : Prop := Lib.TabIs Tryd.prog w "internal/strconv.uint64pow10" .u64 Lib.pow10Tab
theorem gPow : ∃ g, Tryd.prog.globalNamed "internal/strconv.uint64pow10" = some g := Option.isSome_iff_exists.1 (by kernel_rfl)
end Go.Proofs.YtajbbnkomnfmlaaDoor.Q
end

section
namespace Go.Proofs
open Go.Shelf
def Tryd.laysM171_ren : Go.Shelf.Ren := ⟨fun | 171 => 32 | 243 => 71 | 246 => 94 | 283 => 105 | 284 => 106 | 285 => 107 | 286 => 108 | 129 => 114 | 317 => 113 | 318 => 115 | 319 => 116 | 320 => 117 | 337 => 118 | 338 => 119 | n => n, fun | 3 => 3 | 9 => 9 | 2 => 2 | 4 => 4 | 171 => 111 | 0 => 0 | 53 => 104 | 37 => 28 | 5 => 5 | 173 => 114 | 212 => 124 | 51 => 116 | 20 => 20 | 213 => 125 | 46 => 103 | 232 => 128 | 233 => 129 | n => n, fun | 17 => 4 | 18 => 5 | 19 => 6 | n => n⟩
theorem Tryd.laysM171 : Go.Proofs.LaysM.n171 Tryd.prog Tryd.laysM171_ren := {
  mixed := by kernel_rfl
  f129 := Tryd.func114.trans (congrArg some (by kernel_rfl))
  f171 := Tryd.func32.trans (congrArg some (by kernel_rfl))
  f243 := Tryd.func71.trans (congrArg some (by kernel_rfl))
  f246 := Tryd.func94.trans (congrArg some (by kernel_rfl))
  f283 := Tryd.func105.trans (congrArg some (by kernel_rfl))
  f284 := Tryd.func106.trans (congrArg some (by kernel_rfl))
  f285 := Tryd.func107.trans (congrArg some (by kernel_rfl))
  f286 := Tryd.func108.trans (congrArg some (by kernel_rfl))
  f317 := Tryd.func113.trans (congrArg some (by kernel_rfl))
  f318 := Tryd.func115.trans (congrArg some (by kernel_rfl))
  f319 := Tryd.func116.trans (congrArg some (by kernel_rfl))
  f320 := Tryd.func117.trans (congrArg some (by kernel_rfl))
  f337 := Tryd.func118.trans (congrArg some (by kernel_rfl))
  f338 := Tryd.func119.trans (congrArg some (by kernel_rfl))
  t0 := Tryd.underlying0
  a0 := Tryd.isAgg0
  z0 := Tryd.sizeOf0
  v0 := Tryd.zeroValue0
  t2 := Tryd.underlying2
  a2 := Tryd.isAgg2
  z2 := Tryd.sizeOf2
  v2 := Tryd.zeroValue2
  t3 := Tryd.underlying3
  a3 := Tryd.isAgg3
  z3 := Tryd.sizeOf3
  v3 := Tryd.zeroValue3
  t4 := Tryd.underlying4
  a4 := Tryd.isAgg4
  z4 := Tryd.sizeOf4
  v4 := Tryd.zeroValue4
  t5 := Tryd.underlying5
  a5 := Tryd.isAgg5
  z5 := Tryd.sizeOf5
  v5 := Tryd.zeroValue5
  t9 := Tryd.underlying9
  a9 := Tryd.isAgg9
  z9 := Tryd.sizeOf9
  v9 := Tryd.zeroValue9
  t20 := Tryd.underlying20
  a20 := Tryd.isAgg20
  z20 := Tryd.sizeOf20
  v20 := Tryd.zeroValue20
  t37 := Tryd.underlying28
  a37 := Tryd.isAgg28
  z37 := Tryd.sizeOf28
  v37 := Tryd.zeroValue28
  t46 := Tryd.underlying103
  a46 := Tryd.isAgg103
  z46 := Tryd.sizeOf103
  v46 := Tryd.zeroValue103
  t51 := Tryd.underlying116
  a51 := Tryd.isAgg116
  z51 := Tryd.sizeOf116
  v51 := Tryd.zeroValue116
  t53 := Tryd.underlying104
  a53 := Tryd.isAgg104
  z53 := Tryd.sizeOf104
  v53 := Tryd.zeroValue104
  t171 := Tryd.underlying111
  a171 := Tryd.isAgg111
  z171 := Tryd.sizeOf111
  v171 := Tryd.zeroValue111
  t173 := Tryd.underlying114
  a173 := Tryd.isAgg114
  z173 := Tryd.sizeOf114
  v173 := Tryd.zeroValue114
  t212 := Tryd.underlying124
  a212 := Tryd.isAgg124
  z212 := Tryd.sizeOf124
  v212 := Tryd.zeroValue124
  t213 := Tryd.underlying125
  a213 := Tryd.isAgg125
  z213 := Tryd.sizeOf125
  t232 := Tryd.underlying128
  a232 := Tryd.isAgg128
  z232 := Tryd.sizeOf128
  v232 := Tryd.zeroValue128
  t233 := Tryd.underlying129
  a233 := Tryd.isAgg129
  z233 := Tryd.sizeOf129
  v233 := Tryd.zeroValue129
  g17 := by kernel_rfl
  g18 := by kernel_rfl
  g19 := by kernel_rfl
  i0 := by kernel_rfl
  i2 := by kernel_rfl
  i3 := by kernel_rfl
  i4 := by kernel_rfl
  i5 := by kernel_rfl
  i9 := by kernel_rfl
  i20 := by kernel_rfl
  i37 := by kernel_rfl
  i46 := by kernel_rfl
  i51 := by kernel_rfl
  i53 := by kernel_rfl
  i171 := by kernel_rfl
  i173 := by kernel_rfl
  i212 := by kernel_rfl
  i232 := by kernel_rfl
  i233 := by kernel_rfl
  m17 := by kernel_rfl
  m18 := by kernel_rfl
  m19 := by kernel_rfl }
open Go.RowKit Go.Sort Go.Lib in
/-- strconv.Itoa: "Itoa is equivalent to FormatInt(int64(i), 10).": i's DECIMAL NUMERAL ('Lib.itoa': a '-' where i is negative, then the digits), FOR EVERY int. The world behind the call: the world before it, new blocks behind the heap (the library's 'var a [24]byte'), draws. (LAID: no walk: one application.) -/
theorem Tryd.strconv_Itoa (n : Int) (h0 : -9223372036854775808 ≤ n) (h1 : n ≤ 9223372036854775807) (w : World) (htab : Lib.TabIs Tryd.prog w "internal/strconv.uint64pow10" .u64 Lib.pow10Tab) :
    Calls Tryd.prog 32 #[.int .i64 n] w fun e w' => e = .returned (.string ⟨(Lib.itoa n).toArray⟩) ∧ ∃ k os, w' = grow (w.drewN k) os := Any.strconv_Itoa Tryd.laysM171 n h0 h1 w htab
def Tryd.laysC172_ren : Go.Shelf.Ren := ⟨fun | 172 => 29 | 244 => 68 | 245 => 69 | 247 => 89 | 279 => 90 | 280 => 91 | 281 => 92 | 282 => 93 | 287 => 102 | 316 => 103 | 171 => 32 | 205 => 104 | 321 => 111 | 322 => 112 | 243 => 71 | 246 => 94 | 283 => 105 | 284 => 106 | 285 => 107 | 286 => 108 | 129 => 114 | 317 => 113 | 318 => 115 | 319 => 116 | 320 => 117 | 337 => 118 | 338 => 119 | n => n, fun | 9 => 9 | 3 => 3 | 75 => 51 | 76 => 52 | 4 => 4 | 5 => 5 | 167 => 91 | 37 => 28 | 0 => 0 | 85 => 92 | 2 => 2 | 168 => 94 | 53 => 104 | 175 => 105 | 46 => 103 | 210 => 109 | 127 => 87 | 145 => 122 | 143 => 120 | 21 => 21 | 171 => 111 | 173 => 114 | 212 => 124 | 51 => 116 | 20 => 20 | 213 => 125 | 232 => 128 | 233 => 129 | 80 => 71 | n => n, fun | 15 => 2 | 16 => 3 | 17 => 4 | 18 => 5 | 19 => 6 | n => n⟩
theorem Tryd.laysC172 : Go.Proofs.LaysC.n172 Tryd.prog Tryd.laysC172_ren := {
  mixed := by kernel_rfl
  f129 := Tryd.func114.trans (congrArg some (by kernel_rfl))
  f171 := Tryd.func32.trans (congrArg some (by kernel_rfl))
  f172 := Tryd.func29.trans (congrArg some (by kernel_rfl))
  f205 := Tryd.func104.trans (congrArg some (by kernel_rfl))
  f243 := Tryd.func71.trans (congrArg some (by kernel_rfl))
  f244 := Tryd.func68.trans (congrArg some (by kernel_rfl))
  f245 := Tryd.func69.trans (congrArg some (by kernel_rfl))
  f246 := Tryd.func94.trans (congrArg some (by kernel_rfl))
  f247 := Tryd.func89.trans (congrArg some (by kernel_rfl))
  f279 := Tryd.func90.trans (congrArg some (by kernel_rfl))
  f280 := Tryd.func91.trans (congrArg some (by kernel_rfl))
  f281 := Tryd.func92.trans (congrArg some (by kernel_rfl))
  f282 := Tryd.func93.trans (congrArg some (by kernel_rfl))
  f283 := Tryd.func105.trans (congrArg some (by kernel_rfl))
  f284 := Tryd.func106.trans (congrArg some (by kernel_rfl))
  f285 := Tryd.func107.trans (congrArg some (by kernel_rfl))
  f286 := Tryd.func108.trans (congrArg some (by kernel_rfl))
  f287 := Tryd.func102.trans (congrArg some (by kernel_rfl))
  f316 := Tryd.func103.trans (congrArg some (by kernel_rfl))
  f317 := Tryd.func113.trans (congrArg some (by kernel_rfl))
  f318 := Tryd.func115.trans (congrArg some (by kernel_rfl))
  f319 := Tryd.func116.trans (congrArg some (by kernel_rfl))
  f320 := Tryd.func117.trans (congrArg some (by kernel_rfl))
  f321 := Tryd.func111.trans (congrArg some (by kernel_rfl))
  f322 := Tryd.func112.trans (congrArg some (by kernel_rfl))
  f337 := Tryd.func118.trans (congrArg some (by kernel_rfl))
  f338 := Tryd.func119.trans (congrArg some (by kernel_rfl))
  t0 := Tryd.underlying0
  a0 := Tryd.isAgg0
  z0 := Tryd.sizeOf0
  v0 := Tryd.zeroValue0
  t2 := Tryd.underlying2
  a2 := Tryd.isAgg2
  z2 := Tryd.sizeOf2
  v2 := Tryd.zeroValue2
  t3 := Tryd.underlying3
  a3 := Tryd.isAgg3
  z3 := Tryd.sizeOf3
  v3 := Tryd.zeroValue3
  t4 := Tryd.underlying4
  a4 := Tryd.isAgg4
  z4 := Tryd.sizeOf4
  v4 := Tryd.zeroValue4
  t5 := Tryd.underlying5
  a5 := Tryd.isAgg5
  z5 := Tryd.sizeOf5
  v5 := Tryd.zeroValue5
  t9 := Tryd.underlying9
  a9 := Tryd.isAgg9
  z9 := Tryd.sizeOf9
  v9 := Tryd.zeroValue9
  t20 := Tryd.underlying20
  a20 := Tryd.isAgg20
  z20 := Tryd.sizeOf20
  v20 := Tryd.zeroValue20
  t21 := Tryd.underlying21
  a21 := Tryd.isAgg21
  z21 := Tryd.sizeOf21
  v21 := Tryd.zeroValue21
  t37 := Tryd.underlying28
  a37 := Tryd.isAgg28
  z37 := Tryd.sizeOf28
  v37 := Tryd.zeroValue28
  t46 := Tryd.underlying103
  a46 := Tryd.isAgg103
  z46 := Tryd.sizeOf103
  v46 := Tryd.zeroValue103
  t51 := Tryd.underlying116
  a51 := Tryd.isAgg116
  z51 := Tryd.sizeOf116
  v51 := Tryd.zeroValue116
  t53 := Tryd.underlying104
  a53 := Tryd.isAgg104
  z53 := Tryd.sizeOf104
  v53 := Tryd.zeroValue104
  t75 := Tryd.underlying51
  a75 := Tryd.isAgg51
  z75 := Tryd.sizeOf51
  v75 := Tryd.zeroValue51
  t76 := Tryd.underlying52
  a76 := Tryd.isAgg52
  z76 := Tryd.sizeOf52
  v76 := Tryd.zeroValue52
  t85 := Tryd.underlying92
  a85 := Tryd.isAgg92
  z85 := Tryd.sizeOf92
  v85 := Tryd.zeroValue92
  t127 := Tryd.underlying87
  a127 := Tryd.isAgg87
  z127 := Tryd.sizeOf87
  v127 := Tryd.zeroValue87
  t143 := Tryd.underlying120
  a143 := Tryd.isAgg120
  z143 := Tryd.sizeOf120
  v143 := Tryd.zeroValue120
  t145 := Tryd.underlying122
  a145 := Tryd.isAgg122
  z145 := Tryd.sizeOf122
  v145 := Tryd.zeroValue122
  t167 := Tryd.underlying91
  a167 := Tryd.isAgg91
  z167 := Tryd.sizeOf91
  v167 := Tryd.zeroValue91
  t168 := Tryd.underlying94
  a168 := Tryd.isAgg94
  z168 := Tryd.sizeOf94
  v168 := Tryd.zeroValue94
  t171 := Tryd.underlying111
  a171 := Tryd.isAgg111
  z171 := Tryd.sizeOf111
  v171 := Tryd.zeroValue111
  t173 := Tryd.underlying114
  a173 := Tryd.isAgg114
  z173 := Tryd.sizeOf114
  v173 := Tryd.zeroValue114
  t175 := Tryd.underlying105
  a175 := Tryd.isAgg105
  z175 := Tryd.sizeOf105
  v175 := Tryd.zeroValue105
  t210 := Tryd.underlying109
  a210 := Tryd.isAgg109
  z210 := Tryd.sizeOf109
  v210 := Tryd.zeroValue109
  t212 := Tryd.underlying124
  a212 := Tryd.isAgg124
  z212 := Tryd.sizeOf124
  v212 := Tryd.zeroValue124
  t213 := Tryd.underlying125
  a213 := Tryd.isAgg125
  z213 := Tryd.sizeOf125
  t232 := Tryd.underlying128
  a232 := Tryd.isAgg128
  z232 := Tryd.sizeOf128
  v232 := Tryd.zeroValue128
  t233 := Tryd.underlying129
  a233 := Tryd.isAgg129
  z233 := Tryd.sizeOf129
  v233 := Tryd.zeroValue129
  g15 := by kernel_rfl
  g16 := by kernel_rfl
  g17 := by kernel_rfl
  g18 := by kernel_rfl
  g19 := by kernel_rfl
  t80 := Tryd.underlying71
  a80 := Tryd.isAgg71
  z80 := Tryd.sizeOf71
  v80 := Tryd.zeroValue71
  i0 := by kernel_rfl
  i2 := by kernel_rfl
  i3 := by kernel_rfl
  i4 := by kernel_rfl
  i5 := by kernel_rfl
  i9 := by kernel_rfl
  i20 := by kernel_rfl
  i21 := by kernel_rfl
  i37 := by kernel_rfl
  i46 := by kernel_rfl
  i51 := by kernel_rfl
  i53 := by kernel_rfl
  i75 := by kernel_rfl
  i76 := by kernel_rfl
  i80 := by kernel_rfl
  i85 := by kernel_rfl
  i127 := by kernel_rfl
  i143 := by kernel_rfl
  i145 := by kernel_rfl
  i167 := by kernel_rfl
  i168 := by kernel_rfl
  i171 := by kernel_rfl
  i173 := by kernel_rfl
  i175 := by kernel_rfl
  i210 := by kernel_rfl
  i212 := by kernel_rfl
  i232 := by kernel_rfl
  i233 := by kernel_rfl
  m15 := by kernel_rfl
  m16 := by kernel_rfl
  m17 := by kernel_rfl
  m18 := by kernel_rfl
  m19 := by kernel_rfl
  c0 := by kernel_rfl
  c2 := by kernel_rfl
  c3 := by kernel_rfl
  c4 := by kernel_rfl
  c5 := by kernel_rfl
  c9 := by kernel_rfl
  c20 := by kernel_rfl
  c21 := by kernel_rfl
  c37 := by kernel_rfl
  c46 := by kernel_rfl
  c51 := by kernel_rfl
  c53 := by kernel_rfl
  c75 := by kernel_rfl
  c76 := by kernel_rfl
  c80 := by kernel_rfl
  c85 := by kernel_rfl
  c127 := by kernel_rfl
  c143 := by kernel_rfl
  c145 := by kernel_rfl
  c167 := by kernel_rfl
  c168 := by kernel_rfl
  c171 := by kernel_rfl
  c173 := by kernel_rfl
  c175 := by kernel_rfl
  c210 := by kernel_rfl
  c212 := by kernel_rfl
  c213 := by kernel_rfl
  c232 := by kernel_rfl
  c233 := by kernel_rfl }
open Go.RowKit in
/-- strconv.Atoi, AT EVERY STRING THAT SPELLS AN int ('Lib.atoiAll .. = .ok v'; of whatever length: leading zeros count): v, AND NO ERROR. The world: as it was, or with the one new row that '[]byte(..)' lays. (LAID: no walk: one application.) -/
theorem Tryd.strconv_Atoi_ok (s : ByteArray) (hmax : s.size ≤ 9223372036854775806) (v : Int) (h : Lib.atoiAll s.data.toList = .ok v) (w : World) :
    Calls Tryd.prog 29 #[.string s] w fun e w' => e = .returned (.tuple #[.int .i64 v, .nilIface]) ∧ (w' = w ∨ ∃ t, w' = Lib.bytesWorld w 5 t) := Any.strconv_Atoi_ok Tryd.laysC172 s hmax v h w
open Go.RowKit in
/-- strconv.Atoi, AT EVERY STRING THAT IS NO DECIMAL NUMERAL : 0, AND AN ERROR THAT IS NOT nil: a *NumError in a new block N: {Func: "Atoi", Num: s's bytes, Err: what the variable ErrSyntax holds}. Of what was there nothing has turned. (LAID: no walk: one application.) -/
theorem Tryd.strconv_Atoi_syntax (s : ByteArray) (hlim : s.size ≤ 281474976710656) (h : Lib.atoiAll s.data.toList = (Lib.atoiAll [])) (ev : Value) (w : World) (hv : w.cell? ⟨2, 0, none⟩ = some ev) (hev : ev = .nilIface ∨ ∃ te pe, ev = .iface te pe) :
    Calls Tryd.prog 29 #[.string s] w fun e w' => ∃ N, e = .returned (.tuple #[.int .i64 (0), .iface 94 (.pointer (some ⟨N, 0, none⟩))]) ∧ w.heap.size ≤ N ∧ w'.heap[N]? = some (.cells #[.string ⟨#[65, 116, 111, 105]⟩, .string s, ev] 109 (0, 0)) ∧ Below w.heap.size w w' := Any.strconv_Atoi_syntax Tryd.laysC172 s hlim h ev w hv hev
open Go.RowKit in
/-- strconv.Atoi, AT EVERY NUMERAL THAT NO int HOLDS ('.range'): THE GREATEST OR THE LEAST int, BY THE SIGN ('Lib.atoiSat'), AND AN ERROR THAT IS NOT nil: a *NumError in a new block N: {Func: "Atoi", Num: s's bytes, Err: what the variable ErrRange holds}. Of what was there nothing has turned. (LAID: no walk: one application.) -/
theorem Tryd.strconv_Atoi_range (s : ByteArray) (hlim : s.size ≤ 281474976710656) (h : Lib.atoiAll s.data.toList = .range) (ev : Value) (w : World) (hv : w.cell? ⟨3, 0, none⟩ = some ev) (hev : ev = .nilIface ∨ ∃ te pe, ev = .iface te pe) :
    Calls Tryd.prog 29 #[.string s] w fun e w' => ∃ N, e = .returned (.tuple #[.int .i64 (Lib.atoiSat s.data.toList), .iface 94 (.pointer (some ⟨N, 0, none⟩))]) ∧ w.heap.size ≤ N ∧ w'.heap[N]? = some (.cells #[.string ⟨#[65, 116, 111, 105]⟩, .string s, ev] 109 (0, 0)) ∧ Below w.heap.size w w' := Any.strconv_Atoi_range Tryd.laysC172 s hlim h ev w hv hev
def Tryd.lays145_ren : Go.Shelf.Ren := ⟨fun | 145 => 26 | 220 => 65 | 219 => 86 | 217 => 98 | 225 => 99 | 224 => 100 | 267 => 101 | 266 => 109 | 314 => 110 | n => n, fun | 9 => 9 | 4 => 4 | 59 => 47 | 3 => 3 | 5 => 5 | 46 => 103 | 146 => 117 | 51 => 116 | n => n, fun | 1 => 1 | n => n⟩
theorem Tryd.lays145 : Go.Proofs.Lays.n145 Tryd.prog Tryd.lays145_ren := {
  mixed := by kernel_rfl
  f145 := Tryd.func26.trans (congrArg some (by kernel_rfl))
  f217 := Tryd.func98.trans (congrArg some (by kernel_rfl))
  f219 := Tryd.func86.trans (congrArg some (by kernel_rfl))
  f220 := Tryd.func65.trans (congrArg some (by kernel_rfl))
  f224 := Tryd.func100.trans (congrArg some (by kernel_rfl))
  f225 := Tryd.func99.trans (congrArg some (by kernel_rfl))
  f266 := Tryd.func109.trans (congrArg some (by kernel_rfl))
  f267 := Tryd.func101.trans (congrArg some (by kernel_rfl))
  f314 := Tryd.func110.trans (congrArg some (by kernel_rfl))
  t3 := Tryd.underlying3
  a3 := Tryd.isAgg3
  z3 := Tryd.sizeOf3
  v3 := Tryd.zeroValue3
  t4 := Tryd.underlying4
  a4 := Tryd.isAgg4
  z4 := Tryd.sizeOf4
  v4 := Tryd.zeroValue4
  t5 := Tryd.underlying5
  a5 := Tryd.isAgg5
  z5 := Tryd.sizeOf5
  v5 := Tryd.zeroValue5
  t9 := Tryd.underlying9
  a9 := Tryd.isAgg9
  z9 := Tryd.sizeOf9
  v9 := Tryd.zeroValue9
  t46 := Tryd.underlying103
  a46 := Tryd.isAgg103
  z46 := Tryd.sizeOf103
  v46 := Tryd.zeroValue103
  t51 := Tryd.underlying116
  a51 := Tryd.isAgg116
  z51 := Tryd.sizeOf116
  v51 := Tryd.zeroValue116
  t59 := Tryd.underlying47
  a59 := Tryd.isAgg47
  z59 := Tryd.sizeOf47
  v59 := Tryd.zeroValue47
  t146 := Tryd.underlying117
  a146 := Tryd.isAgg117
  z146 := Tryd.sizeOf117
  v146 := Tryd.zeroValue117
  g1 := by kernel_rfl }
open Go.RowKit Go.Lib in
/-- strings.Cut: "Cut slices s around the first instance of sep, returning the text before and after sep. The found result reports whether sep appears in s. If sep does not appear in s, cut returns s, "", false.": IT RETURNS 'Lib.cut s sep'; the world is as it was but for the count of draws. (LAID: no walk: one application.) -/
theorem Tryd.strings_Cut (s sep : ByteArray) (m : Int) (w : World) (hs : s.size < 4294967281) (hm : w.cell? ⟨1, 0, none⟩ = some (.int .i64 m)) :
    Calls Tryd.prog 26 #[.string s, .string sep] w fun e w' => e = .returned (.tuple #[.string ⟨(Lib.cut s.data.toList sep.data.toList).1.toArray⟩, .string ⟨(Lib.cut s.data.toList sep.data.toList).2.1.toArray⟩, .bool (Lib.cut s.data.toList sep.data.toList).2.2]) ∧ ∃ n, w' = w.drewN n := Any.strings_Cut Tryd.lays145 s sep m w hs hm
end Go.Proofs
end

section
/-! Rf: what the contracts of the library say is what the run takes them to say. -/
set_option autoImplicit false
namespace Go.Proofs.YtajbbnkomnfmlaaDoor.R
open Go.Rf Go.RowKit
theorem ans_below {sp : Go.Rf.Spec} {out : sp.Out} {w w' : World} {Z : Nat → Prop} {args rvs : List Value} (hZ : ∀ b, Z b → b < w.heap.size) (hb : Below w.heap.size w w') (hr : ShsRep w' Z sp.rs out.1 rvs []) (hp : PostRep w w' Z sp.ps out.2 args []) :
    AnsS sp out w Z args [] (.returned (tupV rvs)) w' :=
  ⟨rvs, Z, [], [], rfl, hr, hp, by simp, (fun b hb => by cases hb), (fun b hb => hb), fun b hz => ⟨Nat.lt_of_lt_of_le (hZ b hz) hb.size, .inl hz⟩, ⟨hb.os, hb.tape, hb.output, hb.size, fun b hlt _ => hb.block b hlt, fun b o ho _ => (hb.block b (Array.getElem?_eq_some_iff.1 ho).1).trans ho⟩⟩
/-- two arguments of one cell each -/
theorem two_args {w : World} {Z : Nat → Prop} {s t : T} {x : s.D} {y : t.D} {args : List Value} {fp : List Nat} (h : ShsRep w Z [.c (.v s), .c (.v t)] (x, y, ()) args fp) : ∃ u v, args = [u, v] ∧ fp = [] ∧ rep w Z s x [u] ∧ rep w Z t y [v] := by
  match args, h with
  | [v1, v2], ⟨f, g, hfp, ⟨hv, hf⟩, ⟨f2, g2, hg2, ⟨hv2, hf2⟩, hg⟩⟩ =>
    obtain rfl : f = [] := hf
    obtain rfl : f2 = [] := hf2
    obtain rfl : g2 = [] := hg
    obtain rfl : g = [] := hg2
    obtain rfl : fp = [] := hfp
    exact ⟨v1, v2, rfl, rfl, hv, hv2⟩
theorem one_arg {w : World} {Z : Nat → Prop} {s : T} {x : s.D} {args : List Value} {fp : List Nat} (h : ShsRep w Z [.c (.v s)] (x, ()) args fp) : ∃ u, args = [u] ∧ fp = [] ∧ rep w Z s x [u] := by
  match args, h with
  | [v1], ⟨f, g, hfp, ⟨hv, hf⟩, hg⟩ =>
    obtain rfl : f = [] := hf
    obtain rfl : g = [] := hg
    obtain rfl : fp = [] := hfp
    exact ⟨v1, rfl, rfl, hv⟩
theorem str_arg {w : World} {Z : Nat → Prop} {s : ByteArray} {v : Value} (h : rep w Z .str s [v]) : v = .string s := (List.cons.inj (show [v] = [Value.string s] from h)).1
theorem int_arg {w : World} {Z : Nat → Prop} {k : IntKind} {n : Int} {v : Value} (h : rep w Z (.int k) n [v]) : v = .int k n := (List.cons.inj (show [v] = [Value.int k n] from h)).1
theorem post_two {w w' : World} {Z : Nat → Prop} {s t : T} {u v : Value} : PostRep w w' Z [.c (.v s), .c (.v t)] ((), (), ()) [u, v] [] := ⟨[], [], rfl, rfl, ⟨[], [], rfl, rfl, rfl⟩⟩
theorem post_one {w w' : World} {Z : Nat → Prop} {s : T} {u : Value} : PostRep w w' Z [.c (.v s)] ((), ()) [u] [] := ⟨[], [], rfl, rfl, rfl⟩
theorem gPow : Tryd.prog.globalNamed "internal/strconv.uint64pow10" = some powG := by kernel_rfl
theorem laid_of {w : World} {Z : Nat → Prop} (h : GL cx w Z) : Q.Laid w := by
  obtain ⟨_, cs, t, fz, hh, rfl⟩ := h.2 powG (fun cs => cs = powCells) (by show objsR powG = _; unfold objsR; simp)
  unfold Q.Laid Lib.TabIs World.var?
  rw [gPow, Option.bind_some, hh]
  rfl
theorem gMax : Tryd.prog.globalNamed "internal/bytealg.MaxLen" = some maxG := by kernel_rfl
theorem cut_contract (inp : (cx.spec 26).In) (out : (cx.spec 26).Out) (h : cutR inp = some out) : Contract cx 26 inp out := by
  obtain ⟨a, b, u⟩ := inp
  unfold cutR at h
  dsimp only at h
  obtain ⟨h1, h2⟩ := Go.Rf.cond_some h
  obtain rfl := Option.some.inj h2
  intro w Z args fp hrep _ _ hZ hGL
  obtain ⟨v1, v2, rfl, rfl, hv1, hv2⟩ := two_args hrep
  obtain rfl := str_arg hv1
  obtain rfl := str_arg hv2
  obtain ⟨_, cs, t, fz, hh, m, hm⟩ := hGL.2 maxG (fun cs => ∃ m, cs[0]? = some (.int .i64 m)) (by show objsR maxG = _; unfold objsR; simp [maxG, powG])
  refine (Tryd.strings_Cut a b m w (Nat.lt_of_lt_of_le (Nat.lt_of_succ_le (Nat.le_of_ble_eq_true h1)) (Nat.le_refl _)) (by show w.cell? ⟨maxG, 0, none⟩ = _; unfold World.cell?; rw [hh]; simpa using hm)).mono ?_
  rintro e w' ⟨rfl, n, rfl⟩
  exact ans_below (rvs := [.string _, .string _, .bool _]) hZ (show Below w.heap.size w (w.drewN n) from ⟨rfl, rfl, rfl, Nat.le_refl _, (Below.refl w.heap.size w).block⟩) ⟨[], [], rfl, ⟨rfl, rfl⟩, ⟨[], [], rfl, ⟨rfl, rfl⟩, ⟨[], [], rfl, ⟨rfl, rfl⟩, rfl⟩⟩⟩ post_two
theorem err_cell {w : World} {Z : Nat → Prop} (h : GL cx w Z) {g : Nat} (hg : g = synG ∨ g = ranG) : ∃ ev, w.cell? ⟨g, 0, none⟩ = some ev ∧ (ev = .nilIface ∨ ∃ te pe, ev = .iface te pe) := by
  obtain ⟨_, cs, t, fz, hh, ev, he, hev⟩ := h.2 g (fun cs => ∃ ev, cs[0]? = some ev ∧ (ev = .nilIface ∨ ∃ te pe, ev = .iface te pe)) (by
    show objsR g = _
    rcases hg with rfl | rfl <;> kernel_rfl)
  exact ⟨ev, by unfold World.cell?; rw [hh]; simpa using he, hev⟩
theorem atoia_contract (inp : (cx.spec 29).In) (out : (cx.spec 29).Out) (h : atoiaR inp = some out) : Contract cx 29 inp out := by
  obtain ⟨s, u⟩ := inp
  unfold atoiaR at h
  dsimp only at h
  obtain ⟨h1, h2⟩ := Go.Rf.cond_some h
  have h1 := Nat.le_of_ble_eq_true h1
  intro w Z args fp hrep _ _ hZ hGL
  obtain ⟨v, rfl, rfl, hv⟩ := one_arg hrep
  obtain rfl := str_arg hv
  cases hn : Lib.atoiAll s.data.toList with
  | ok n =>
    rw [hn] at h2
    obtain rfl := Option.some.inj h2
    refine (Tryd.strconv_Atoi_ok s (by omega) n hn w).mono ?_
    rintro e w' ⟨rfl, hw⟩
    have hb : Below w.heap.size w w' := by
      rcases hw with rfl | ⟨t, rfl⟩
      · exact Below.refl _ _
      · exact Lib.bytesWorld_below _ _ _
    exact ans_below (rvs := [.int .i64 n, .nilIface]) hZ hb ⟨[], [], rfl, ⟨rfl, rfl⟩, ⟨[], [], rfl, ⟨.inl ⟨rfl, rfl⟩, rfl⟩, rfl⟩⟩ post_one
  | range =>
    rw [hn] at h2
    obtain rfl := Option.some.inj h2
    obtain ⟨ev, hc, hev⟩ := err_cell hGL (.inr rfl)
    refine (Tryd.strconv_Atoi_range s h1 hn ev w hc hev).mono ?_
    rintro e w' ⟨N, rfl, _, _, hb⟩
    exact ans_below (rvs := [.int .i64 _, .iface _ _]) hZ hb ⟨[], [], rfl, ⟨rfl, rfl⟩, ⟨[], [], rfl, ⟨.inr ⟨rfl, _, _, rfl⟩, rfl⟩, rfl⟩⟩ post_one
  | _ =>
    rw [hn] at h2
    obtain rfl := Option.some.inj h2
    obtain ⟨ev, hc, hev⟩ := err_cell hGL (.inl rfl)
    refine (Tryd.strconv_Atoi_syntax s h1 hn ev w hc hev).mono ?_
    rintro e w' ⟨N, rfl, _, _, hb⟩
    exact ans_below (rvs := [.int .i64 0, .iface _ _]) hZ hb ⟨[], [], rfl, ⟨rfl, rfl⟩, ⟨[], [], rfl, ⟨.inr ⟨rfl, _, _, rfl⟩, rfl⟩, rfl⟩⟩ post_one
theorem itoa_contract (inp : (cx.spec 32).In) (out : (cx.spec 32).Out) (h : itoaR inp = some out) : Contract cx 32 inp out := by
  obtain ⟨n, u⟩ := inp
  unfold itoaR at h
  dsimp only at h
  obtain ⟨h1, h2⟩ := Go.Rf.cond_some h
  obtain rfl := Option.some.inj h2
  simp only [Bool.and_eq_true, decide_eq_true_eq] at h1
  intro w Z args fp hrep _ _ hZ hGL
  obtain ⟨v, rfl, rfl, hv⟩ := one_arg hrep
  obtain rfl := int_arg hv
  refine (Tryd.strconv_Itoa n h1.1 h1.2 w (laid_of hGL)).mono ?_
  rintro e w' ⟨rfl, k, os, rfl⟩
  exact ans_below (rvs := [.string _]) hZ (Go.Lib.below_grow _ _ (Nat.le_refl _) _ _) ⟨[], [], rfl, ⟨rfl, rfl⟩, rfl⟩ post_one
theorem told (k f : Nat) (inp : (cx.spec f).In) (out : (cx.spec f).Out) (h : callF cx k f inp = some out) : Go.Rf.Contract cx f inp out := (Go.Rf.run_ok good (fun f g inp out h h2 => by
  have h : extR f = some g := h
  by_cases e26 : f = 26
  · subst e26
    obtain rfl := Option.some.inj h
    exact cut_contract inp out h2
  by_cases e29 : f = 29
  · subst e29
    obtain rfl := Option.some.inj h
    exact atoia_contract inp out h2
  by_cases e32 : f = 32
  · subst e32
    obtain rfl := Option.some.inj h
    exact itoa_contract inp out h2
  · exfalso
    unfold extR at h
    split at h
    · exact e26 rfl
    · exact e29 rfl
    · exact e32 rfl
    · cases h) k).1 f inp out h
end Go.Proofs.YtajbbnkomnfmlaaDoor.R
end

section
/-! Rf: the row of a law, out of its pure statement. -/
set_option autoImplicit false
namespace Go.Proofs.YtajbbnkomnfmlaaDoor.fnExactTypeGet
open Go.Rf Go.Proofs.YtajbbnkomnfmlaaDoor.R Go.ChangeShapes Go.WideShapes Go.ChangeAt Go.RowKit
set_option linter.unusedVariables false
theorem walk (P : PureFnExactTypeGet) (w : World) (hGL : GL cx w (Here w)) (v0 : Value) (y0 : (vSh ⟨false, [.str], [], 16⟩).D) (h0 : ShRep w (Here w) (vSh ⟨false, [.str], [], 16⟩) y0 v0 []) (w0 : shWf (vSh ⟨false, [.str], [], 16⟩) y0) :
    Calls Tryd.prog 3 #[v0] w fun e w' => e = .returned (.bool true) ∧ Below w.heap.size w w' := by
  obtain ⟨k, p, h⟩ := P y0 w0
  have h' : callF cx k 3 (y0, ()) = some ((true, ()), p) := h
  have hr : ShsRep w (Here w) (cx.spec 3).ps (y0, ()) [v0] [] := ⟨[], [], rfl, h0, rfl⟩
  exact law_calls (told k 3 _ _ h') hr hGL (fun w' Z vs fp h => res_bool h)
theorem own : ownKnob Tryd.prog.godebug = none := by kernel_rfl
theorem laidOut : laidOutB Tryd.prog = true := by kernel_rfl
/-- what the row lists -/
def laidL : List (String × DataW Unit) := [("math/bits.deBruijn32tab", Rows.laid_math_bits_deBruijn32tab), ("math/bits.deBruijn64tab", Rows.laid_math_bits_deBruijn64tab), ("internal/strconv.uint64pow10", Rows.laid_internal_strconv_uint64pow10), ("strconv.ErrRange", Rows.laid_strconv_ErrRange), ("strconv.ErrSyntax", Rows.laid_strconv_ErrSyntax), ("loop.example/jetton/impl.typeNames", Rows.laid_loop_example_jetton_impl_typeNames)]
theorem pow_data : (Rows.laid_internal_strconv_uint64pow10 : DataW Unit) = Lib.tabData .u64 Lib.pow10Tab := by kernel_rfl
theorem names_data : (Rows.laid_loop_example_jetton_impl_typeNames : DataW Unit) = .slice (namesL.map fun s => .lit (.string s.data.toList)) [] := by kernel_rfl
theorem gl_of {W : World} (h : laidMetH Tryd.prog laidL W) (hsh : W.ShapedOpen Tryd.prog) : GL cx W (Here W) := by
  unfold laidL at h
  rw [MakeChecks.laidMetH_plain _ _ _ (by kernel_rfl)] at h
  refine ⟨fun g v hg => ?_, fun g p hg => ?_⟩
  · have hg : globR g = some v := hg
    unfold globR at hg
    split at hg
    · rename_i e'
      subst e'
      obtain rfl := Option.some.inj hg
      have hn := (laidMet.tail (laidMet.tail (laidMet.tail (laidMet.tail (laidMet.tail h)))))
      rw [names_data] at hn
      exact names_of_laid hn (by kernel_rfl) (by kernel_rfl) Tryd.underlying34 Tryd.underlying9 (by kernel_rfl)
    · cases hg
  · have hg : objsR g = some p := hg
    unfold objsR at hg
    split at hg
    · rename_i e'
      subst e'
      obtain rfl := Option.some.inj hg
      have ht := (laidMet.tail (laidMet.tail h))
      rw [pow_data] at ht
      exact tab_of_laid (Lib.tabIs_of_head (n := 20) (t := 124) (e := 104) gPow (by kernel_rfl) (by kernel_rfl) (by kernel_rfl) (by kernel_rfl) (by kernel_rfl) ht) gPow
    · skip
      split at hg
      · rename_i e'
        subst e'
        obtain rfl := Option.some.inj hg
        exact cells_of_shaped (t := 3) (z := #[.int .i64 0]) hsh (of_decide_eq_true (by kernel_rfl)) (by kernel_rfl) rfl (by kernel_rfl) (by kernel_rfl) (by kernel_rfl)
      · skip
        split at hg
        · rename_i e'
          subst e'
          obtain rfl := Option.some.inj hg
          exact err_of_laid (laidMet.tail (laidMet.tail (laidMet.tail (laidMet.tail h)))) (by kernel_rfl) (by kernel_rfl) Tryd.underlying51
        · skip
          split at hg
          · rename_i e'
            subst e'
            obtain rfl := Option.some.inj hg
            exact err_of_laid (laidMet.tail (laidMet.tail (laidMet.tail h))) (by kernel_rfl) (by kernel_rfl) Tryd.underlying51
          · cases hg
noncomputable def door (os : Os) : World := World.doorLaid Tryd.prog 400 os
theorem door_met (os : Os) (args : Array Value) : laidMetH Tryd.prog laidL ((door os).forCall (fun _ _ => 0) ⟨#[], args, []⟩).memory :=
  laidMetH_of_parts3 (fuel := 8) (laidMet_of_run' 8 (by kernel_rfl) (by kernel_rfl)) (by kernel_rfl) (by kernel_rfl)
set_option maxRecDepth 100000 in
theorem lifted (P : PureFnExactTypeGet) (os : Os) (started : os.Started) (H : Type) (enc : TypeId × Value → H) :
    ReturnsInHanded {} Tryd.checked os 3 .any (fun w args => (Rows.fnExactTypeGetSpec.pre enc Tryd.prog Tryd.f3 [] false w args ∧ laidMetH Tryd.prog laidL w) ∧ sizedMet enc Tryd.prog Tryd.f3 (OpenSpec.ofChange Rows.fnExactTypeGetSpec) false w args)
      (Rows.fnExactTypeGetSpec.post enc Tryd.prog Tryd.f3 false true false false) := by
  refine Go.Rf.returnsInHanded_of_change_and_shaped (C := Tryd.checked) (X := fun w _ => laidMetH Tryd.prog laidL w) (fun _ _ _ hh h => h.of_heap hh) own started (by kernel_rfl) Tryd.func3
    (ChangeSpec.witness_shaped (enc := enc) (C := Tryd.checked) (os := os) (X := fun w _ => laidMetH Tryd.prog laidL w) false (door os) #[.string ByteArray.empty] 12 rfl (World.shaped_of_RefB (by kernel_rfl) (by kernel_rfl)) (by kernel_rfl) (by kernel_rfl) (by kernel_rfl) (door_met os _)) ?_
  intro W base args ds gs before hval0 hW _ _ hL hsh _
  have hGL := gl_of hL hsh
  have hval : ∀ (j : Nat) t v, Tryd.f3.params[j]? = some t → args[j]? = some v → Value.okWide Tryd.prog W .any base t v := hval0
  have hW' := hW
  obtain ⟨p, q, hA0, hV, rfl, hfz, hnd⟩ := hW
  have hA : DataW.TrodAll enc Tryd.prog W 0 (fun _ => true) true Tryd.f3.params.toList args.toList ds p := hA0
  rw [Tryd.params3] at hA hval
  obtain ⟨v0, vs0, d0, ds0, p0, q0, hargs, rfl, rfl, h0, r0⟩ := trodAll_cons hA
  obtain ⟨rfl, rfl, rfl⟩ := trodAll_nil r0
  obtain rfl : args = #[v0] := by cases args; simp_all
  have hV2 := hV
  obtain ⟨_, _, _, _, gd, _, rfl, _, _, _, _, _⟩ := trodVars_one hV2
  have k0 := h0
  have lt0 : ∀ x ∈ p0, x.block < W.heap.size := by obtain ⟨m, hm⟩ := k0; exact DataW.trod_lt m _ _ _ hm
  obtain ⟨y0, hy0, w0⟩ := opnArg_ok (tab := tabs.ty) (P := Tryd.prog) (t := 9) (i := ⟨false, [.str], [], 16⟩) (by kernel_rfl) (hval 0 9 v0 rfl rfl) h0
  clear hA0 hval0
  refine (walk P W hGL v0 y0 hy0 w0).mono fun e W' ⟨he, bel⟩ => ?_
  subst he
  exact ⟨_, rfl, _, _, _, [], _, _, hW', trodAll_mk1 (shut_bool Tryd.underlying4 _), (trodAll_cons_mk (Below.trod laidOut (by kernel_rfl) (of_decide_eq_true (by kernel_rfl)) k0 bel lt0) trodAll_mk0), Below.trodVars laidOut bel (by kernel_rfl) hV, bel.frame _, fun h => by cases h⟩
theorem over (P : PureFnExactTypeGet) : Rows.fnExactTypeGetRow.holds Tryd.pinned (OpenSpec.ofChange Rows.fnExactTypeGetSpec) :=
  OpenClaim.holds_of_wide 3 Tryd.f3 rfl rfl rfl rfl rfl rfl rfl ⟨rfl, rfl, rfl, rfl, rfl⟩ rfl rfl rfl rfl rfl (by kernel_rfl) Tryd.func3 (by kernel_rfl)
    (of_decide_eq_true (by kernel_rfl)) (by unfold Func.isWrapper; first | (rw [if_pos (by decide +kernel)]; kernel_rfl) | (rw [if_neg (by decide +kernel)]; exact ⟨rfl, rfl⟩))
    (fun os started H enc _ => lifted P os started H enc)
/-- THE TIED CARD. -/
theorem card (P : PureFnExactTypeGet) : Rows.FnExactTypeGetCardSaid :=
  Claim7.holds_tied_plain_at .later [] [.data, .data, .data, .sentinel, .sentinel, .data] true (true, "b1e9560ec6aafe62ad48b33291760fe81960f62d18bbaf499a61eb341c5cc1d3") true
    (over P) (fun _ h => by cases h) (by kernel_rfl) (fun _ h => by cases h) fnExactTypeGet_row_tie rfl ⟨rfl, rfl⟩ (by kernel_rfl) rfl
    (fun f fn hf hfn => by
      obtain rfl : f = 3 := Option.some.inj ((show Tryd.prog.funcNamed "loop.example/jetton/laws.FnExactTypeGet" = some 3 by kernel_rfl).symm.trans hf) |>.symm
      obtain rfl : fn = Tryd.f3 := (Option.some.inj (Tryd.func3.symm.trans hfn)).symm
      exact ⟨by kernel_rfl, fun j t ht => by
        rw [Tryd.params3] at ht
        have hm : t ∈ [9] := by simpa using Array.mem_of_getElem? ht
        have hall : ([9].all fun u => !Tryd.prog.wantsStandIn u) = true := by kernel_rfl
        exact (show Tryd.prog.wantsStandIn t = false by simpa using List.all_eq_true.1 hall t hm)⟩)
    (by kernel_rfl)
end Go.Proofs.YtajbbnkomnfmlaaDoor.fnExactTypeGet
end

section
/-! Rf, limbs: noughts at the end; which is greater. -/
set_option autoImplicit false
namespace Go.Proofs.YtajbbnkomnfmlaaDoor.R
open Go.Rf

theorem digs_len_le {n : Nat} {m : Nat} (h : n < 10000 ^ m) : (digs n).length ≤ m := by
  induction m generalizing n with
  | zero =>
    have : n = 0 := by simp at h; omega
    rw [this, digs_zero]
    simp
  | succ m ih =>
    by_cases h0 : n = 0
    · rw [h0, digs_zero]
      simp
    · rw [digs_pos h0, List.length_cons]
      have := ih (n := n / 10000) (by rw [Nat.pow_succ] at h; omega)
      omega
section
variable {a b : List Int} {A B : Nat}
theorem clamp_neg {D : Int} (h : D < 0) : (if (if D < 1 then D else 1) > -1 then (if D < 1 then D else 1) else -1) = -1 := by
  rw [if_pos (show D < 1 by omega), if_neg (by omega)]
theorem clamp_pos {D : Int} (h : 0 < D) : (if (if D < 1 then D else 1) > -1 then (if D < 1 then D else 1) else -1) = 1 := by
  rw [if_neg (show ¬ D < 1 by omega), if_pos (by omega)]
end
end Go.Proofs.YtajbbnkomnfmlaaDoor.R
end

section
/-! Rf, limbs: products, powers of ten. -/
set_option autoImplicit false
namespace Go.Proofs.YtajbbnkomnfmlaaDoor.R
open Go.Rf
theorem mul_small {x y : Int} (hx : 0 ≤ x ∧ x ≤ 9999) (hy : 0 ≤ y ∧ y ≤ 9999) : 0 ≤ x * y ∧ x * y ≤ 99980001 := by
  refine ⟨Int.mul_nonneg hx.1 hy.1, ?_⟩
  have := Int.mul_le_mul hx.2 hy.2 hy.1 (show (0 : Int) ≤ 9999 by omega)
  omega
theorem addN {i k : Nat} (h : i + k < 4611686018427387904) : IntKind.i64.wrap ((i : Int) + (k : Int)) = ((i + k : Nat) : Int) := by
  rw [wrap64 (by omega) (by omega)]
  omega
/-- one limb more of a product's row -/
theorem VI_row {x : List Int} {i k : Nat} {V0 ai c s n : Int} {b : List Int} (hk : k < b.length) (hx : i + k < x.length) (hV : VI x + c * 10000 ^ (i + k) = V0 + ai * VI (b.take k) * 10000 ^ i) (hn : n = x.getD (i + k) 0 + ai * b.getD k 0 + c) (hs : s = n % 10000) :
    VI (x.set (i + k) s) + n / 10000 * 10000 ^ (i + (k + 1)) = V0 + ai * VI (b.take (k + 1)) * 10000 ^ i := by
  have e1 : n = 10000 * (n / 10000) + s := by omega
  have e2 : (10000 : Int) ^ (i + (k + 1)) = 10000 ^ (i + k) * 10000 := by rw [← Nat.add_assoc, Int.pow_succ]
  have e3 : (10000 : Int) ^ (i + k) = 10000 ^ i * 10000 ^ k := Int.pow_add 10000 i k
  rw [VI_set hx, VI_take_succ hk, e2]
  rw [e3] at hV ⊢
  grind
section
variable {a b : List Int}
end
theorem digs_small {n : Nat} (h : 0 < n) (h2 : n < 10000) : digs n = [(n : Int)] := by
  rw [digs_pos (by omega), Nat.div_eq_of_lt h2, Nat.mod_eq_of_lt h2, digs_zero]
theorem VI_digs (n : Nat) : VI (digs n) = (n : Int) := (digs_spec n).2.2
theorem ten_len (i : Nat) : (digs (10 ^ i)).length ≤ i + 1 := digs_len_le (by
  have h1 : 10 ^ i ≤ 10000 ^ i := Nat.pow_le_pow_left (by omega) i
  have h2 : 0 < 10000 ^ i := Nat.pow_pos (by omega)
  rw [Nat.pow_succ]
  omega)
theorem tens_digs (q : Nat) {t : Nat} (h0 : 0 < t) (h1 : t < 10000) : List.replicate q (0 : Int) ++ [(t : Int)] = digs (t * 10000 ^ q) := by
  refine digs_of (fun d hd => ?_) (.inr ?_) ?_
  · rcases List.mem_append.1 hd with hd | hd
    · rw [(List.mem_replicate.1 hd).2]
      omega
    · rw [List.mem_singleton.1 hd]
      omega
  · rw [List.length_append, List.length_replicate, List.getD_eq_getElem?_getD, List.getElem?_append_right (by simp)]
    simp
    omega
  · rw [VI_append, VI_zeros, List.length_replicate]
    show (0 : Int) + 10000 ^ q * ((t : Int) + 10000 * 0) = ((t * 10000 ^ q : Nat) : Int)
    rw [Int.natCast_mul, Int.natCast_pow]
    grind
end Go.Proofs.YtajbbnkomnfmlaaDoor.R
end

section
/-! Rf, decimals: figures; what is in order. -/
set_option autoImplicit false
set_option linter.unusedSimpArgs false
namespace Go.Proofs.YtajbbnkomnfmlaaDoor.R
open Go.Rf
theorem l1In_ev (n lo hi : Int) : Ev (fun k => F72 k n lo hi) ((within n lo hi, ()), ((), (), (), ())) := by
  refine Ev.step 2 (fun k => F72_eq k n lo hi) ?_
  unfold within
  cases decide (n ≥ lo) with
  | true => exact Ev.now _
  | false => exact Ev.now _
theorem in_ev (n lo hi : Int) : Ev (fun k => F35 k n lo hi) ((within n lo hi, ()), ((), (), (), ())) := by
  refine Ev.step 2 (fun k => F35_eq k n lo hi) ?_
  unfold within
  cases decide (n ≥ lo) with
  | true => exact Ev.now _
  | false => exact Ev.now _
/-! ### figures -/
theorem l1Dec_ev : ∀ n : Nat, n ≤ 1000000000000000000 → Ev (fun k => F73 k (n : Int)) ((⟨(Lib.decDigits n).toArray⟩, ()), ((), ())) := by
  intro n
  induction n using Nat.strongRecOn with
  | _ n ih =>
    intro hn
    have c1 : decide ((n : Int) < (-9223372036854775807 : Int)) = false := decide_eq_false (by omega)
    have c2 : decide ((n : Int) < 0) = false := decide_eq_false (by omega)
    refine Ev.step 2 (fun k => F73_eq k n) ?_
    simp only [c1, c2, Bool.false_eq_true, if_false]
    by_cases h : n < 10
    · have c3 : decide ((n : Int) < 10) = true := decide_eq_true (by omega)
      rw [Lib.decDigits, dif_pos h]
      simp only [c3, if_true, bytesOf_digit h]
      exact Ev.now _
    · have c3 : decide ((n : Int) < 10) = false := decide_eq_false (by omega)
      have e1 : IntKind.i64.wrap ((n : Int).tdiv 10) = ((n / 10 : Nat) : Int) := by
        rw [Int.tdiv_eq_ediv_of_nonneg (by omega), wrap64 (by omega) (by omega)]
        omega
      have e2 : (n : Int).tmod 10 = ((n % 10 : Nat) : Int) := by
        rw [Int.tmod_eq_emod_of_nonneg (by omega)]
        omega
      have hl := decDigits_len 18 (n / 10) (by omega)
      rw [Lib.decDigits, dif_neg h]
      simp only [c3, Bool.false_eq_true, if_false, e1, e2, bytesOf_digit (show n % 10 < 10 by omega)]
      refine Ev.bind (ih (n / 10) (by omega) (by omega)) ?_
      have hb : Nat.ble ((Lib.decDigits (n / 10)).length + [UInt8.ofNat (48 + n % 10)].length) 9223372036854775807 = true := Nat.ble_eq_true_of_le (by simp; omega)
      simp only [bytes_size, hb, if_true, bytes_append]
      exact Ev.now _
end Go.Proofs.YtajbbnkomnfmlaaDoor.R
end

section
/-! Rf, decimals: compared; the law's helpers. -/
set_option autoImplicit false
namespace Go.Proofs.YtajbbnkomnfmlaaDoor.R
open Go.Rf
/-- a decimal in order: its number -/
def num (l : List Int) : Nat := (VI l).toNat
theorem num_spec {l : List Int} (h : InR l) : VI l = (num l : Int) := by
  have := VI_nonneg h
  unfold num
  omega
theorem digs_num {l : List Int} (h : InR l) (t : Trim l) : digs (num l) = l := digs_VI h t
theorem num_pos {neg : Bool} {l : List Int} (h : bOk neg l = true) (hn : neg = true) : 0 < num l := by
  obtain ⟨_, hr, ht, h0⟩ := bOk_of h
  have := VI_pos hr ht (fun e => by have := h0 e; rw [hn] at this; cases this)
  have := num_spec hr
  omega
theorem num_lt {l : List Int} (h : InR l) (hl : l.length ≤ 16) : num l < 10000 ^ 16 := by
  have h1 : VI l < ((10000 ^ l.length : Nat) : Int) := by
    rw [Int.natCast_pow]
    exact VI_lt h
  have h2 := num_spec h
  have h3 : (10000 : Nat) ^ l.length ≤ 10000 ^ 16 := Nat.pow_le_pow_right (by omega) hl
  exact Nat.lt_of_lt_of_le (by omega) h3
theorem at_len {V m : Nat} (hV : V < 10000 ^ 16) (hm : m ≤ 24) : (digs (V * 10 ^ m)).length ≤ 40 := by
  refine digs_len_le ?_
  have h1 : 10 ^ m ≤ 10 ^ 24 := Nat.pow_le_pow_right (by omega) hm
  have h2 : V * 10 ^ m ≤ V * 10 ^ 24 := Nat.mul_le_mul_left V h1
  have h3 : V * 10 ^ 24 < 10000 ^ 16 * 10 ^ 24 := Nat.mul_lt_mul_of_pos_right hV (Nat.pow_pos (by omega))
  have h4 : 10000 ^ 16 * 10 ^ 24 ≤ 10000 ^ 40 := by decide
  omega
/-- a sum with signs -/
def sSum (na : Bool) (A : Nat) (nb : Bool) (B : Nat) : Bool × Nat := if na = nb then (na, A + B) else if B ≤ A then (na, A - B) else (nb, B - A)
theorem cmpI_ge {A B : Nat} : decide (cmpI A B ≥ 0) = decide (B ≤ A) := by
  unfold cmpI
  split
  · rw [decide_eq_false (by omega), decide_eq_false (by omega)]
  · split
    · rw [decide_eq_true (by omega), decide_eq_true (by omega)]
    · rw [decide_eq_true (by omega), decide_eq_true (by omega)]
/-- numbers with signs compared -/
def sCmp (na : Bool) (A : Nat) (nb : Bool) (B : Nat) : Int := if na = nb then if na = true then cmpI B A else cmpI A B else if na = true then -1 else 1
theorem sSum_sCmp {na nb : Bool} {A B : Nat} (ha : na = true → 0 < A) (hb : nb = true → 0 < B) : (if (sSum na A (!nb) B).2 = 0 then 0 else if (sSum na A (!nb) B).1 = true then -1 else 1 : Int) = sCmp na A nb B := by
  unfold sSum sCmp
  cases na with
  | true =>
    have h1 := ha rfl
    cases nb with
    | true =>
      simp only [Bool.not_true, Bool.true_eq_false, if_false, if_true]
      rcases Nat.lt_trichotomy A B with h | h | h
      · rw [if_neg (show ¬ B ≤ A by omega), cmpI_gt h]
        simp only [Bool.false_eq_true, if_false]
        rw [if_neg (by omega)]
      · subst h
        simp [cmpI_eq]
      · rw [if_pos (show B ≤ A by omega), cmpI_lt h]
        simp only [if_true]
        rw [if_neg (by omega)]
    | false =>
      simp only [Bool.not_false, if_true, Bool.true_eq_false, if_false]
      rw [if_neg (by omega)]
  | false =>
    cases nb with
    | true =>
      have h2 := hb rfl
      simp only [Bool.not_true, if_true, Bool.false_eq_true, if_false]
      rw [if_neg (by omega)]
    | false =>
      simp only [Bool.not_false, Bool.false_eq_true, if_false, if_true]
      rcases Nat.lt_trichotomy A B with h | h | h
      · rw [if_neg (show ¬ B ≤ A by omega), cmpI_lt h]
        simp only [if_true]
        rw [if_neg (by omega)]
      · subst h
        simp [cmpI_eq]
      · rw [if_pos (show B ≤ A by omega), cmpI_gt h]
        simp only [Bool.false_eq_true, if_false]
        rw [if_neg (by omega)]
/-- how decimals in order compare -/
def dCmp (n1 : Bool) (l1 : List Int) (s1 : Nat) (n2 : Bool) (l2 : List Int) (s2 : Nat) : Int := sCmp n1 (num l1 * 10 ^ (max s1 s2 - s1)) n2 (num l2 * 10 ^ (max s1 s2 - s2))
section
variable {n1 n2 : Bool} {l1 l2 : List Int} {s1 s2 : Nat}
end
/-! ### the law's helpers -/
end Go.Proofs.YtajbbnkomnfmlaaDoor.R
end

section
/-! Rf, decimals: added; fresh memory. -/
set_option autoImplicit false
set_option linter.unusedSimpArgs false
namespace Go.Proofs.YtajbbnkomnfmlaaDoor.R
open Go.Rf
theorem VI_take_succ' {l : List Int} {i : Nat} : VI (l.take (i + 1)) = VI (l.take i) + l.getD i 0 * 10000 ^ i := by
  rcases Nat.lt_or_ge i l.length with h | h
  · exact VI_take_succ h
  · rw [List.take_of_length_le h, List.take_of_length_le (by omega), List.getD_eq_getElem?_getD, List.getElem?_eq_none h]
    simp
theorem getD0 {l : List Int} (h : InR l) (i : Nat) : 0 ≤ l.getD i 0 ∧ l.getD i 0 ≤ 9999 := by
  rcases Nat.lt_or_ge i l.length with h1 | h1
  · exact h.at h1
  · rw [List.getD_eq_getElem?_getD, List.getElem?_eq_none h1]
    exact ⟨Int.le_refl _, by decide⟩
theorem inrSnoc {l : List Int} {d : Int} (h : InR l) (hd : 0 ≤ d ∧ d ≤ 9999) : InR (l ++ [d]) := fun x hx => by
  rcases List.mem_append.1 hx with hx | hx
  · exact h x hx
  · rw [List.mem_singleton.1 hx]
    exact hd
theorem VI_snoc (l : List Int) (d : Int) : VI (l ++ [d]) = VI l + d * 10000 ^ l.length := by
  rw [VI_append]
  show VI l + 10000 ^ l.length * (d + 10000 * 0) = _
  grind
section
variable {a b : List Int}
end
def made (neg : Bool) (n : Nat) (s : Int) : (Bool × List Int × Int × Unit) × Int × Unit := if long (digs n) > 30 then ((false, [], 0, ()), 3, ()) else ((neg && decide (((digs n).length : Int) > 0), digs n, s, ()), 0, ())
theorem figs_ge : ∀ {l : List Int}, InR l → l ≠ [] → 4 * l.length ≤ (figs l).length + 4
  | [], _, h => absurd rfl h
  | [d], _, _ => by simp
  | d :: e :: l, h, _ => by
    have h1 := figs_ge h.cons.2 (by simp)
    have h2 := fig4_len h.cons.1
    rw [figs, List.length_append, h2, List.length_cons]
    omega
theorem long_small {l : List Int} (h : InR l) (hl : ¬ long l > 30) : l.length ≤ 16 := by
  unfold long at hl
  by_cases h0 : l.length = 0
  · omega
  · rw [if_neg h0, textL_pos (fun e => h0 (by rw [e]; rfl)), bytes_size] at hl
    have := figs_ge h (fun e => h0 (by rw [e]; rfl))
    omega
theorem sSum_lt {na nb : Bool} {A B C : Nat} (ha : A < C) (hb : B < C) : (sSum na A nb B).2 < 2 * C := by
  unfold sSum
  split
  · show A + B < _
    omega
  · split
    · show A - B < _
      omega
    · show B - A < _
      omega
theorem at_lt {V m : Nat} (hV : V < 10000 ^ 16) (hm : m ≤ 24) : V * 10 ^ m < 10000 ^ 40 := by
  have h1 : 10 ^ m ≤ 10 ^ 24 := Nat.pow_le_pow_right (by omega) hm
  have h2 : V * 10 ^ m ≤ V * 10 ^ 24 := Nat.mul_le_mul_left V h1
  have h3 : V * 10 ^ 24 < 10000 ^ 16 * 10 ^ 24 := Nat.mul_lt_mul_of_pos_right hV (Nat.pow_pos (by omega))
  have h4 : 10000 ^ 16 * 10 ^ 24 ≤ 10000 ^ 40 := by decide
  omega
theorem sum_len {na nb : Bool} {A B : Nat} (ha : A < 10000 ^ 40) (hb : B < 10000 ^ 40) : (digs (sSum na A nb B).2).length ≤ 41 := by
  refine digs_len_le ?_
  have h1 := sSum_lt (na := na) (nb := nb) ha hb
  have h2 : 2 * 10000 ^ 40 ≤ 10000 ^ 41 := by
    rw [Nat.pow_succ]
    have : 0 < 10000 ^ 40 := Nat.pow_pos (by omega)
    omega
  omega
section
variable {n1 n2 : Bool} {l1 l2 : List Int} {s1 s2 : Nat}
end
/-! ### marks -/
def marks (b : Int) (l : List Int) : List Int := (List.range l.length).map fun (i : Nat) => b + (i : Int)
theorem marks_len (b : Int) (l : List Int) : (marks b l).length = l.length := by simp [marks]
theorem marks_at {b : Int} {l : List Int} {i : Nat} (h : i < l.length) : (marks b l).getD i 0 = b + i := by
  rw [List.getD_eq_getElem?_getD]
  unfold marks
  rw [List.getElem?_map, List.getElem?_range h]
  rfl
end Go.Proofs.YtajbbnkomnfmlaaDoor.R
end

section
/-! Rf: division of limbs: both divisions come to the quotient and the rest. -/
set_option autoImplicit false
set_option linter.unusedSimpArgs false
set_option linter.unusedVariables false
namespace Go.Proofs.YtajbbnkomnfmlaaDoor.R
open Go.Rf
theorem u64_small {x : Int} (h0 : 0 ≤ x) (h1 : x ≤ 9999) : IntKind.u64.wrap x = x := by
  unfold IntKind.wrap
  simp [IntKind.bits, IntKind.signed]
  omega
theorem mid_eq {lo hi : Nat} (h : hi ≤ 10000) (hl : lo ≤ 10000) : IntKind.i64.wrap ((IntKind.i64.wrap ((IntKind.i64.wrap ((lo : Int) + (hi : Int))) + (1 : Int))).tdiv (2 : Int)) = (((lo + hi + 1) / 2 : Nat) : Int) := by
  rw [wrap64 (n := (lo : Int) + (hi : Int)) (by omega) (by omega), wrap64 (n := (lo : Int) + (hi : Int) + 1) (by omega) (by omega), Int.tdiv_eq_ediv_of_nonneg (by omega), wrap64 (by omega) (by omega)]
  omega
theorem mid_eq0 {lo hi : Nat} (h : hi ≤ 10000) (hl : lo ≤ 10000) : IntKind.i64.wrap ((IntKind.i64.wrap ((lo : Int) + (hi : Int))).tdiv (2 : Int)) = (((lo + hi) / 2 : Nat) : Int) := by
  rw [wrap64 (n := (lo : Int) + (hi : Int)) (by omega) (by omega), Int.tdiv_eq_ediv_of_nonneg (by omega), wrap64 (by omega) (by omega)]
  omega
theorem digs_InR (n : Nat) : InR (digs n) := (digs_spec n).1
theorem digs_Trim (n : Nat) : Trim (digs n) := (digs_spec n).2.1
theorem InR.one {d : Int} (h : 0 ≤ d ∧ d ≤ 9999) : InR [d] := InR.mk h InR.nil
theorem VI_one (d : Int) : VI [d] = d := by
  show d + 10000 * 0 = d
  omega
theorem cmpI_le {a b : Nat} : decide (cmpI a b ≤ 0) = decide (a ≤ b) := by
  unfold cmpI
  split
  · rw [decide_eq_true (by omega), decide_eq_true (by omega)]
  · split
    · rw [decide_eq_true (by omega), decide_eq_true (by omega)]
    · rw [decide_eq_false (by omega), decide_eq_false (by omega)]
section
variable {b : List Int} {B X : Nat}
theorem BN_len (hb : InR b) (lb : b.length ≤ 1000) (hB : VI b = (B : Int)) {n : Nat} (hn : n ≤ 10000) : (digs (B * n)).length ≤ 1001 := by
  have h1 := VI_lt hb
  rw [hB] at h1
  have h2 : B < 10000 ^ b.length := by
    have : ((B : Nat) : Int) < ((10000 ^ b.length : Nat) : Int) := by rw [Int.natCast_pow]; exact h1
    omega
  have h3 : B * n < 10000 ^ (b.length + 1) := by
    rw [Nat.pow_succ]
    exact Nat.lt_of_le_of_lt (Nat.mul_le_mul_left B hn) (Nat.mul_lt_mul_of_pos_right h2 (by omega))
  have := digs_len_le h3
  omega
theorem quo_of {n : Nat} (h1 : B * n ≤ X) (h2 : X < B * (n + 1)) : n = X / B := by
  have hp : 0 < B := by
    rcases Nat.eq_zero_or_pos B with h | h
    · subst h; omega
    · exact h
  symm
  rw [Nat.div_eq_iff hp]
  constructor
  · rw [Nat.mul_comm]; omega
  · rw [Nat.mul_comm]
    have : B * (n + 1) = B * n + B := Nat.mul_succ B n
    omega
end
end Go.Proofs.YtajbbnkomnfmlaaDoor.R
end

section
/-! Rf: quotients that are rounded; the least scale. -/
set_option autoImplicit false
set_option linter.unusedSimpArgs false
set_option linter.unusedVariables false
namespace Go.Proofs.YtajbbnkomnfmlaaDoor.R
open Go.Rf
theorem len_gt (n : Nat) : decide (((digs n).length : Int) > 0) = decide (n ≠ 0) := by
  by_cases h : n = 0
  · subst h
    rw [digs_zero]; rfl
  · rw [digs_pos h]
    rw [decide_eq_true h, decide_eq_true (by simp)]
theorem len_is0 (n : Nat) : (((digs n).length : Int) == 0) = decide (n = 0) := by
  by_cases h : n = 0
  · subst h
    rw [digs_zero]; rfl
  · rw [digs_pos h, decide_eq_false h, beq_eq_false_iff_ne]
    simp; omega
/-- whether what is left is rounded away from nought -/
def rmore (mode : Int) (neg odd : Bool) (half : Int) : Bool := if mode = 1 then true else if mode = 2 then false else if mode = 3 then !neg else if mode = 4 then neg else if mode = 5 then decide (half ≥ 0) else if mode = 6 then decide (half > 0) else (decide (half > 0) || (half == 0 && odd))
/-- a quotient that is rounded -/
def rquo (neg : Bool) (V D : Nat) (mode : Int) : Nat := if V % D = 0 then V / D else if rmore mode neg (decide (V / D % 2 = 1)) (cmpI (V % D + V % D) D) = true then V / D + 1 else V / D
def trimN : Nat → Nat → Nat × Nat
  | V, 0 => (V, 0)
  | V, s + 1 => if V % 10 = 0 then trimN (V / 10) s else (V, s + 1)
theorem div10_len {V : Nat} {m : Nat} (h : (digs V).length ≤ m) : (digs (V / 10)).length ≤ m := by
  have h1 := VI_lt (digs_InR V)
  rw [VI_digs] at h1
  have h2 : V < 10000 ^ (digs V).length := by
    have : ((V : Nat) : Int) < ((10000 ^ (digs V).length : Nat) : Int) := by rw [Int.natCast_pow]; exact h1
    omega
  have := digs_len_le (Nat.lt_of_le_of_lt (Nat.div_le_self V 10) h2)
  omega
/-- a decimal at its least scale -/
def dTrim (n : Bool) (l : List Int) (s : Int) : Bool × List Int × Int × Unit := if decOk n l s = true then (n, digs (trimN (num l) s.toNat).1, ((trimN (num l) s.toNat).2 : Int), ()) else (false, [], 0, ())
end Go.Proofs.YtajbbnkomnfmlaaDoor.R
end

section
/-! Rf: rounding to a scale. -/
set_option autoImplicit false
set_option linter.unusedSimpArgs false
set_option linter.unusedVariables false
namespace Go.Proofs.YtajbbnkomnfmlaaDoor.R
open Go.Rf
theorem made_len1 {neg : Bool} {n : Nat} {s : Int} (h : (digs n).length ≤ 1000) : (made neg n s).1.2.1.length ≤ 1000 := by
  unfold made
  split
  · show ([] : List Int).length ≤ 1000
    simp
  · exact h
theorem pow_len {V m : Nat} (hV : V < 10000 ^ 16) (hm : m ≤ 24) : (digs (V * 10 ^ m)).length ≤ 40 := digs_len_le (at_lt hV hm)
/-- what is not in order -/
def dForm : (Bool × List Int × Int × Unit) × Int × Unit := ((false, [], 0, ()), 1, ())
/-- a decimal rounded to a scale -/
def dRound (n : Bool) (l : List Int) (s sc mode : Int) : (Bool × List Int × Int × Unit) × Int × Unit := if decOk n l s = true ∧ within sc 0 12 = true ∧ within mode 1 7 = true then
  (if s.toNat ≤ sc.toNat then made n (num l * 10 ^ (sc.toNat - s.toNat)) sc else made n (rquo n (num l) (10 ^ (s.toNat - sc.toNat)) mode) sc) else dForm
end Go.Proofs.YtajbbnkomnfmlaaDoor.R
end

section
/-! Rf: products of decimals. -/
set_option autoImplicit false
set_option linter.unusedSimpArgs false
set_option linter.unusedVariables false
namespace Go.Proofs.YtajbbnkomnfmlaaDoor.R
open Go.Rf
def dMul (n1 : Bool) (l1 : List Int) (s1 : Int) (n2 : Bool) (l2 : List Int) (s2 : Int) : (Bool × List Int × Int × Unit) × Int × Unit := if decOk n1 l1 s1 = true ∧ decOk n2 l2 s2 = true then
  (if s1 + s2 > 12 then made (!(n1 == n2)) (rquo (!(n1 == n2)) (num l1 * num l2) (10 ^ (s1.toNat + s2.toNat - 12)) 7) 12 else made (!(n1 == n2)) (num l1 * num l2) (s1 + s2)) else dForm
section
variable (n1 : Bool) (l1 : List Int) (s1 : Int) (n2 : Bool) (l2 : List Int) (s2 : Int)
end
end Go.Proofs.YtajbbnkomnfmlaaDoor.R
end

section
/-! Rf, decimals: sums and differences, on both sides. -/
set_option autoImplicit false
set_option linter.unusedSimpArgs false
namespace Go.Proofs.YtajbbnkomnfmlaaDoor.R
open Go.Rf
theorem made_len {neg : Bool} {n : Nat} {s : Int} (h : (digs n).length ≤ 100) : (made neg n s).1.2.1.length ≤ 1000 := by
  unfold made
  split
  · show ([] : List Int).length ≤ 1000
    simp
  · show (digs n).length ≤ 1000
    omega
theorem sSum_zero {na nb : Bool} {A : Nat} : sSum na A nb 0 = (na, A) := by
  unfold sSum
  split
  · rfl
  · rw [if_pos (Nat.zero_le _)]
    rfl
section
variable (n1 : Bool) (l1 : List Int) (s1 : Int) (n2 : Bool) (l2 : List Int) (s2 : Int)
/-- the sum of decimals; nb: the second's sign (turned where they are taken from each other) -/
def dSum (n1 : Bool) (l1 : List Int) (s1 : Int) (n2 : Bool) (l2 : List Int) (s2 : Int) (nb : Bool) : (Bool × List Int × Int × Unit) × Int × Unit := if decOk n1 l1 s1 = true ∧ decOk n2 l2 s2 = true then
  made (sSum n1 (num l1 * 10 ^ (max s1.toNat s2.toNat - s1.toNat)) nb (num l2 * 10 ^ (max s1.toNat s2.toNat - s2.toNat))).1 (sSum n1 (num l1 * 10 ^ (max s1.toNat s2.toNat - s1.toNat)) nb (num l2 * 10 ^ (max s1.toNat s2.toNat - s2.toNat))).2 ((max s1.toNat s2.toNat : Nat) : Int) else ((false, [], 0, ()), 1, ())
end
end Go.Proofs.YtajbbnkomnfmlaaDoor.R
end

section
/-! Rf: decimals as whole numbers with a scale. -/
set_option autoImplicit false
set_option linter.unusedSimpArgs false
set_option linter.unusedVariables false
namespace Go.Proofs.YtajbbnkomnfmlaaDoor.R
open Go.Rf
/-! ### figures -/
theorem decDigits_le : ∀ (k u : Nat), (Lib.decDigits u).length ≤ k + 1 → u < 10 ^ (k + 1)
  | 0, u, h => by
    by_cases hu : u < 10
    · simpa using hu
    · rw [Lib.decDigits, dif_neg hu, List.length_append] at h
      have : 0 < (Lib.decDigits (u / 10)).length := by
        rw [Lib.decDigits]; split <;> simp
      simp only [List.length_singleton] at h; omega
  | k + 1, u, h => by
    by_cases hu : u < 10
    · have : (1 : Nat) ≤ 10 ^ (k + 1) := Nat.pow_pos (by omega)
      rw [Nat.pow_succ]; omega
    · rw [Lib.decDigits, dif_neg hu, List.length_append] at h
      have := decDigits_le k (u / 10) (by simpa using h)
      rw [Nat.pow_succ]; omega
theorem dd1 {n : Nat} (h : n < 10) : Lib.decDigits n = [UInt8.ofNat (48 + n)] := by rw [Lib.decDigits, dif_pos h]
theorem ddS {n : Nat} (h : ¬ n < 10) : Lib.decDigits n = Lib.decDigits (n / 10) ++ [UInt8.ofNat (48 + n % 10)] := by rw [Lib.decDigits, dif_neg h]
theorem fig4_nat {n : Nat} (h : n < 10000) : fig4 (n : Int) = [UInt8.ofNat (48 + n / 1000), UInt8.ofNat (48 + n / 100 % 10), UInt8.ofNat (48 + n / 10 % 10), UInt8.ofNat (48 + n % 10)] := by
  rw [fig4, itoa_nat]
  by_cases h1 : n < 10
  · rw [dd1 h1, show n / 1000 = 0 by omega, show n / 100 = 0 by omega, show n / 10 = 0 by omega, show n % 10 = n by omega]
    rfl
  · by_cases h2 : n < 100
    · rw [ddS h1, dd1 (show n / 10 < 10 by omega), show n / 1000 = 0 by omega, show n / 100 = 0 by omega, show n / 10 % 10 = n / 10 by omega]
      rfl
    · by_cases h3 : n < 1000
      · rw [ddS h1, ddS (show ¬ n / 10 < 10 by omega), dd1 (show n / 10 / 10 < 10 by omega), show n / 1000 = 0 by omega, show n / 10 / 10 = n / 100 by omega, show n / 100 % 10 = n / 100 by omega]
        rfl
      · rw [ddS h1, ddS (show ¬ n / 10 < 10 by omega), ddS (show ¬ n / 10 / 10 < 10 by omega), dd1 (show n / 10 / 10 / 10 < 10 by omega), show n / 10 / 10 / 10 = n / 1000 by omega, show n / 10 / 10 = n / 100 by omega]
        rfl
theorem dd4 {n : Nat} (h : 10000 ≤ n) : Lib.decDigits n = Lib.decDigits (n / 10000) ++ fig4 ((n % 10000 : Nat) : Int) := by
  rw [fig4_nat (Nat.mod_lt _ (by omega)), ddS (show ¬ n < 10 by omega), ddS (show ¬ n / 10 < 10 by omega), ddS (show ¬ n / 10 / 10 < 10 by omega), ddS (show ¬ n / 10 / 10 / 10 < 10 by omega)]
  rw [show n / 10 / 10 / 10 / 10 = n / 10000 by omega, show n / 10 / 10 / 10 % 10 = n % 10000 / 1000 by omega, show n / 10 / 10 % 10 = n % 10000 / 100 % 10 by omega, show n / 10 % 10 = n % 10000 / 10 % 10 by omega, show n % 10 = n % 10000 % 10 by omega]
  simp only [List.append_assoc, List.singleton_append, List.cons_append, List.nil_append]
theorem figs_digs (n : Nat) (h : 0 < n) : figs (digs n) = Lib.decDigits n := by
  induction n using Nat.strongRecOn with
  | _ n ih =>
    rw [digs_pos (by omega)]
    by_cases h2 : n / 10000 = 0
    · rw [h2, digs_zero]
      show Lib.itoa _ = _
      rw [itoa_nat, show n % 10000 = n by omega]
    · have := ih (n / 10000) (by omega) (by omega)
      rw [dd4 (by omega), ← this]
      rw [digs_pos h2]
      rfl
theorem textL_digs (n : Nat) : textL (digs n) = ⟨(Lib.decDigits n).toArray⟩ := by
  by_cases h : n = 0
  · subst h
    rw [digs_zero, dd1 (by omega)]
    rfl
  · rw [textL_pos (by rw [digs_pos h]; simp), figs_digs n (by omega)]
theorem long_digs (n : Nat) : long (digs n) = if n = 0 then 0 else ((Lib.decDigits n).length : Int) := by
  unfold long
  by_cases h : n = 0
  · subst h; rw [digs_zero]; rfl
  · rw [if_neg h, if_neg (by rw [digs_pos h]; simp), textL_digs]
    rfl
theorem long30 (n : Nat) : long (digs n) > 30 ↔ ¬ n < 10 ^ 30 := by
  rw [long_digs]
  have h1 := decDigits_le 29 n
  have h2 := decDigits_len 29 n
  have h3 : (0 : Nat) < 10 ^ 30 := Nat.pow_pos (by omega)
  split
  · subst_vars
    constructor
    · intro h; omega
    · intro h; omega
  · constructor
    · intro h h'
      have := h2 h'
      omega
    · intro h
      have : ¬ (Lib.decDigits n).length ≤ 29 + 1 := fun h' => h (h1 h')
      omega
theorem lt30_16 {n : Nat} (h : n < 10 ^ 30) : n < 10000 ^ 16 := by
  have : (10 : Nat) ^ 30 < 10000 ^ 16 := by decide
  omega
theorem len16 {n : Nat} (h : n < 10 ^ 30) : (digs n).length ≤ 16 := digs_len_le (lt30_16 h)
theorem num_digs (n : Nat) : num (digs n) = n := by unfold num; rw [VI_digs]; rfl
/-! ### decimals -/
def sg (n : Bool) (A : Nat) : Int := if n = true then -(A : Int) else A
def D (z : Int) (s : Nat) : Bool × List Int × Int × Unit := (decide (z < 0), digs z.natAbs, (s : Int), ())
def mk (z : Int) (s : Nat) : (Bool × List Int × Int × Unit) × Int × Unit := if z.natAbs < 10 ^ 30 then (D z s, 0, ()) else ((false, [], 0, ()), 3, ())
theorem D_zero : D 0 0 = (false, [], 0, ()) := by
  unfold D
  rw [show (0 : Int).natAbs = 0 from rfl, digs_zero]
  rfl
theorem bOk_digs (z : Int) (h : z.natAbs < 10000 ^ 16) : bOk (decide (z < 0)) (digs z.natAbs) = true := by
  unfold bOk lastOk
  have h1 := digs_len_le h
  have h2 := digs_spec z.natAbs
  simp only [Bool.and_eq_true, decide_eq_true_eq]
  refine ⟨⟨h1, rangeOk_iff.2 h2.1⟩, ?_⟩
  by_cases h0 : z = 0
  · subst h0; rw [show (0 : Int).natAbs = 0 from rfl, digs_zero]; rfl
  · have hne : digs z.natAbs ≠ [] := fun e => h0 (by rw [digs_nil] at e; omega)
    rw [if_neg (fun e => hne (List.length_eq_zero_iff.1 e))]
    rcases h2.2.1 with h3 | h3
    · exact absurd h3 hne
    · exact bne_iff_ne.2 h3
theorem decOk_D {z : Int} {s : Nat} (h : z.natAbs < 10 ^ 30) (hs : s ≤ 12) : decOk (decide (z < 0)) (digs z.natAbs) (s : Int) = true := by
  unfold decOk
  rw [bOk_digs z (lt30_16 h), Bool.true_and, Bool.and_eq_true, decide_eq_true_eq]
  refine ⟨?_, ?_⟩
  · have h5 : ¬ long (digs z.natAbs) > 30 := fun h' => (long30 z.natAbs).1 h' h
    omega
  · unfold within
    simp; omega
theorem bOk_ex {n : Bool} {l : List Int} (h : bOk n l = true) : ∃ z : Int, n = decide (z < 0) ∧ l = digs z.natAbs ∧ z.natAbs < 10000 ^ 16 := by
  obtain ⟨h16, hr, ht, h0⟩ := bOk_of h
  refine ⟨sg n (num l), ?_, ?_, ?_⟩
  · unfold sg
    cases n with
    | false => simp
    | true =>
      have : l ≠ [] := fun e => by have := h0 e; cases this
      have := VI_pos hr ht this
      have h3 := num_spec hr
      simp; omega
  · have : (sg n (num l)).natAbs = num l := by unfold sg; split <;> omega
    rw [this, digs_num hr ht]
  · have : (sg n (num l)).natAbs = num l := by unfold sg; split <;> omega
    rw [this]
    have h1 := VI_lt hr
    rw [num_spec hr] at h1
    have h2 : num l < 10000 ^ l.length := by
      have : ((num l : Nat) : Int) < ((10000 ^ l.length : Nat) : Int) := by rw [Int.natCast_pow]; exact h1
      omega
    have h3 : 10000 ^ l.length ≤ 10000 ^ 16 := Nat.pow_le_pow_right (by omega) h16
    omega
theorem decOk_ex {n : Bool} {l : List Int} {s : Int} (h : decOk n l s = true) : ∃ (z : Int) (t : Nat), n = decide (z < 0) ∧ l = digs z.natAbs ∧ s = (t : Int) ∧ z.natAbs < 10 ^ 30 ∧ t ≤ 12 := by
  obtain ⟨h1, h2, t, h3, h4⟩ := decOk_of h
  obtain ⟨z, rfl, rfl, _⟩ := bOk_ex h1
  refine ⟨z, t, rfl, rfl, h3, ?_, h4⟩
  have h5 : ¬ ¬ z.natAbs < 10 ^ 30 := fun h' => by have := (long30 z.natAbs).2 h'; omega
  exact Decidable.not_not.1 h5
theorem sg_abs (n : Bool) (A : Nat) : (sg n A).natAbs = A := by unfold sg; split <;> omega
theorem made_mk (n : Bool) (A s : Nat) : made n A (s : Int) = mk (sg n A) s := by
  unfold made mk
  rw [sg_abs]
  have h := long30 A
  by_cases hA : A < 10 ^ 30
  · rw [if_neg (fun h' => h.1 h' hA), if_pos hA]
    unfold D
    rw [sg_abs, len_gt]
    have : (n && decide (A ≠ 0)) = decide (sg n A < 0) := by
      unfold sg
      cases n with
      | false => simp
      | true =>
        simp only [Bool.true_and, if_true]
        congr 1
        exact propext ⟨fun h => by omega, fun h => by omega⟩
    rw [this]
  · rw [if_pos (h.2 hA), if_neg hA]
theorem sg_sum (na : Bool) (A : Nat) (nb : Bool) (B : Nat) : sg (sSum na A nb B).1 (sSum na A nb B).2 = sg na A + sg nb B := by
  unfold sSum
  split
  · subst_vars
    unfold sg
    split <;> simp <;> omega
  · split
    · rename_i h1 h2
      unfold sg
      cases na <;> cases nb <;> simp_all <;> omega
    · rename_i h1 h2
      unfold sg
      cases na <;> cases nb <;> simp_all <;> omega
theorem sg_D (z : Int) : sg (decide (z < 0)) z.natAbs = z := by
  unfold sg
  by_cases h : z < 0
  · rw [if_pos (decide_eq_true h)]; omega
  · rw [if_neg (by simpa using h)]; omega
theorem sg_Dn (z : Int) : sg (!decide (z < 0)) z.natAbs = -z := by
  unfold sg
  by_cases h : z < 0
  · rw [decide_eq_true h]; simp; omega
  · rw [decide_eq_false h]; simp; omega
theorem sg_mul (n : Bool) (A k : Nat) : sg n (A * k) = sg n A * k := by
  unfold sg
  split
  · rw [Int.natCast_mul, Int.neg_mul]
  · rw [Int.natCast_mul]
theorem dSum_D {z1 z2 : Int} {s1 s2 : Nat} (h1 : z1.natAbs < 10 ^ 30) (h2 : z2.natAbs < 10 ^ 30) (t1 : s1 ≤ 12) (t2 : s2 ≤ 12) :
    dSum (decide (z1 < 0)) (digs z1.natAbs) (s1 : Int) (decide (z2 < 0)) (digs z2.natAbs) (s2 : Int) (decide (z2 < 0)) = mk (z1 * 10 ^ (max s1 s2 - s1) + z2 * 10 ^ (max s1 s2 - s2)) (max s1 s2) := by
  unfold dSum
  rw [if_pos ⟨decOk_D h1 t1, decOk_D h2 t2⟩, Int.toNat_natCast, Int.toNat_natCast, made_mk, sg_sum, sg_mul, sg_mul, num_digs, num_digs, sg_D, sg_D]
  simp only [Int.natCast_pow]
  rfl
theorem dSub_D {z1 z2 : Int} {s1 s2 : Nat} (h1 : z1.natAbs < 10 ^ 30) (h2 : z2.natAbs < 10 ^ 30) (t1 : s1 ≤ 12) (t2 : s2 ≤ 12) :
    dSum (decide (z1 < 0)) (digs z1.natAbs) (s1 : Int) (decide (z2 < 0)) (digs z2.natAbs) (s2 : Int) (!decide (z2 < 0)) = mk (z1 * 10 ^ (max s1 s2 - s1) - z2 * 10 ^ (max s1 s2 - s2)) (max s1 s2) := by
  unfold dSum
  rw [if_pos ⟨decOk_D h1 t1, decOk_D h2 t2⟩, Int.toNat_natCast, Int.toNat_natCast, made_mk, sg_sum, sg_mul, sg_mul, num_digs, num_digs, sg_D, sg_Dn]
  simp only [Int.natCast_pow, Int.neg_mul]
  rfl
def cmpZ (x y : Int) : Int := if x < y then -1 else if x = y then 0 else 1
theorem sCmp_sg {na nb : Bool} {A B : Nat} (ha : na = true → 0 < A) (hb : nb = true → 0 < B) : sCmp na A nb B = cmpZ (sg na A) (sg nb B) := by
  unfold sCmp cmpZ sg cmpI
  cases na <;> cases nb <;> simp at ha hb ⊢ <;> (repeat' split) <;> omega
theorem pow10_pos (k : Nat) : (0 : Int) < 10 ^ k := Int.pow_pos (by omega)
theorem dCmp_D {z1 z2 : Int} {s1 s2 : Nat} : dCmp (decide (z1 < 0)) (digs z1.natAbs) s1 (decide (z2 < 0)) (digs z2.natAbs) s2 = cmpZ (z1 * 10 ^ (max s1 s2 - s1)) (z2 * 10 ^ (max s1 s2 - s2)) := by
  unfold dCmp
  rw [num_digs, num_digs, sCmp_sg, sg_mul, sg_mul, sg_D, sg_D]
  · simp only [Int.natCast_pow]; rfl
  · intro h
    have : z1 < 0 := by simpa using h
    exact Nat.mul_pos (by omega) (Nat.pow_pos (by omega))
  · intro h
    have : z2 < 0 := by simpa using h
    exact Nat.mul_pos (by omega) (Nat.pow_pos (by omega))
/-- a quotient that is rounded, with sign -/
def rdiv (mode : Int) (z : Int) (d : Nat) : Int := sg (decide (z < 0)) (rquo (decide (z < 0)) z.natAbs d mode)
theorem dRound_D {z : Int} {s sc : Nat} {mode : Int} (h : z.natAbs < 10 ^ 30) (t : s ≤ 12) (hc : sc ≤ 12) (hm : 1 ≤ mode ∧ mode ≤ 7) :
    dRound (decide (z < 0)) (digs z.natAbs) (s : Int) (sc : Int) mode = if s ≤ sc then mk (z * 10 ^ (sc - s)) sc else mk (rdiv mode z (10 ^ (s - sc))) sc := by
  unfold dRound
  rw [if_pos ⟨decOk_D h t, by unfold within; simp; omega, by unfold within; simp; omega⟩, Int.toNat_natCast, Int.toNat_natCast]
  split
  · rw [made_mk, sg_mul, num_digs, sg_D]
    simp only [Int.natCast_pow]; rfl
  · rw [made_mk, num_digs]
    rfl
theorem sg_neg_zero (n : Bool) : sg n 0 = 0 := by unfold sg; split <;> rfl
theorem rquo_zero (n : Bool) (d : Nat) (mode : Int) : rquo n 0 d mode = 0 := by unfold rquo; simp
theorem neg_mul_lt {x y : Int} (hx : x < 0) (hy : 0 < y) : x * y < 0 := Int.mul_neg_of_neg_of_pos hx hy
/-- the sign of a product -/
theorem mul_neg (x y : Int) (h : x * y ≠ 0) : (!(decide (x < 0) == decide (y < 0))) = decide (x * y < 0) := by
  have hx : x ≠ 0 := fun e => h (by rw [e]; simp)
  have hy : y ≠ 0 := fun e => h (by rw [e]; simp)
  by_cases h1 : x < 0 <;> by_cases h2 : y < 0
  · have := Int.mul_pos_of_neg_of_neg h1 h2
    simp [h1, h2]; omega
  · have := Int.mul_neg_of_neg_of_pos h1 (show 0 < y by omega)
    simp [h1, h2]; omega
  · have := Int.mul_neg_of_pos_of_neg (show 0 < x by omega) h2
    simp [h1, h2]; omega
  · have := Int.mul_pos (show 0 < x by omega) (show 0 < y by omega)
    simp [h1, h2]; omega
theorem sg_prod (x y : Int) : sg (!(decide (x < 0) == decide (y < 0))) (x.natAbs * y.natAbs) = x * y := by
  rw [← Int.natAbs_mul]
  by_cases h : x * y = 0
  · rw [h]; exact sg_neg_zero _
  · rw [mul_neg x y h, sg_D]
theorem rdiv_prod (x y : Int) (d : Nat) (mode : Int) : sg (!(decide (x < 0) == decide (y < 0))) (rquo (!(decide (x < 0) == decide (y < 0))) (x.natAbs * y.natAbs) d mode) = rdiv mode (x * y) d := by
  rw [← Int.natAbs_mul]
  by_cases h : x * y = 0
  · rw [h]
    unfold rdiv
    rw [show (0 : Int).natAbs = 0 from rfl, rquo_zero, rquo_zero, sg_neg_zero, sg_neg_zero]
  · rw [mul_neg x y h]
    rfl
theorem dMul_D {z1 z2 : Int} {s1 s2 : Nat} (h1 : z1.natAbs < 10 ^ 30) (h2 : z2.natAbs < 10 ^ 30) (t1 : s1 ≤ 12) (t2 : s2 ≤ 12) :
    dMul (decide (z1 < 0)) (digs z1.natAbs) (s1 : Int) (decide (z2 < 0)) (digs z2.natAbs) (s2 : Int) = if s1 + s2 > 12 then mk (rdiv 7 (z1 * z2) (10 ^ (s1 + s2 - 12))) 12 else mk (z1 * z2) (s1 + s2) := by
  unfold dMul
  rw [if_pos ⟨decOk_D h1 t1, decOk_D h2 t2⟩, Int.toNat_natCast, Int.toNat_natCast, num_digs, num_digs]
  by_cases h : s1 + s2 > 12
  · rw [if_pos (by omega), if_pos h, show (12 : Int) = ((12 : Nat) : Int) from rfl, made_mk, rdiv_prod]
  · rw [if_neg (by omega), if_neg h, ← Int.natCast_add, made_mk, sg_prod]
theorem trimN_spec : ∀ (s V : Nat), (trimN V s).2 ≤ s ∧ (trimN V s).1 * 10 ^ (s - (trimN V s).2) = V ∧ ((trimN V s).2 = 0 ∨ (trimN V s).1 % 10 ≠ 0)
  | 0, V => by simp [trimN]
  | s + 1, V => by
    rw [trimN]
    split
    · obtain ⟨h1, h2, h3⟩ := trimN_spec s (V / 10)
      refine ⟨by omega, ?_, h3⟩
      rw [show s + 1 - (trimN (V / 10) s).2 = (s - (trimN (V / 10) s).2) + 1 by omega, Nat.pow_succ, ← Nat.mul_assoc, h2]
      omega
    · exact ⟨Nat.le_refl _, by simp, .inr (by assumption)⟩
theorem trimN_same {s V : Nat} (h : s = 0 ∨ V % 10 ≠ 0) : trimN V s = (V, s) := by
  cases s with
  | zero => rfl
  | succ s =>
    rw [trimN, if_neg (by omega)]
theorem dTrim_D {z : Int} {s : Nat} (h : z.natAbs < 10 ^ 30) (t : s ≤ 12) : ∃ (y : Int) (r : Nat), dTrim (decide (z < 0)) (digs z.natAbs) (s : Int) = D y r ∧ y.natAbs < 10 ^ 30 ∧ r ≤ s ∧ y * 10 ^ (s - r) = z ∧ (r = 0 ∨ y % 10 ≠ 0) := by
  obtain ⟨h1, h2, h3⟩ := trimN_spec s z.natAbs
  refine ⟨sg (decide (z < 0)) (trimN z.natAbs s).1, (trimN z.natAbs s).2, ?_, ?_, h1, ?_, ?_⟩
  · unfold dTrim
    rw [if_pos (decOk_D h t), Int.toNat_natCast, num_digs]
    unfold D
    rw [sg_abs]
    refine Prod.ext ?_ rfl
    show decide (z < 0) = decide (sg _ _ < 0)
    unfold sg
    by_cases hz : z < 0
    · have : (trimN z.natAbs s).1 ≠ 0 := fun e => by rw [e, Nat.zero_mul] at h2; omega
      simp [hz]; omega
    · simp [hz]
  · rw [sg_abs]
    have : (trimN z.natAbs s).1 ≤ z.natAbs := by
      conv => rhs; rw [← h2]
      exact Nat.le_mul_of_pos_right _ (Nat.pow_pos (by omega))
    omega
  · have : sg (decide (z < 0)) ((trimN z.natAbs s).1 * 10 ^ (s - (trimN z.natAbs s).2)) = z := by rw [h2, sg_D]
    rw [sg_mul, Int.natCast_pow] at this
    exact this
  · rcases h3 with h3 | h3
    · exact .inl h3
    · right
      unfold sg
      split <;> omega
theorem dTrim_same {z : Int} {s : Nat} (h : z.natAbs < 10 ^ 30) (t : s ≤ 12) (h3 : s = 0 ∨ z % 10 ≠ 0) : dTrim (decide (z < 0)) (digs z.natAbs) (s : Int) = D z s := by
  unfold dTrim
  rw [if_pos (decOk_D h t), Int.toNat_natCast, num_digs, trimN_same (by rcases h3 with h3 | h3; exact .inl h3; right; omega)]
  rfl
end Go.Proofs.YtajbbnkomnfmlaaDoor.R
end

section
/-! Rf: values in order, types in order. -/
set_option autoImplicit false
set_option linter.unusedSimpArgs false
set_option linter.unusedVariables false
namespace Go.Proofs.YtajbbnkomnfmlaaDoor.R
open Go.Rf
def bAt (s : ByteArray) (i : Nat) : Int := match s[i]? with
  | some u => (u.toNat : Int)
  | none => 0
theorem byteAt {s : ByteArray} {i : Nat} (h : i < s.size) : ∃ u : UInt8, s[i]? = some u ∧ bAt s i = (u.toNat : Int) := by
  have : s[i]? = some s[i] := getElem?_pos s i h
  exact ⟨s[i], this, by unfold bAt; rw [this]⟩
def figOk (s : ByteArray) : Bool := (List.range s.size).all fun i => within (bAt s i) 32 126
def textOk (s : ByteArray) : Bool := decide ((s.size : Int) ≤ 12) && figOk s
def noText (s : ByteArray) : Bool := s.toList == (⟨#[]⟩ : ByteArray).toList
def decZ (n : Bool) (l : List Int) (s : Int) : Bool := !n && (((l.length : Int) == 0) && (s == 0))
def dayOk (d : Int) : Bool := within d 1 3652059
def spanOk (m d : Int) : Bool := within m (-120000) 120000 && within d (-4000000) 4000000
/-- nothing but what the kind bears -/
def bareOk (k : Int) (y n : Bool) (l : List Int) (s day mo da : Int) (t : ByteArray) : Bool := ((k == 1) || !y) && (((k == 2) || decZ n l s) && (((k == 3) || (day == 0)) && (((k == 4) || ((mo == 0) && (da == 0))) && ((k == 5) || noText t))))
def bodyOk (k : Int) (n : Bool) (l : List Int) (s day mo da : Int) (t : ByteArray) : Bool := if k = 2 then decOk n l s else if k = 3 then dayOk day else if k = 4 then spanOk mo da else if k = 5 then textOk t else true
def vOk (k : Int) (y n : Bool) (l : List Int) (s day mo da : Int) (t : ByteArray) : Bool := within k 0 5 && (bareOk k y n l s day mo da t && bodyOk k n l s day mo da t)
theorem noText_ok {t : ByteArray} (h : noText t = true) : textOk t = true := by
  have h2 : t.data.toList = [] := by
    have h1 := eq_of_beq h
    rw [Lib.toList_data, Lib.toList_data] at h1
    exact h1
  have h3 : t.size = 0 := by
    show t.data.size = 0
    rw [← Array.length_toList, h2]; rfl
  unfold textOk figOk
  rw [h3]
  rfl
section
variable (k0 : Int) (y n : Bool) (l : List Int) (s day mo da : Int) (t : ByteArray)
/-- what is left of a value: nothing -/
def restZ (y n : Bool) (l : List Int) (s day mo da : Int) (t : ByteArray) : Bool := !y && (decZ n l s && ((day == 0) && (((mo == 0) && (da == 0)) && noText t)))
end
end Go.Proofs.YtajbbnkomnfmlaaDoor.R
end

section
/-! Rf: keys: bytes on both sides. -/
set_option autoImplicit false
set_option linter.unusedSimpArgs false
set_option linter.unusedVariables false
namespace Go.Proofs.YtajbbnkomnfmlaaDoor.R
open Go.Rf
def ba (K : List UInt8) : ByteArray := ⟨K.toArray⟩
def ints (K : List UInt8) : List Int := K.map fun b => (b.toNat : Int)
def u8 (z : Int) : UInt8 := UInt8.ofNat (IntKind.u8.wrap z).toNat
theorem wrap8 (z : Int) : IntKind.u8.wrap z = z % 256 := by
  unfold IntKind.wrap IntKind.bits IntKind.signed
  simp
theorem u8w (z : Int) : IntKind.u8.wrap z = ((u8 z).toNat : Int) := by
  unfold u8
  rw [wrap8, UInt8.toNat_ofNat']
  have h1 : 0 ≤ z % 256 := by omega
  have h2 : z % 256 < 256 := by omega
  omega
theorem bytes_ints (K : List UInt8) : bytesOf (ints K) = ba K := by
  unfold bytesOf ints ba
  rw [List.map_map]
  congr 2
  refine (List.map_congr_left (fun b _ => ?_)).trans (List.map_id K)
  show UInt8.ofNat ((b.toNat : Int)).toNat = b
  rw [Int.toNat_natCast]
  simp
theorem ints_len (K : List UInt8) : (ints K).length = K.length := by unfold ints; simp
theorem ba_size (K : List UInt8) : (ba K).size = K.length := rfl
theorem ba_data (K : List UInt8) : (ba K).data.toList = K := rfl
theorem ints_app (K L : List UInt8) : ints K ++ ints L = ints (K ++ L) := by unfold ints; rw [List.map_append]
theorem ba_app (K L : List UInt8) : ba K ++ ba L = ba (K ++ L) := by
  have : ∀ x y : ByteArray, x.data.toList = y.data.toList → x = y := fun x y h => by
    rw [← Lib.mk_data x, ← Lib.mk_data y, h]
  refine this _ _ ?_
  simp [ba, ByteArray.data_append]
theorem ba_get (K : List UInt8) (i : Nat) : (ba K)[i]? = K[i]? := by
  rcases Nat.lt_or_ge i K.length with h | h
  · rw [List.getElem?_eq_getElem h, getElem?_pos (ba K) i h]
    rfl
  · rw [List.getElem?_eq_none h, getElem?_neg (ba K) i (by rw [ba_size]; omega)]
theorem ints_get (K : List UInt8) (i : Nat) : (ints K)[i]? = (K[i]?).map fun b => (b.toNat : Int) := by unfold ints; rw [List.getElem?_map]
theorem ints1 (z : Int) : [IntKind.u8.wrap z] = ints [u8 z] := by rw [u8w]; rfl
theorem of_data (t : ByteArray) : ba t.data.toList = t := Lib.mk_data t
def turn (b : UInt8) : UInt8 := u8 (255 - (b.toNat : Int))
def flip (K : List UInt8) : List UInt8 := K.map turn
theorem fill_set {g : List Int} {i : Nat} (h : i < g.length) : (g.take i ++ List.replicate (g.length - i) (0 : Int)).set i g[i] = g.take (i + 1) ++ List.replicate (g.length - (i + 1)) (0 : Int) := by
  have e : g.length - i = (g.length - (i + 1)) + 1 := by omega
  have hl : (g.take i).length = i := by rw [List.length_take]; omega
  rw [e, List.replicate_succ, List.set_append_right (h := by omega), hl, Nat.sub_self, List.set_cons_zero, List.take_add_one, List.getElem?_eq_getElem h, Option.toList_some, List.append_assoc, List.singleton_append]
theorem fill_len {g : List Int} {i : Nat} (h : i ≤ g.length) : (g.take i ++ List.replicate (g.length - i) (0 : Int)).length = g.length := by
  rw [List.length_append, List.length_take, List.length_replicate]; omega
theorem fill_get {g : List Int} {i : Nat} (h : i < g.length) : (g.take i ++ List.replicate (g.length - i) (0 : Int))[i]? = some 0 := by
  rw [List.getElem?_append_right (by rw [List.length_take]; omega), List.length_take, show i - min i g.length = 0 by omega]
  rw [List.getElem?_replicate, if_pos (by omega)]
theorem flip_len (K : List UInt8) : (flip K).length = K.length := by unfold flip; simp
theorem flip_get {K : List UInt8} {i : Nat} (h : i < K.length) : (ints (flip K))[i]'(by rw [ints_len, flip_len]; exact h) = IntKind.u8.wrap (255 - (K[i].toNat : Int)) := by
  rw [u8w]
  unfold ints flip turn
  simp
def k3 (z : Int) : List UInt8 := [u8 (z / 65536), u8 (z / 256), u8 z]
end Go.Proofs.YtajbbnkomnfmlaaDoor.R
end

section
/-! Rf: keys of numbers. -/
set_option autoImplicit false
set_option linter.unusedSimpArgs false
set_option linter.unusedVariables false
namespace Go.Proofs.YtajbbnkomnfmlaaDoor.R
open Go.Rf
def gb (b : UInt8) : UInt8 := u8 (IntKind.u8.wrap ((b.toNat : Int) - 48) + 1)
def dig (W : List UInt8) : List UInt8 := W.map gb ++ [0]
def nk (neg : Bool) (hdr : UInt8) (W : List UInt8) : List UInt8 := if neg = true then 127 :: flip (hdr :: dig W) else 129 :: (hdr :: dig W)
theorem dig_len (W : List UInt8) : (dig W).length = W.length + 1 := by unfold dig; simp
theorem trimB_zero (T : List UInt8) : Lib.trimRightB (T ++ [48]) 48 = Lib.trimRightB T 48 := by
  unfold Lib.trimRightB
  rw [List.reverse_append]
  simp
theorem trimB_keep (T : List UInt8) (b : UInt8) (h : b ≠ 48) : Lib.trimRightB (T ++ [b]) 48 = T ++ [b] := by
  unfold Lib.trimRightB
  rw [List.reverse_append]
  simp [h]
theorem trimB_len (T : List UInt8) : (Lib.trimRightB T 48).length ≤ T.length := by
  unfold Lib.trimRightB
  rw [List.length_reverse]
  have := (List.dropWhile_sublist (fun x => x == (48 : UInt8)) (l := T.reverse)).length_le
  rw [List.length_reverse] at this
  exact this
theorem dd_some : ∀ (n : Nat), 0 < n → ∃ b ∈ Lib.decDigits n, b ≠ 48 := by
  intro n
  induction n using Nat.strongRecOn with
  | _ n ih =>
    intro hn
    unfold Lib.decDigits
    by_cases h : n < 10
    · rw [dif_pos h]
      refine ⟨UInt8.ofNat (48 + n), List.mem_cons_self, fun e => ?_⟩
      have := congrArg UInt8.toNat e
      rw [UInt8.toNat_ofNat'] at this
      have h48 : (48 : UInt8).toNat = 48 := rfl
      omega
    · rw [dif_neg h]
      obtain ⟨b, hb, hb2⟩ := ih (n / 10) (by omega) (by omega)
      exact ⟨b, List.mem_append_left _ hb, hb2⟩
section
variable {n : Bool} {l : List Int} {s : Int}
end
/-- the key of a number in order -/
def numK (n : Bool) (V r : Nat) : List UInt8 := if V = 0 then [128] else nk n (u8 (64 + ((Lib.decDigits V).length : Int) - r)) (Lib.trimRightB (Lib.decDigits V) 48)
end Go.Proofs.YtajbbnkomnfmlaaDoor.R
end

section
/-! Rf: how values compare. -/
set_option autoImplicit false
set_option linter.unusedSimpArgs false
set_option linter.unusedVariables false
namespace Go.Proofs.YtajbbnkomnfmlaaDoor.R
open Go.Rf
def zc (x y : Int) : Int := if x < y then -1 else if x > y then 1 else 0
def tc (a b : ByteArray) : Int := Lib.compareBytes a.data.toList b.data.toList
theorem less_cmp : ∀ (a b : List UInt8), (Op.bytesLess a b = true ↔ Lib.compareBytes a b = -1) ∧ ((Lib.compareBytes a b = 0) ↔ a = b) ∧ (Lib.compareBytes a b = -1 ∨ Lib.compareBytes a b = 0 ∨ Lib.compareBytes a b = 1)
  | [], [] => by simp [Op.bytesLess, Lib.compareBytes]
  | [], _ :: _ => by simp [Op.bytesLess, Lib.compareBytes]
  | _ :: _, [] => by simp [Op.bytesLess, Lib.compareBytes]
  | x :: a, y :: b => by
    obtain ⟨h1, h2, h3⟩ := less_cmp a b
    unfold Op.bytesLess Lib.compareBytes
    by_cases hxy : x = y
    · subst hxy
      have hlt : ¬ x < x := UInt8.lt_irrefl x
      simp only [hlt, decide_false, beq_self_eq_true, Bool.false_or, Bool.true_and, if_false, List.cons.injEq, true_and]
      exact ⟨h1, h2, h3⟩
    · by_cases hlt : x < y
      · simp [hlt, hxy]
      · have hgt : y < x := UInt8.lt_of_le_of_ne (UInt8.not_lt.1 hlt) (Ne.symm hxy)
        simp [hlt, hgt, hxy]
def bit (b : Bool) : Int := if b then 1 else 0
theorem bit_sub (b c : Bool) : IntKind.i64.wrap (bit b - bit c) = zc (bit b) (bit c) := by cases b <;> cases c <;> decide
/-- how two values of one kind compare -/
def vc (k0 : Int) (y1 n1 : Bool) (l1 : List Int) (s1 d1 m1 a1 : Int) (t1 : ByteArray) (y2 n2 : Bool) (l2 : List Int) (s2 d2 m2 a2 : Int) (t2 : ByteArray) : Int :=
  if k0 = 1 then zc (bit y1) (bit y2) else if k0 = 2 then dCmp n1 l1 s1.toNat n2 l2 s2.toNat else if k0 = 3 then zc d1 d2 else if k0 = 4 then (if m1 = m2 then zc a1 a2 else zc m1 m2) else tc t1 t2
def vo (k1 : Int) (y1 n1 : Bool) (l1 : List Int) (s1 d1 m1 a1 : Int) (t1 : ByteArray) (k2 : Int) (y2 n2 : Bool) (l2 : List Int) (s2 d2 m2 a2 : Int) (t2 : ByteArray) : Int :=
  if k1 = k2 then vc k1 y1 n1 l1 s1 d1 m1 a1 t1 y2 n2 l2 s2 d2 m2 a2 t2 else zc k1 k2
theorem zc_zero {x y : Int} : zc x y = 0 ↔ x = y := by
  unfold zc
  split
  · constructor <;> intro h <;> omega
  · split <;> constructor <;> intro h <;> omega
section
variable (k0 : Int) (y1 n1 : Bool) (l1 : List Int) (s1 d1 m1 a1 : Int) (t1 : ByteArray) (y2 n2 : Bool) (l2 : List Int) (s2 d2 m2 a2 : Int) (t2 : ByteArray)
theorem vOk_kind {k0 : Int} {y n : Bool} {l : List Int} {s day mo da : Int} {t : ByteArray} (h : vOk k0 y n l s day mo da t = true) : 0 ≤ k0 ∧ k0 ≤ 5 := by
  unfold vOk within at h
  simp only [Bool.and_eq_true, decide_eq_true_iff] at h
  exact ⟨h.1.1, h.1.2⟩
theorem noText_nil {t : ByteArray} (h : noText t = true) : t.data.toList = [] := by
  have h1 := eq_of_beq h
  rw [Lib.toList_data, Lib.toList_data] at h1
  exact h1
theorem vOk_noText {k0 : Int} {y n : Bool} {l : List Int} {s day mo da : Int} {t : ByteArray} (h : vOk k0 y n l s day mo da t = true) (h5 : k0 ≠ 5) : t.data.toList = [] := by
  unfold vOk bareOk at h
  rw [beq_eq_false_iff_ne.2 h5] at h
  simp only [Bool.and_eq_true, Bool.false_or] at h
  exact noText_nil h.2.1.2.2.2.2
end
section
variable (k1 : Int) (y1 n1 : Bool) (l1 : List Int) (s1 d1 m1 a1 : Int) (t1 : ByteArray) (k2 : Int) (y2 n2 : Bool) (l2 : List Int) (s2 d2 m2 a2 : Int) (t2 : ByteArray)
/-- what ValueOrder hands back -/
def vOrd : Int := if vOk k1 y1 n1 l1 s1 d1 m1 a1 t1 && vOk k2 y2 n2 l2 s2 d2 m2 a2 t2 then vo k1 y1 n1 l1 s1 d1 m1 a1 t1 k2 y2 n2 l2 s2 d2 m2 a2 t2 else 2
/-- can ValueCmp tell? -/
def vCan : Bool := vOk k1 y1 n1 l1 s1 d1 m1 a1 t1 && vOk k2 y2 n2 l2 s2 d2 m2 a2 t2 && (k1 != 0 && k1 == k2)
def vCmp : Int := if vCan k1 y1 n1 l1 s1 d1 m1 a1 t1 k2 y2 n2 l2 s2 d2 m2 a2 t2 then vc k1 y1 n1 l1 s1 d1 m1 a1 t1 y2 n2 l2 s2 d2 m2 a2 t2 else 0
variable (z1 : l1.length ≤ 1048576) (x1 : t1.size ≤ 1048576) (z2 : l2.length ≤ 1048576) (x2 : t2.size ≤ 1048576)
include z1 x1 z2 x2
end
end Go.Proofs.YtajbbnkomnfmlaaDoor.R
end

section
/-! Rf: no key begins another. -/
set_option autoImplicit false
set_option linter.unusedSimpArgs false
set_option linter.unusedVariables false
namespace Go.Proofs.YtajbbnkomnfmlaaDoor.R
open Go.Rf
theorem ba_list (K : List UInt8) : (ba K).toList = K := by rw [Lib.toList_data]; rfl
theorem u8_nat (z : Int) : ((u8 z).toNat : Int) = z % 256 := by rw [← u8w, wrap8]
def NumS (K : List UInt8) : Prop := K = [128] ∨ ∃ (neg : Bool) (hdr : UInt8) (W : List UInt8), (∀ b ∈ W, 48 ≤ b.toNat ∧ b.toNat ≤ 57) ∧ K = nk neg hdr W
structure BodyS (k0 : Int) (B : List UInt8) : Prop where
  s0 : k0 = 0 → B = []
  s1 : k0 = 1 → B.length = 1
  s2 : k0 = 2 → NumS B
  s3 : k0 = 3 → B.length = 3
  s4 : k0 = 4 → B.length = 6
  s5 : k0 = 5 → ∃ T : List UInt8, (∀ b ∈ T, b ≠ 0) ∧ B = T ++ [0]
theorem term_free : ∀ {T1 T2 : List UInt8}, (∀ b ∈ T1, b ≠ 0) → (∀ b ∈ T2, b ≠ 0) → T1 ++ [0] <+: T2 ++ [0] → T1 = T2
  | [], [], _, _, _ => rfl
  | [], y :: T2, _, h2, h => by
    have h : (0 : UInt8) :: [] <+: y :: (T2 ++ [0]) := h
    rw [List.cons_prefix_cons] at h
    exact absurd h.1.symm (h2 y List.mem_cons_self)
  | x :: T1, [], h1, _, h => by
    have h : x :: (T1 ++ [0]) <+: (0 : UInt8) :: [] := h
    rw [List.cons_prefix_cons] at h
    exact absurd h.1 (h1 x List.mem_cons_self)
  | x :: T1, y :: T2, h1, h2, h => by
    have h : x :: (T1 ++ [0]) <+: y :: (T2 ++ [0]) := h
    rw [List.cons_prefix_cons] at h
    rw [h.1, term_free (fun b hb => h1 b (List.mem_cons_of_mem _ hb)) (fun b hb => h2 b (List.mem_cons_of_mem _ hb)) h.2]
theorem gb_ne {b : UInt8} (h : 48 ≤ b.toNat ∧ b.toNat ≤ 57) : gb b ≠ 0 := fun e => by
  have h1 := congrArg UInt8.toNat e
  have h2 := u8_nat (IntKind.u8.wrap ((b.toNat : Int) - 48) + 1)
  rw [wrap8] at h2
  have h0 : (0 : UInt8).toNat = 0 := rfl
  have h3 : (gb b).toNat = (u8 (IntKind.u8.wrap ((b.toNat : Int) - 48) + 1)).toNat := rfl
  rw [wrap8] at h3
  omega
theorem dig_free {W1 W2 : List UInt8} (h1 : ∀ b ∈ W1, 48 ≤ b.toNat ∧ b.toNat ≤ 57) (h2 : ∀ b ∈ W2, 48 ≤ b.toNat ∧ b.toNat ≤ 57) (h : dig W1 <+: dig W2) : dig W1 = dig W2 := by
  have hh : ∀ {W : List UInt8}, (∀ b ∈ W, 48 ≤ b.toNat ∧ b.toNat ≤ 57) → ∀ b ∈ W.map gb, b ≠ 0 := fun {W} hW b hb => by
    obtain ⟨c, hc, rfl⟩ := List.mem_map.1 hb
    exact gb_ne (hW c hc)
  unfold dig at h ⊢
  rw [term_free (hh h1) (hh h2) h]
theorem turn_turn (b : UInt8) : turn (turn b) = b := by
  refine UInt8.toNat.inj ?_
  unfold turn
  have h1 := u8_nat (255 - ((u8 (255 - (b.toNat : Int))).toNat : Int))
  have h2 := u8_nat (255 - (b.toNat : Int))
  have h3 : b.toNat < 256 := UInt8.toNat_lt b
  omega
theorem flip_flip (K : List UInt8) : flip (flip K) = K := by
  unfold flip
  rw [List.map_map]
  exact (List.map_congr_left (fun b _ => turn_turn b)).trans (List.map_id K)
theorem flip_pre {a b : List UInt8} (h : flip a <+: flip b) : a <+: b := by
  have h2 : flip (flip a) <+: flip (flip b) := List.IsPrefix.map turn h
  rwa [flip_flip, flip_flip] at h2
theorem num_free {B1 B2 : List UInt8} (h1 : NumS B1) (h2 : NumS B2) (h : B1 <+: B2) : B1 = B2 := by
  rcases h1 with rfl | ⟨n1, d1, W1, w1, rfl⟩
  · rcases h2 with rfl | ⟨n2, d2, W2, w2, rfl⟩
    · rfl
    · unfold nk at h
      cases n2
      · rw [if_neg (by simp), List.cons_prefix_cons] at h; exact absurd h.1 (by decide)
      · rw [if_pos rfl, List.cons_prefix_cons] at h; exact absurd h.1 (by decide)
  · rcases h2 with rfl | ⟨n2, d2, W2, w2, rfl⟩
    · unfold nk at h
      cases n1
      · rw [if_neg (by simp), List.cons_prefix_cons] at h; exact absurd h.1 (by decide)
      · rw [if_pos rfl, List.cons_prefix_cons] at h; exact absurd h.1 (by decide)
    · have same : d1 :: dig W1 <+: d2 :: dig W2 → d1 :: dig W1 = d2 :: dig W2 := fun h => by
        rw [List.cons_prefix_cons] at h
        rw [h.1, dig_free w1 w2 h.2]
      unfold nk at h ⊢
      cases n1 <;> cases n2
      · simp only [Bool.false_eq_true, if_false] at h ⊢
        rw [List.cons_prefix_cons] at h
        rw [same h.2]
      · simp only [Bool.false_eq_true, if_false, if_true] at h ⊢
        rw [List.cons_prefix_cons] at h
        exact absurd h.1 (by decide)
      · simp only [Bool.false_eq_true, if_false, if_true] at h ⊢
        rw [List.cons_prefix_cons] at h
        exact absurd h.1 (by decide)
      · simp only [if_true] at h ⊢
        rw [List.cons_prefix_cons] at h
        rw [same (flip_pre h.2)]
theorem pre_len {a b : List UInt8} (h : a <+: b) (e : a.length = b.length) : a = b := h.eq_of_length e
theorem body_free {k0 : Int} {B1 B2 : List UInt8} (hk : 0 ≤ k0 ∧ k0 ≤ 5) (S1 : BodyS k0 B1) (S2 : BodyS k0 B2) (h : B1 <+: B2) : B1 = B2 := by
  have : k0 = 0 ∨ k0 = 1 ∨ k0 = 2 ∨ k0 = 3 ∨ k0 = 4 ∨ k0 = 5 := by omega
  rcases this with e | e | e | e | e | e
  · rw [S1.s0 e, S2.s0 e]
  · exact pre_len h (by rw [S1.s1 e, S2.s1 e])
  · exact num_free (S1.s2 e) (S2.s2 e) h
  · exact pre_len h (by rw [S1.s3 e, S2.s3 e])
  · exact pre_len h (by rw [S1.s4 e, S2.s4 e])
  · obtain ⟨T1, h1, rfl⟩ := S1.s5 e
    obtain ⟨T2, h2, rfl⟩ := S2.s5 e
    rw [term_free h1 h2 h]
theorem dd_range : ∀ (n : Nat), ∀ b ∈ Lib.decDigits n, 48 ≤ b.toNat ∧ b.toNat ≤ 57 := by
  intro n
  induction n using Nat.strongRecOn with
  | _ n ih =>
    intro b hb
    unfold Lib.decDigits at hb
    by_cases h : n < 10
    · rw [dif_pos h, List.mem_singleton] at hb
      rw [hb, UInt8.toNat_ofNat']
      omega
    · rw [dif_neg h, List.mem_append, List.mem_singleton] at hb
      rcases hb with hb | hb
      · exact ih (n / 10) (by omega) b hb
      · rw [hb, UInt8.toNat_ofNat']
        omega
theorem trim_mem {T : List UInt8} {c b : UInt8} (h : b ∈ Lib.trimRightB T c) : b ∈ T := by
  unfold Lib.trimRightB at h
  rw [List.mem_reverse] at h
  exact List.mem_reverse.1 ((List.dropWhile_sublist _).subset h)
section
variable {k0 : Int} {y n : Bool} {l : List Int} {s day mo da : Int} {t : ByteArray}
end
/-- no key begins another -/
theorem key_free {k1 k2 : Int} {B1 B2 : List UInt8} (h1 : 0 ≤ k1 ∧ k1 ≤ 5) (h2 : 0 ≤ k2 ∧ k2 ≤ 5) (S1 : BodyS k1 B1) (S2 : BodyS k2 B2) (h : u8 (IntKind.i64.wrap (k1 + 1)) :: B1 <+: u8 (IntKind.i64.wrap (k2 + 1)) :: B2) :
    u8 (IntKind.i64.wrap (k1 + 1)) :: B1 = u8 (IntKind.i64.wrap (k2 + 1)) :: B2 := by
  rw [List.cons_prefix_cons] at h
  have hk : k1 = k2 := by
    have e := congrArg UInt8.toNat h.1
    have a1 := u8_nat (k1 + 1)
    have a2 := u8_nat (k2 + 1)
    rw [wrap64 (by omega) (by omega), wrap64 (by omega) (by omega)] at e
    omega
  subst hk
  rw [body_free h1 S1 S2 h.2]
end Go.Proofs.YtajbbnkomnfmlaaDoor.R
end

section
/-! Rf: figures and what they say. -/
set_option autoImplicit false
set_option linter.unusedSimpArgs false
set_option linter.unusedVariables false
namespace Go.Proofs.YtajbbnkomnfmlaaDoor.R
open Go.Rf
/-- what figures say -/
def dv (L : List UInt8) : Nat := L.foldl (fun n b => n * 10 + (b.toNat - 48)) 0
def Dig (L : List UInt8) : Prop := ∀ b ∈ L, 48 ≤ b.toNat ∧ b.toNat ≤ 57
theorem Dig.app {K L : List UInt8} (h : Dig K) (h' : Dig L) : Dig (K ++ L) := fun b hb => (List.mem_append.1 hb).elim (h b) (h' b)
theorem Dig.take {L : List UInt8} (h : Dig L) (n : Nat) : Dig (L.take n) := fun b hb => h b (List.mem_of_mem_take hb)
theorem Dig.drop {L : List UInt8} (h : Dig L) (n : Nat) : Dig (L.drop n) := fun b hb => h b (List.mem_of_mem_drop hb)
theorem dv_from : ∀ (L : List UInt8) (acc : Nat), L.foldl (fun n b => n * 10 + (b.toNat - 48)) acc = acc * 10 ^ L.length + dv L
  | [], acc => by simp [dv]
  | b :: L, acc => by
    have h1 := dv_from L (acc * 10 + (b.toNat - 48))
    have h2 := dv_from L (0 * 10 + (b.toNat - 48))
    rw [List.foldl_cons, h1]
    unfold dv
    rw [List.foldl_cons, h2, List.length_cons, Nat.pow_succ, Nat.add_mul, Nat.zero_mul, Nat.zero_add, Nat.mul_assoc, Nat.mul_comm 10]
    unfold dv
    omega
theorem dv_app (K L : List UInt8) : dv (K ++ L) = dv K * 10 ^ L.length + dv L := by
  conv => lhs; unfold dv
  rw [List.foldl_append, dv_from]
  rfl
theorem dv_one (b : UInt8) : dv [b] = b.toNat - 48 := by simp [dv]
theorem dv_nil : dv [] = 0 := rfl
theorem dv_lt : ∀ {L : List UInt8}, Dig L → dv L < 10 ^ L.length
  | [], _ => by simp [dv]
  | b :: L, h => by
    have h1 := dv_lt (L := L) (fun x hx => h x (List.mem_cons_of_mem _ hx))
    have hb := h b List.mem_cons_self
    have e : dv (b :: L) = (b.toNat - 48) * 10 ^ L.length + dv L := by
      rw [show b :: L = [b] ++ L from rfl, dv_app, dv_one]
    rw [e, List.length_cons, Nat.pow_succ]
    have h2 : (b.toNat - 48) * 10 ^ L.length ≤ 9 * 10 ^ L.length := Nat.mul_le_mul_right _ (by omega)
    omega
theorem dv_dd (n : Nat) : dv (Lib.decDigits n) = n := by
  induction n using Nat.strongRecOn with
  | _ n ih =>
    by_cases h : n < 10
    · rw [dd1 h, dv_one, UInt8.toNat_ofNat']
      omega
    · rw [ddS h, dv_app, ih (n / 10) (by omega), dv_one, UInt8.toNat_ofNat']
      simp only [List.length_singleton, Nat.pow_one]
      omega
theorem ba_extract (L : List UInt8) (a b : Nat) : (ba L).extract a b = ba ((L.take b).drop a) := by
  have e := List.take_drop (i := b - a) (j := a) (l := L)
  rw [← Lib.mk_data ((ba L).extract a b)]
  show ba ((ba L).extract a b).data.toList = _
  rw [ByteArray.data_extract, Array.toList_extract]
  congr 1
  show ((L.drop a).take (b - a)) = _
  rw [e]
  by_cases hab : a ≤ b
  · rw [show a + (b - a) = b by omega]
  · rw [List.drop_eq_nil_of_le (by rw [List.length_take]; omega), List.drop_eq_nil_of_le (by rw [List.length_take]; omega)]
end Go.Proofs.YtajbbnkomnfmlaaDoor.R
end

section
/-! Rf: keys stand in the order of what they say: lists of bytes, figures. -/
set_option autoImplicit false
set_option linter.unusedSimpArgs false
set_option linter.unusedVariables false
namespace Go.Proofs.YtajbbnkomnfmlaaDoor.R
open Go.Rf
abbrev cb := Lib.compareBytes
theorem cb_cons (x y : UInt8) (a b : List UInt8) : cb (x :: a) (y :: b) = if x.toNat < y.toNat then -1 else if y.toNat < x.toNat then 1 else cb a b := by
  show Lib.compareBytes (x :: a) (y :: b) = _
  simp only [Lib.compareBytes, UInt8.lt_iff_toNat_lt]
theorem cb_self : ∀ a : List UInt8, cb a a = 0
  | [] => rfl
  | x :: a => by rw [cb_cons, if_neg (by omega), if_neg (by omega)]; exact cb_self a
theorem cb_app : ∀ {a b : List UInt8} (x y : List UInt8), a.length = b.length → cb (a ++ x) (b ++ y) = if cb a b = 0 then cb x y else cb a b
  | [], [], x, y, _ => by rw [if_pos (cb_self [])]; rfl
  | [], _ :: _, _, _, h => by simp at h
  | _ :: _, [], _, _, h => by simp at h
  | u :: a, v :: b, x, y, h => by
    have ih := cb_app x y (show a.length = b.length by simpa using h)
    rw [List.cons_append, List.cons_append, cb_cons, cb_cons]
    by_cases p : u.toNat < v.toNat
    · rw [if_pos p, if_pos p, if_neg (by omega)]
    · by_cases q : v.toNat < u.toNat
      · rw [if_neg p, if_pos q, if_neg p, if_pos q, if_neg (by omega)]
      · rw [if_neg p, if_neg q, if_neg p, if_neg q]; exact ih
theorem turn_nat (b : UInt8) : (turn b).toNat = 255 - b.toNat := by
  unfold turn
  have h2 := u8_nat (255 - (b.toNat : Int))
  have h3 : b.toNat < 256 := UInt8.toNat_lt b
  omega
theorem cb_flip : ∀ {a b : List UInt8}, (a <+: b → a = b) → (b <+: a → b = a) → cb (flip a) (flip b) = -cb a b
  | [], [], _, _ => rfl
  | [], y :: b, h, _ => by have := h List.nil_prefix; cases this
  | x :: a, [], _, h => by have := h List.nil_prefix; cases this
  | x :: a, y :: b, h1, h2 => by
    have hx : x.toNat < 256 := UInt8.toNat_lt x
    have hy : y.toNat < 256 := UInt8.toNat_lt y
    show cb (turn x :: flip a) (turn y :: flip b) = _
    rw [cb_cons, cb_cons, turn_nat, turn_nat]
    by_cases p : x.toNat < y.toNat
    · rw [if_neg (show ¬ 255 - x.toNat < 255 - y.toNat by omega), if_pos (show 255 - y.toNat < 255 - x.toNat by omega), if_pos p]; rfl
    · by_cases q : y.toNat < x.toNat
      · rw [if_pos (show 255 - x.toNat < 255 - y.toNat by omega), if_neg p, if_pos q]
      · have e : x = y := UInt8.toNat.inj (by omega)
        subst e
        rw [if_neg (by omega), if_neg (by omega), if_neg p, if_neg q]
        refine cb_flip (fun h => ?_) (fun h => ?_)
        · have := h1 (List.cons_prefix_cons.2 ⟨rfl, h⟩); injection this
        · have := h2 (List.cons_prefix_cons.2 ⟨rfl, h⟩); injection this
theorem cb_term : ∀ {a b : List UInt8}, (∀ x ∈ a, x ≠ 0) → (∀ x ∈ b, x ≠ 0) → cb (a ++ [0]) (b ++ [0]) = cb a b
  | [], [], _, _ => rfl
  | [], y :: b, _, h => by
    have hy : y.toNat ≠ 0 := fun e => h y List.mem_cons_self (UInt8.toNat.inj e)
    show cb (0 :: []) (y :: (b ++ [0])) = -1
    rw [cb_cons, if_pos (show (0 : UInt8).toNat < y.toNat by show 0 < y.toNat; omega)]
  | x :: a, [], h, _ => by
    have hx : x.toNat ≠ 0 := fun e => h x List.mem_cons_self (UInt8.toNat.inj e)
    show cb (x :: (a ++ [0])) (0 :: []) = 1
    rw [cb_cons, if_neg (show ¬ x.toNat < (0 : UInt8).toNat by show ¬ x.toNat < 0; omega), if_pos (show (0 : UInt8).toNat < x.toNat by show 0 < x.toNat; omega)]
  | x :: a, y :: b, h1, h2 => by
    rw [List.cons_append, List.cons_append, cb_cons, cb_cons, cb_term (fun z hz => h1 z (List.mem_cons_of_mem _ hz)) (fun z hz => h2 z (List.mem_cons_of_mem _ hz))]
theorem cb_k3 {x y : Int} (h1 : 0 ≤ x ∧ x < 16777216) (h2 : 0 ≤ y ∧ y < 16777216) : cb (k3 x) (k3 y) = zc x y := by
  unfold k3
  rw [cb_cons, cb_cons, cb_cons, cb_self]
  have a1 := u8_nat (x / 65536)
  have a2 := u8_nat (x / 256)
  have a3 := u8_nat x
  have b1 := u8_nat (y / 65536)
  have b2 := u8_nat (y / 256)
  have b3 := u8_nat y
  unfold zc
  repeat' split
  all_goals omega
/-! ### figures -/
theorem gb_nat {b : UInt8} (h : 48 ≤ b.toNat ∧ b.toNat ≤ 57) : (gb b).toNat = b.toNat - 47 := by
  have h2 := u8_nat (IntKind.u8.wrap ((b.toNat : Int) - 48) + 1)
  have h3 : (gb b).toNat = (u8 (IntKind.u8.wrap ((b.toNat : Int) - 48) + 1)).toNat := rfl
  rw [wrap8] at h2 h3
  omega
theorem trimB_cons (x : UInt8) (P : List UInt8) : Lib.trimRightB (x :: P) 48 = if Lib.trimRightB P 48 = [] then (if x = 48 then [] else [x]) else x :: Lib.trimRightB P 48 := by
  unfold Lib.trimRightB
  rw [List.reverse_cons, List.dropWhile_append]
  by_cases h : (P.reverse.dropWhile fun b => b == 48) = []
  · rw [h]
    by_cases hx : x = 48
    · simp [hx]
    · simp [hx]
  · have h' : ¬ (P.reverse.dropWhile fun b => b == 48).isEmpty = true := by simpa using h
    rw [if_neg h', if_neg (by simpa using h)]
    simp
theorem cb_trim : ∀ {P1 P2 : List UInt8}, P1.length = P2.length → (∀ b ∈ P1, 48 ≤ b.toNat ∧ b.toNat ≤ 57) → (∀ b ∈ P2, 48 ≤ b.toNat ∧ b.toNat ≤ 57) →
    cb (dig (Lib.trimRightB P1 48)) (dig (Lib.trimRightB P2 48)) = cb P1 P2
  | [], [], _, _, _ => rfl
  | [], _ :: _, h, _, _ => by simp at h
  | _ :: _, [], h, _, _ => by simp at h
  | x :: P1, y :: P2, h, h1, h2 => by
    have ih := cb_trim (show P1.length = P2.length by simpa using h) (fun b hb => h1 b (List.mem_cons_of_mem _ hb)) (fun b hb => h2 b (List.mem_cons_of_mem _ hb))
    have hx := h1 x List.mem_cons_self
    have hy := h2 y List.mem_cons_self
    have gx := gb_nat hx
    have gy := gb_nat hy
    have n48 : (48 : UInt8).toNat = 48 := rfl
    have z0 : (0 : UInt8).toNat = 0 := rfl
    have d0 : dig [] = [0] := rfl
    have dc : ∀ (u : UInt8) (W : List UInt8), dig (u :: W) = gb u :: dig W := fun u W => rfl
    rw [trimB_cons, trimB_cons, cb_cons]
    have hd : ∀ {P : List UInt8}, (∀ b ∈ P, 48 ≤ b.toNat ∧ b.toNat ≤ 57) → Lib.trimRightB P 48 ≠ [] → ∃ c W, dig (Lib.trimRightB P 48) = c :: W ∧ 0 < c.toNat := fun {P} hP hne => by
      obtain ⟨c, W, e⟩ := List.exists_cons_of_ne_nil hne
      refine ⟨gb c, dig W, by rw [e]; rfl, ?_⟩
      have := gb_nat (hP c (trim_mem (by rw [e]; exact List.mem_cons_self)))
      have := hP c (trim_mem (by rw [e]; exact List.mem_cons_self))
      omega
    by_cases e1 : Lib.trimRightB P1 48 = []
    · by_cases e2 : Lib.trimRightB P2 48 = []
      · rw [if_pos e1, if_pos e2]
        rw [e1, e2, cb_self] at ih
        rw [← ih]
        by_cases c1 : x = 48
        · by_cases c2 : y = 48
          · rw [if_pos c1, if_pos c2, c1, c2, cb_self, if_neg (by omega), if_neg (by omega)]
          · have : y.toNat ≠ 48 := fun e => c2 (UInt8.toNat.inj (by omega))
            rw [if_pos c1, if_neg c2, c1, d0, dc, cb_cons, if_pos (by omega), if_pos (by omega)]
        · have c1' : x.toNat ≠ 48 := fun e => c1 (UInt8.toNat.inj (by omega))
          by_cases c2 : y = 48
          · rw [if_neg c1, if_pos c2, c2, d0, dc, cb_cons, if_neg (by omega), if_pos (by omega), if_neg (by omega), if_pos (by omega)]
          · rw [if_neg c1, if_neg c2, dc, dc, cb_cons, cb_self, gx, gy]
            repeat' split
            all_goals omega
      · rw [if_pos e1, if_neg e2]
        obtain ⟨c, W, ec, hc⟩ := hd (fun b hb => h2 b (List.mem_cons_of_mem _ hb)) e2
        have ih' : cb P1 P2 = -1 := by rw [← ih, e1, d0, ec, cb_cons, if_pos (by omega)]
        by_cases c1 : x = 48
        · rw [if_pos c1, d0, dc, cb_cons, if_pos (by omega), ih', c1]
          repeat' split
          all_goals omega
        · rw [if_neg c1, dc, dc, cb_cons, gx, gy, ih', d0, ec, cb_cons, if_pos (show (0 : UInt8).toNat < c.toNat by omega)]
          repeat' split
          all_goals omega
    · by_cases e2 : Lib.trimRightB P2 48 = []
      · rw [if_neg e1, if_pos e2]
        obtain ⟨c, W, ec, hc⟩ := hd (fun b hb => h1 b (List.mem_cons_of_mem _ hb)) e1
        have ih' : cb P1 P2 = 1 := by rw [← ih, e2, d0, ec, cb_cons, if_neg (by omega), if_pos (by omega)]
        by_cases c2 : y = 48
        · rw [if_pos c2, d0, dc, cb_cons, if_neg (by omega), if_pos (by omega), ih', c2]
          repeat' split
          all_goals omega
        · rw [if_neg c2, dc, dc, cb_cons, gx, gy, ih', d0, ec, cb_cons, if_neg (show ¬ c.toNat < (0 : UInt8).toNat by omega), if_pos (show (0 : UInt8).toNat < c.toNat by omega)]
          repeat' split
          all_goals omega
      · rw [if_neg e1, if_neg e2, dc, dc, cb_cons, gx, gy, ih]
        repeat' split
        all_goals omega
theorem dd_lt (n : Nat) : ∀ (m : Nat), (Lib.decDigits m).length = n → 0 < n ∧ m < 10 ^ n ∧ (0 < m → 10 ^ (n - 1) ≤ m) := by
  induction n with
  | zero =>
    intro m h
    unfold Lib.decDigits at h
    split at h
    · simp at h
    · rw [List.length_append] at h; simp at h
  | succ n ih =>
    intro m h
    unfold Lib.decDigits at h
    by_cases hm : m < 10
    · rw [dif_pos hm] at h
      have : n = 0 := by simpa using h.symm
      subst this
      exact ⟨by omega, by simpa using hm, fun h0 => by simp; omega⟩
    · rw [dif_neg hm, List.length_append, List.length_singleton] at h
      obtain ⟨h1, h2, h3⟩ := ih (m / 10) (by omega)
      have h3 := h3 (by omega)
      have e : 10 ^ (n + 1) = 10 ^ n * 10 := Nat.pow_succ ..
      have e2 : 10 ^ n = 10 ^ (n - 1) * 10 := by rw [← Nat.pow_succ, show (n - 1).succ = n by omega]
      refine ⟨by omega, by omega, fun _ => ?_⟩
      rw [show n + 1 - 1 = n by omega]
      omega
theorem dd_cmp : ∀ (n a b : Nat), (Lib.decDigits a).length = n → (Lib.decDigits b).length = n → cb (Lib.decDigits a) (Lib.decDigits b) = zc (a : Int) (b : Int) := by
  intro n
  induction n with
  | zero => intro a b h _; have := dd_lt 0 a h; omega
  | succ n ih =>
    intro a b ha hb
    have la := dd_lt (n + 1) a ha
    have lb := dd_lt (n + 1) b hb
    unfold Lib.decDigits at ha hb ⊢
    by_cases h1 : a < 10
    · rw [dif_pos h1] at ha ⊢
      have n0 : n = 0 := by simpa using ha.symm
      subst n0
      have h2 : b < 10 := by have := lb.2.1; omega
      rw [dif_pos h2, cb_cons, cb_self, UInt8.toNat_ofNat', UInt8.toNat_ofNat']
      unfold zc
      repeat' split
      all_goals omega
    · rw [dif_neg h1] at ha ⊢
      rw [List.length_append, List.length_singleton] at ha
      by_cases h2 : b < 10
      · rw [dif_pos h2] at hb
        have n0 : n = 0 := by simpa using hb.symm
        subst n0
        have := dd_lt 0 (a / 10) (by omega)
        omega
      · rw [dif_neg h2] at hb ⊢
        rw [List.length_append, List.length_singleton] at hb
        have hi := ih (a / 10) (b / 10) (by omega) (by omega)
        rw [cb_app _ _ (show (Lib.decDigits (a / 10)).length = (Lib.decDigits (b / 10)).length by omega), hi, cb_cons, cb_self, UInt8.toNat_ofNat', UInt8.toNat_ofNat']
        unfold zc
        repeat' split
        all_goals omega
theorem dd_ten (V : Nat) (hV : 0 < V) : ∀ k : Nat, Lib.decDigits (V * 10 ^ k) = Lib.decDigits V ++ List.replicate k 48
  | 0 => by simp
  | k + 1 => by
    have h1 : ¬ V * 10 ^ (k + 1) < 10 := by
      have : 0 < V * 10 ^ k := Nat.mul_pos hV (Nat.pow_pos (by omega))
      rw [Nat.pow_succ, ← Nat.mul_assoc]; omega
    have e : Lib.decDigits (V * 10 ^ (k + 1)) = Lib.decDigits (V * 10 ^ (k + 1) / 10) ++ [UInt8.ofNat (48 + V * 10 ^ (k + 1) % 10)] := by
      conv => lhs; unfold Lib.decDigits
      rw [dif_neg h1]
    rw [e, Nat.pow_succ, ← Nat.mul_assoc, Nat.mul_div_cancel _ (by omega), Nat.mul_mod_left, dd_ten V hV k, List.append_assoc, List.replicate_succ']
    rfl
theorem trim_rep (T : List UInt8) : ∀ k : Nat, Lib.trimRightB (T ++ List.replicate k 48) 48 = Lib.trimRightB T 48
  | 0 => by simp
  | k + 1 => by rw [List.replicate_succ', ← List.append_assoc, trimB_zero, trim_rep T k]
/-- keys of numbers above nought -/
theorem pos_cmp {V1 V2 r1 r2 : Nat} (h1 : 0 < V1) (h2 : 0 < V2) (l1 : (Lib.decDigits V1).length ≤ 30) (l2 : (Lib.decDigits V2).length ≤ 30) (g1 : r1 ≤ 12) (g2 : r2 ≤ 12) :
    cb (u8 (64 + ((Lib.decDigits V1).length : Int) - r1) :: dig (Lib.trimRightB (Lib.decDigits V1) 48)) (u8 (64 + ((Lib.decDigits V2).length : Int) - r2) :: dig (Lib.trimRightB (Lib.decDigits V2) 48)) = zc ((V1 * 10 ^ (12 - r1) : Nat) : Int) ((V2 * 10 ^ (12 - r2) : Nat) : Int) := by
  have a1 := u8_nat (64 + ((Lib.decDigits V1).length : Int) - r1)
  have a2 := u8_nat (64 + ((Lib.decDigits V2).length : Int) - r2)
  have d1 := dd_ten V1 h1 (12 - r1)
  have d2 := dd_ten V2 h2 (12 - r2)
  have p1 : 0 < V1 * 10 ^ (12 - r1) := Nat.mul_pos h1 (Nat.pow_pos (by omega))
  have p2 : 0 < V2 * 10 ^ (12 - r2) := Nat.mul_pos h2 (Nat.pow_pos (by omega))
  have n1 : (Lib.decDigits (V1 * 10 ^ (12 - r1))).length = (Lib.decDigits V1).length + (12 - r1) := by rw [d1, List.length_append, List.length_replicate]
  have n2 : (Lib.decDigits (V2 * 10 ^ (12 - r2))).length = (Lib.decDigits V2).length + (12 - r2) := by rw [d2, List.length_append, List.length_replicate]
  have b1 := dd_lt _ _ n1
  have b2 := dd_lt _ _ n2
  rw [cb_cons]
  by_cases hlt : (Lib.decDigits V1).length + (12 - r1) < (Lib.decDigits V2).length + (12 - r2)
  · have hp : 10 ^ ((Lib.decDigits V1).length + (12 - r1)) ≤ 10 ^ ((Lib.decDigits V2).length + (12 - r2) - 1) := Nat.pow_le_pow_right (by omega) (by omega)
    have := b1.2.1
    have := b2.2.2 p2
    rw [if_pos (by omega)]
    unfold zc
    rw [if_pos (by omega)]
  by_cases hgt : (Lib.decDigits V2).length + (12 - r2) < (Lib.decDigits V1).length + (12 - r1)
  · have hp : 10 ^ ((Lib.decDigits V2).length + (12 - r2)) ≤ 10 ^ ((Lib.decDigits V1).length + (12 - r1) - 1) := Nat.pow_le_pow_right (by omega) (by omega)
    have := b2.2.1
    have := b1.2.2 p1
    rw [if_neg (by omega), if_pos (by omega)]
    unfold zc
    rw [if_neg (by omega), if_pos (by omega)]
  · rw [if_neg (by omega), if_neg (by omega)]
    have hc := cb_trim (P1 := Lib.decDigits (V1 * 10 ^ (12 - r1))) (P2 := Lib.decDigits (V2 * 10 ^ (12 - r2))) (by omega) (dd_range _) (dd_range _)
    rw [dd_cmp _ _ _ n1 (by omega), d1, d2, trim_rep, trim_rep] at hc
    exact hc
end Go.Proofs.YtajbbnkomnfmlaaDoor.R
end

section
/-! Rf: what the laws draw: numbers and decimals. -/
set_option autoImplicit false
set_option linter.unusedSimpArgs false
set_option linter.unusedVariables false
namespace Go.Proofs.YtajbbnkomnfmlaaDoor.R
open Go.Rf
/-- a reader's bytes -/
structure Rd (bs : List Int) : Prop where
  len : bs.length ≤ 2000
  b8 : ∀ y ∈ bs, 0 ≤ y ∧ y ≤ 255
theorem xor_small {a b : Int} (ha : 0 ≤ a) (ha2 : a < 4611686018427387904) (hb : 0 ≤ b) (hb2 : b < 4611686018427387904) : 0 ≤ IntKind.i64.wrap (((BitVec.ofInt IntKind.i64.bits a ^^^ BitVec.ofInt IntKind.i64.bits b).toNat : Nat) : Int) := by
  have e : IntKind.i64.bits = 64 := rfl
  have h1 : (BitVec.ofInt IntKind.i64.bits a).toNat < 2 ^ 62 := by
    rw [BitVec.toNat_ofInt, e]
    omega
  have h2 : (BitVec.ofInt IntKind.i64.bits b).toNat < 2 ^ 62 := by
    rw [BitVec.toNat_ofInt, e]
    omega
  have h3 : (BitVec.ofInt IntKind.i64.bits a ^^^ BitVec.ofInt IntKind.i64.bits b).toNat < 2 ^ 62 := by
    rw [BitVec.toNat_xor]
    exact Nat.xor_lt_two_pow h1 h2
  rw [wrap64 (by omega) (by omega)]
  omega
theorem tmod_range {x n : Int} (hx : 0 ≤ x) (hn : 1 ≤ n) : 0 ≤ x.tmod n ∧ x.tmod n < n := by
  rw [Int.tmod_eq_emod_of_nonneg hx]
  exact ⟨Int.emod_nonneg _ (by omega), Int.emod_lt_of_pos _ (by omega)⟩
theorem pick_ev {bs : List Int} (hb : Rd bs) {p : Nat} (hp : p ≤ 1000000000) (n : Int) : ∃ v : Int, (0 ≤ v ∧ (1 ≤ n → v < n) ∧ (n < 1 → v = 0)) ∧ Ev (fun k => F36 k bs (p : Int) n) ((v, ()), ((bs, ((p + 1 : Nat) : Int), ()), (), ())) := by
  have e1 : IntKind.i64.wrap ((p : Int) + 1) = ((p + 1 : Nat) : Int) := wrap_succ (by omega)
  have e2 : IntKind.i64.wrap (((p + 1 : Nat) : Int) - 1) = (p : Int) := by rw [wrap64 (by omega) (by omega)]; omega
  have st : ∀ {r}, Ev (fun _ => if (decide (n < (1 : Int))) = true then some (((0 : Int), ()), ((bs, ((p + 1 : Nat) : Int), ()), (), ())) else if ((bs.length : Int) == (0 : Int)) = true then some (((0 : Int), ()), ((bs, ((p + 1 : Nat) : Int), ()), (), ())) else if (decide ((p : Int) < (bs.length : Int))) = true then if (decide (0 ≤ (p : Int))) = true then (bs[((p : Int)).toNat]?).bind fun y1 => if (!(n == 0)) = true then some ((((IntKind.i64.wrap y1).tmod n), ()), ((bs, ((p + 1 : Nat) : Int), ()), (), ())) else none else none else if (!((bs.length : Int) == 0)) = true then if (decide (0 ≤ ((p : Int).tmod (bs.length : Int)))) = true then (bs[((p : Int).tmod (bs.length : Int)).toNat]?).bind fun y2 => if (!((bs.length : Int) == 0)) = true then if (decide (0 ≤ ((IntKind.i64.wrap ((IntKind.i64.wrap ((p : Int) * (7 : Int))) + (3 : Int))).tmod (bs.length : Int)))) = true then (bs[((IntKind.i64.wrap ((IntKind.i64.wrap ((p : Int) * (7 : Int))) + (3 : Int))).tmod (bs.length : Int)).toNat]?).bind fun y3 => if (!((bs.length : Int) == 0)) = true then if (!(n == 0)) = true then some ((((IntKind.i64.wrap (((BitVec.ofInt IntKind.i64.bits (IntKind.i64.wrap ((IntKind.i64.wrap ((IntKind.i64.wrap ((IntKind.i64.wrap ((IntKind.i64.wrap y2) * (131 : Int))) + (IntKind.i64.wrap ((IntKind.i64.wrap y3) * (1117 : Int))))) + (IntKind.i64.wrap ((p : Int) * (29 : Int))))) + (IntKind.i64.wrap ((IntKind.i64.wrap ((p : Int).tdiv (bs.length : Int))) * (53 : Int))))) ^^^ BitVec.ofInt IntKind.i64.bits (IntKind.i64.wrap ((IntKind.i64.wrap ((IntKind.i64.wrap ((IntKind.i64.wrap ((IntKind.i64.wrap ((IntKind.i64.wrap y2) * (131 : Int))) + (IntKind.i64.wrap ((IntKind.i64.wrap y3) * (1117 : Int))))) + (IntKind.i64.wrap ((p : Int) * (29 : Int))))) + (IntKind.i64.wrap ((IntKind.i64.wrap ((p : Int).tdiv (bs.length : Int))) * (53 : Int))))).tdiv (64 : Int)))).toNat : Int))).tmod n), ()), ((bs, ((p + 1 : Nat) : Int), ()), (), ())) else none else none else none else none else none else none) r → Ev (fun k => F36 k bs (p : Int) n) r := by
    intro r h
    refine Ev.step 2 (fun k => F36_eq k _ _ _) ?_
    simp only [e1, e2]
    exact h
  by_cases h1 : n < 1
  · refine ⟨0, ⟨Int.le_refl _, fun h => by omega, fun _ => rfl⟩, st ?_⟩
    simp only [decide_eq_true h1, if_true]
    exact Ev.now _
  · have hn : (!(n == 0)) = true := by simp; omega
    by_cases h2 : bs.length = 0
    · refine ⟨0, ⟨Int.le_refl _, fun h => by omega, fun _ => rfl⟩, st ?_⟩
      simp only [decide_eq_false h1, Bool.false_eq_true, if_false, h2, Int.ofNat_zero, beq_self_eq_true, if_true]
      exact Ev.now _
    · have hl0 : ((bs.length : Int) == 0) = false := by rw [beq_eq_false_iff_ne]; omega
      by_cases h3 : p < bs.length
      · obtain ⟨y, hy⟩ : ∃ y, bs[p]? = some y := ⟨_, List.getElem?_eq_getElem h3⟩
        have hy8 := hb.b8 y (List.mem_of_getElem? hy)
        have hr := tmod_range (n := n) hy8.1 (by omega)
        refine ⟨y.tmod n, ⟨hr.1, fun _ => hr.2, fun h => by omega⟩, st ?_⟩
        have ey : IntKind.i64.wrap y = y := wrap64 (by omega) (by omega)
        simp only [decide_eq_false h1, Bool.false_eq_true, if_false, hl0, lt_true h3, ge0, if_true, Int.toNat_natCast, hy, Option.bind_some, hn, ey]
        exact Ev.now _
      · have hpos : (0 : Int) < (bs.length : Int) := by omega
        have t1 := tmod_range (x := (p : Int)) (n := (bs.length : Int)) (by omega) (by omega)
        have w7 : IntKind.i64.wrap ((p : Int) * 7) = (p : Int) * 7 := wrap64 (by omega) (by omega)
        have w73 : IntKind.i64.wrap ((p : Int) * 7 + 3) = (p : Int) * 7 + 3 := wrap64 (by omega) (by omega)
        have t2 := tmod_range (x := (p : Int) * 7 + 3) (n := (bs.length : Int)) (by omega) (by omega)
        obtain ⟨y, hy⟩ : ∃ y, bs[((p : Int).tmod (bs.length : Int)).toNat]? = some y := ⟨_, List.getElem?_eq_getElem (by omega)⟩
        obtain ⟨z, hz⟩ : ∃ z, bs[((((p : Int) * 7 + 3)).tmod (bs.length : Int)).toNat]? = some z := ⟨_, List.getElem?_eq_getElem (by omega)⟩
        have hy8 := hb.b8 y (List.mem_of_getElem? hy)
        have hz8 := hb.b8 z (List.mem_of_getElem? hz)
        have ey : IntKind.i64.wrap y = y := wrap64 (by omega) (by omega)
        have ez : IntKind.i64.wrap z = z := wrap64 (by omega) (by omega)
        have d0 : 0 ≤ (p : Int).tdiv (bs.length : Int) ∧ (p : Int).tdiv (bs.length : Int) ≤ (p : Int) := by
          rw [Int.tdiv_eq_ediv_of_nonneg (by omega)]
          exact ⟨Int.ediv_nonneg (by omega) (by omega), Int.ediv_le_self _ (by omega)⟩
        obtain ⟨d, hd⟩ : ∃ d, d = (p : Int).tdiv (bs.length : Int) := ⟨_, rfl⟩
        rw [← hd] at d0
        have w1 : IntKind.i64.wrap (y * 131) = y * 131 := wrap64 (by omega) (by omega)
        have w2 : IntKind.i64.wrap (z * 1117) = z * 1117 := wrap64 (by omega) (by omega)
        have w3 : IntKind.i64.wrap (y * 131 + z * 1117) = y * 131 + z * 1117 := wrap64 (by omega) (by omega)
        have w4 : IntKind.i64.wrap ((p : Int) * 29) = (p : Int) * 29 := wrap64 (by omega) (by omega)
        have w5 : IntKind.i64.wrap (y * 131 + z * 1117 + (p : Int) * 29) = y * 131 + z * 1117 + (p : Int) * 29 := wrap64 (by omega) (by omega)
        have w6 : IntKind.i64.wrap d = d := wrap64 (by omega) (by omega)
        have w8 : IntKind.i64.wrap (d * 53) = d * 53 := wrap64 (by omega) (by omega)
        obtain ⟨X, hX⟩ : ∃ X, X = y * 131 + z * 1117 + (p : Int) * 29 + d * 53 := ⟨_, rfl⟩
        have hX0 : 0 ≤ X ∧ X ≤ 1000000000000 := by omega
        have w9 : IntKind.i64.wrap X = X := wrap64 (by omega) (by omega)
        have q0 : 0 ≤ X.tdiv 64 ∧ X.tdiv 64 ≤ X := by
          rw [Int.tdiv_eq_ediv_of_nonneg (by omega)]
          omega
        have w10 : IntKind.i64.wrap (X.tdiv 64) = X.tdiv 64 := wrap64 (by omega) (by omega)
        have hx := xor_small (a := X) (b := X.tdiv 64) (by omega) (by omega) (by omega) (by omega)
        have hr := tmod_range (n := n) hx (by omega)
        refine ⟨_, ⟨hr.1, fun _ => hr.2, fun h => by omega⟩, st ?_⟩
        simp only [decide_eq_false h1, Bool.false_eq_true, if_false, hl0, lt_false (show bs.length ≤ p by omega), Bool.not_false, if_true, decide_eq_true t1.1, hy, Option.bind_some, w7, w73, decide_eq_true t2.1, hz, hn, ey, ez, w1, w2, w3, w4, w5, ← hd, w6, w8, ← hX, w9, w10]
        exact Ev.now _
theorem one_ev {bs : List Int} (hb : Rd bs) {p : Nat} (hp : p ≤ 1000000000) (l : List Int) (hl : 0 < l.length) : ∃ v ∈ l, Ev (fun k => F70 k bs (p : Int) l) ((v, ()), ((bs, ((p + 1 : Nat) : Int), ()), (), ())) := by
  obtain ⟨v, ⟨h0, h1, _⟩, h2⟩ := pick_ev hb hp (l.length : Int)
  have h1 := h1 (by omega)
  obtain ⟨y, hy⟩ : ∃ y, l[v.toNat]? = some y := ⟨_, List.getElem?_eq_getElem (by omega)⟩
  refine ⟨y, List.mem_of_getElem? hy, Ev.step 2 (fun k => F70_eq k _ _ _) (Ev.bind h2 ?_)⟩
  simp only [decide_eq_true h0, decide_eq_true h1, Bool.and_self, if_true, hy, Option.bind_some]
  exact Ev.now _
/-! ### figures -/
def Fig (s : ByteArray) : Prop := ∀ b ∈ s.data.toList, 48 ≤ b.toNat ∧ b.toNat ≤ 57
theorem Fig.app {s t : ByteArray} (hs : Fig s) (ht : Fig t) : Fig (s ++ t) := by
  intro b hb
  rw [ByteArray.data_append, Array.toList_append, List.mem_append] at hb
  rcases hb with hb | hb
  · exact hs b hb
  · exact ht b hb
theorem fig1 {d : Nat} (h : d < 10) : Fig ⟨[UInt8.ofNat (48 + d)].toArray⟩ := by
  intro b hb
  have hb : b ∈ [UInt8.ofNat (48 + d)] := hb
  rw [List.mem_singleton.1 hb, UInt8.toNat_ofNat']
  omega
theorem size_app (s t : ByteArray) : (s ++ t).size = s.size + t.size := ByteArray.size_append ..
section
variable {bs : List Int} (hb : Rd bs)
include hb
end
end Go.Proofs.YtajbbnkomnfmlaaDoor.R
end

section
/-! Rf: what the laws draw: big integers. -/
set_option autoImplicit false
set_option linter.unusedSimpArgs false
set_option linter.unusedVariables false
namespace Go.Proofs.YtajbbnkomnfmlaaDoor.R
open Go.Rf
theorem byte_at {s : ByteArray} {i : Nat} (h : i < s.size) : s[i]? = some s[i] := by
  exact getElem?_pos s i h
theorem fig_at {s : ByteArray} (hs : Fig s) {i : Nat} (h : i < s.size) : 48 ≤ s[i].toNat ∧ s[i].toNat ≤ 57 := by
  refine hs _ ?_
  show s.data[i] ∈ s.data.toList
  rw [← Array.getElem_toList]
  exact List.getElem_mem _
theorem fig_extract {s : ByteArray} (hs : Fig s) (n : Nat) : Fig (s.extract 0 n) := by
  intro b hb
  rw [ByteArray.data_extract, Array.toList_extract] at hb
  exact hs b (List.mem_of_mem_drop (List.mem_of_mem_take hb))
theorem figVal {u : UInt8} (h : 48 ≤ u.toNat ∧ u.toNat ≤ 57) : IntKind.i64.wrap (IntKind.u8.wrap ((u.toNat : Int) - 48)) = ((u.toNat - 48 : Nat) : Int) := by
  rw [u8_small (by omega) (by omega), wrap64 (by omega) (by omega)]
  omega
theorem tmod_abs (x : Int) : (x.tmod 10000 < 0 → 0 - x.tmod 10000 = ((x.natAbs % 10000 : Nat) : Int)) ∧ (¬ x.tmod 10000 < 0 → x.tmod 10000 = ((x.natAbs % 10000 : Nat) : Int)) ∧ (x.tdiv 10000).natAbs = x.natAbs / 10000 ∧ -10000 < x.tmod 10000 ∧ x.tmod 10000 < 10000 := by
  rcases Int.natAbs_eq x with h | h
  · have h1 : x.tmod 10000 = ((x.natAbs % 10000 : Nat) : Int) := by
      rw [Int.tmod_eq_emod_of_nonneg (by omega)]; omega
    have h2 : x.tdiv 10000 = ((x.natAbs / 10000 : Nat) : Int) := by
      rw [Int.tdiv_eq_ediv_of_nonneg (by omega)]; omega
    rw [h1, h2]
    omega
  · have h1 : x.tmod 10000 = -((x.natAbs % 10000 : Nat) : Int) := by
      conv => lhs; rw [h]
      rw [Int.neg_tmod, Int.tmod_eq_emod_of_nonneg (by omega)]; omega
    have h2 : x.tdiv 10000 = -((x.natAbs / 10000 : Nat) : Int) := by
      conv => lhs; rw [h]
      rw [Int.neg_tdiv, Int.tdiv_eq_ediv_of_nonneg (by omega)]; omega
    rw [h1, h2]
    omega
section
variable {bs : List Int} (hb : Rd bs)
include hb
end
end Go.Proofs.YtajbbnkomnfmlaaDoor.R
end

section
/-! Rf: types as texts: what both sides read. -/
set_option autoImplicit false
set_option linter.unusedSimpArgs false
set_option linter.unusedVariables false
namespace Go.Proofs.YtajbbnkomnfmlaaDoor.R
open Go.Rf
/-! ### figures -/
theorem dg_dig (n : Nat) : Dig (Lib.decDigits n) := by
  induction n using Nat.strongRecOn with
  | _ n ih =>
    have one : ∀ d : Nat, d < 10 → Dig [UInt8.ofNat (48 + d)] := fun d hd b hb => by
      rw [List.mem_singleton] at hb
      subst hb
      rw [UInt8.toNat_ofNat']
      omega
    by_cases h : n < 10
    · rw [dd1 h]; exact one n h
    · rw [ddS h]; exact (ih (n / 10) (by omega)).app (one _ (by omega))
theorem dg_ne (n : Nat) : Lib.decDigits n ≠ [] := fun e => by
  have := (dd_lt _ n rfl).1
  rw [e] at this
  simp at this
theorem dg_le {n m : Nat} (hm : 0 < m) (h : n < 10 ^ m) : (Lib.decDigits n).length ≤ m := by
  obtain ⟨h0, _, h2⟩ := dd_lt _ n rfl
  by_cases hn : n = 0
  · subst hn; rw [dd1 (by omega), List.length_singleton]; omega
  · have h2 := h2 (by omega)
    by_cases hl : (Lib.decDigits n).length ≤ m
    · exact hl
    · have : 10 ^ m ≤ 10 ^ ((Lib.decDigits n).length - 1) := Nat.pow_le_pow_right (by omega) (by omega)
      omega
theorem dg_head (n : Nat) : 1 ≤ n → (Lib.decDigits n).head? ≠ some 48 := by
  induction n using Nat.strongRecOn with
  | _ n ih =>
    intro h1
    by_cases h : n < 10
    · rw [dd1 h]
      intro e
      have e := congrArg UInt8.toNat (Option.some.inj e)
      rw [UInt8.toNat_ofNat'] at e
      have : (48 : UInt8).toNat = 48 := rfl
      omega
    · rw [ddS h]
      have := ih (n / 10) (by omega) (by omega)
      cases hd : Lib.decDigits (n / 10) with
      | nil => exact absurd hd (dg_ne _)
      | cons b l => rw [hd] at this; simpa using this
theorem dg_first (n : Nat) : (Lib.decDigits n).length = 1 ∨ (Lib.decDigits n).head? ≠ some 48 := by
  by_cases h : n < 10
  · left; rw [dd1 h]; rfl
  · right; exact dg_head n (by omega)
theorem dd_dv : ∀ (n : Nat) {M : List UInt8}, M.length = n → Dig M → M ≠ [] → (M.length = 1 ∨ M.head? ≠ some 48) → Lib.decDigits (dv M) = M
  | 0, M, hn, _, hne, _ => absurd (List.length_eq_zero_iff.1 hn) hne
  | n + 1, M, hn, hD, hne, hz => by
    obtain ⟨K, b, rfl⟩ : ∃ K b, M = K ++ [b] := ⟨M.dropLast, M.getLast hne, (List.dropLast_concat_getLast hne).symm⟩
    have hb := hD b (by simp)
    have hK : Dig K := fun c hc => hD c (List.mem_append_left _ hc)
    have hKl : K.length = n := by simpa using hn
    have e : dv (K ++ [b]) = dv K * 10 + (b.toNat - 48) := by rw [dv_app, dv_one]; rfl
    have ob : UInt8.ofNat (48 + (b.toNat - 48)) = b := by
      rw [show 48 + (b.toNat - 48) = b.toNat by omega]
      exact UInt8.ofNat_toNat
    rw [e]
    by_cases hk : K = []
    · subst hk
      rw [dv_nil, Nat.zero_mul, Nat.zero_add, dd1 (by omega), ob]
      rfl
    · have hh : (K ++ [b]).head? ≠ some 48 := by
        rcases hz with h | h
        · rw [List.length_append, List.length_singleton] at h
          have := List.length_pos_iff.2 hk
          omega
        · exact h
      have hh' : K.head? ≠ some 48 := by
        cases K with
        | nil => exact absurd rfl hk
        | cons c l => simpa using hh
      have ih := dd_dv n hKl hK hk (.inr hh')
      have h1 : 1 ≤ dv K := by
        by_cases h0 : dv K = 0
        · rw [h0, dd1 (by omega)] at ih
          rw [← ih] at hh'
          exact absurd rfl hh'
        · omega
      rw [ddS (by omega), show (dv K * 10 + (b.toNat - 48)) / 10 = dv K by omega, show (dv K * 10 + (b.toNat - 48)) % 10 = b.toNat - 48 by omega, ih, ob]
open Classical in
/-- the number that a text is, -1 of others -/
noncomputable def numV (M : List UInt8) : Int := if Dig M ∧ M ≠ [] ∧ M.length ≤ 9 ∧ (M.length = 1 ∨ M.head? ≠ some 48) then (dv M : Int) else -1
theorem numV_or (M : List UInt8) : numV M = -1 ∨ ∃ n : Nat, numV M = n ∧ M = Lib.decDigits n := by
  unfold numV
  split
  · rename_i h
    exact .inr ⟨dv M, rfl, (dd_dv _ rfl h.1 h.2.1 h.2.2.2).symm⟩
  · exact .inl rfl
theorem numV_dd {n : Nat} (h : n < 10 ^ 9) : numV (Lib.decDigits n) = n := by
  unfold numV
  rw [if_pos ⟨dg_dig n, dg_ne n, dg_le (by omega) h, dg_first n⟩, dv_dd]
theorem l1Num_ev {M : List UInt8} (hl : M.length ≤ 1048576) : Ev (fun k => F64 k (ba M)) ((numV M, ()), ((), ())) := by
  refine Ev.step 2 (fun k => F64_eq k _) ?_
  have main : ∀ (m i : Nat), i + m = M.length → i ≤ 9 → Dig (M.take i) → Ev (fun k => F64c3 k (ba M) ((dv (M.take i) : Nat) : Int) (i : Int)) ((numV M, ()), ((), ())) := by
    intro m
    induction m with
    | zero =>
      intro i hi h9 hD
      have hM : M.take i = M := List.take_of_length_le (by omega)
      rw [hM] at hD ⊢
      refine Ev.step 1 (fun k => F64c3_eq k _ _ _) ?_
      simp only [decide_eq_false (show ¬ (i : Int) < ((ba M).size : Int) by rw [ba_size]; omega), Bool.false_eq_true, if_false]
      cases M with
      | nil =>
        have e : numV [] = -1 := if_neg (fun h => h.2.1 rfl)
        rw [e]
        exact Ev.now _
      | cons b M =>
        have e0 : (((ba (b :: M)).size : Int) == 0) = false := beq_eq_false_iff_ne.2 (by rw [ba_size, List.length_cons]; omega)
        have hg : (ba (b :: M))[0]? = some b := by rw [ba_get]; rfl
        simp only [e0, Bool.false_eq_true, if_false]
        by_cases h1 : M = []
        · subst h1
          have e : numV [b] = ((dv [b] : Nat) : Int) := if_pos ⟨hD, by simp, by simp, .inl rfl⟩
          rw [e]
          simp only [decide_eq_false (show ¬ ((ba [b]).size : Int) > 1 by rw [ba_size, List.length_singleton]; omega), Bool.false_eq_true, if_false]
          exact Ev.now _
        · have hp := List.length_pos_iff.2 h1
          simp only [decide_eq_true (show ((ba (b :: M)).size : Int) > 1 by rw [ba_size, List.length_cons]; omega), if_true, hg, Option.bind_some]
          by_cases h48 : b = 48
          · subst h48
            have e : numV (48 :: M) = -1 := if_neg (fun h => by
              rcases h.2.2.2 with h | h
              · rw [List.length_cons] at h; omega
              · exact h rfl)
            rw [e]
            exact Ev.now _
          · have : ((b.toNat : Int) == 48) = false := beq_eq_false_iff_ne.2 (fun e => h48 (UInt8.toNat_inj.1 (by have : (48 : UInt8).toNat = 48 := rfl; omega)))
            have e : numV (b :: M) = ((dv (b :: M) : Nat) : Int) := if_pos ⟨hD, by simp, by omega, .inr (by simpa using h48)⟩
            rw [e]
            simp only [this, Bool.false_eq_true, if_false]
            exact Ev.now _
    | succ m ih =>
      intro i hi h9 hD
      have hlt : i < M.length := by omega
      have hg : (ba M)[i]? = some M[i] := by rw [ba_get, List.getElem?_eq_getElem hlt]
      refine Ev.step 1 (fun k => F64c3_eq k _ _ _) ?_
      simp only [decide_eq_true (show (i : Int) < ((ba M).size : Int) by rw [ba_size]; omega), ge0, if_true, Int.toNat_natCast, hg, Option.bind_some]
      have no : ¬ (48 ≤ M[i].toNat ∧ M[i].toNat ≤ 57) → numV M = -1 := fun h => if_neg (fun h2 => h (h2.1 _ (List.getElem_mem hlt)))
      by_cases c1 : (M[i].toNat : Int) < 48
      · rw [no (by omega)]
        simp only [decide_eq_true c1, if_true]
        exact Ev.now _
      · by_cases c2 : (M[i].toNat : Int) > 57
        · rw [no (by omega)]
          simp only [decide_eq_false c1, decide_eq_true c2, Bool.false_eq_true, if_false, if_true]
          exact Ev.now _
        · simp only [decide_eq_false c1, decide_eq_false c2, Bool.false_eq_true, if_false]
          by_cases c3 : (i : Int) ≥ 9
          · have : numV M = -1 := if_neg (fun h2 => by omega)
            rw [this]
            simp only [decide_eq_true c3, if_true]
            exact Ev.now _
          · simp only [decide_eq_false c3, Bool.false_eq_true, if_false]
            have hlt10 := dv_lt hD
            have hp : (10 : Nat) ^ (M.take i).length ≤ 10 ^ 8 := Nat.pow_le_pow_right (by omega) (by rw [List.length_take]; omega)
            have e8 : (10 : Nat) ^ 8 = 100000000 := by decide
            have et : M.take (i + 1) = M.take i ++ [M[i]] := by rw [List.take_add_one, List.getElem?_eq_getElem hlt]; rfl
            have ev : dv (M.take (i + 1)) = dv (M.take i) * 10 + (M[i].toNat - 48) := by rw [et, dv_app, dv_one]; rfl
            have hu : IntKind.i64.wrap (IntKind.u8.wrap ((M[i].toNat : Int) - 48)) = ((M[i].toNat - 48 : Nat) : Int) := figVal ⟨by omega, by omega⟩
            have hw : IntKind.i64.wrap (IntKind.i64.wrap (((dv (M.take i) : Nat) : Int) * 10) + IntKind.i64.wrap (IntKind.u8.wrap ((M[i].toNat : Int) - 48))) = ((dv (M.take (i + 1)) : Nat) : Int) := by
              rw [hu, wrap64 (show -9223372036854775808 ≤ ((dv (M.take i) : Nat) : Int) * 10 by omega) (by omega), wrap64 (by omega) (by omega), ev]
              omega
            rw [hw]
            simp only [wrap_succ (show i < 9223372036854775807 by omega)]
            exact ih (i + 1) (by omega) (by omega) (by
              rw [et]
              exact hD.app (fun b hb => by rw [List.mem_singleton] at hb; subst hb; omega))
  have := main M.length 0 (by omega) (by omega) (fun b hb => by simp at hb)
  rw [List.take_zero, dv_nil] at this
  exact this
/-! ### cuts -/
theorem ext_all (L : List UInt8) (a : Nat) : (ba L).extract a (ba L).size = ba (L.drop a) := by rw [ba_extract, ba_size, List.take_length]
theorem cut1_ev {A B : List UInt8} {c : UInt8} (hA : c ∉ A) (hl : (A ++ c :: B).length ≤ 1048576) : Ev (fun k => F63 k (ba (A ++ c :: B)) (c.toNat : Int) 1) (([ba A, ba B], ()), ((), (), (), ())) := by
  rw [List.length_append, List.length_cons] at hl
  refine Ev.step 2 (fun k => F63_eq k _ _ _) ?_
  have hs : ((ba (A ++ c :: B)).size : Int) = (A.length : Int) + B.length + 1 := by rw [ba_size, List.length_append, List.length_cons]; omega
  have last : Ev (fun k => F63c4 k (ba (A ++ c :: B)) (c.toNat : Int) 1 [ba A] ((A.length + 1 : Nat) : Int) ((A.length + 1 : Nat) : Int)) (([ba A, ba B], ()), ((), (), (), ())) := by
    refine Ev.step 1 (fun k => F63c4_eq k _ _ _ _ _ _) ?_
    have e1 : decide ((([ba A] : List ByteArray).length : Int) < 1) = false := rfl
    have e2 : (decide (0 ≤ ((A.length + 1 : Nat) : Int)) && decide (((A.length + 1 : Nat) : Int) ≤ ((ba (A ++ c :: B)).size : Int))) = true := by rw [hs]; simp; omega
    have e3 : (ba (A ++ c :: B)).extract ((A.length + 1 : Nat) : Int).toNat (ba (A ++ c :: B)).size = ba B := by
      rw [ext_all, Int.toNat_natCast]
      congr 1
      rw [List.drop_append, List.drop_eq_nil_of_le (by omega), show A.length + 1 - A.length = 1 by omega]
      rfl
    simp only [e1, e2, e3, Bool.false_eq_true, if_false, if_true]
    by_cases h : ((A.length + 1 : Nat) : Int) < ((ba (A ++ c :: B)).size : Int)
    · simp only [decide_eq_true h, if_true]
      exact Ev.now _
    · simp only [decide_eq_false h, Bool.false_eq_true, if_false]
      exact Ev.now _
  have main : ∀ (m i : Nat), i + m = A.length → Ev (fun k => F63c4 k (ba (A ++ c :: B)) (c.toNat : Int) 1 [] 0 (i : Int)) (([ba A, ba B], ()), ((), (), (), ())) := by
    intro m
    induction m with
    | zero =>
      intro i hi
      obtain rfl : i = A.length := by omega
      have hg : (ba (A ++ c :: B))[A.length]? = some c := by rw [ba_get, List.getElem?_append_right (Nat.le_refl _), Nat.sub_self]; rfl
      have e1 : decide ((([] : List ByteArray).length : Int) < 1) = true := rfl
      have e2 : (decide ((0 : Int) ≤ 0) && true && decide ((A.length : Int) ≤ ((ba (A ++ c :: B)).size : Int))) = true := by rw [hs]; simp; omega
      have e3 : (ba (A ++ c :: B)).extract (0 : Int).toNat A.length = ba A := by
        rw [ba_extract]
        congr 1
        rw [List.take_left]
        rfl
      refine Ev.step 1 (fun k => F63c4_eq k _ _ _ _ _ _) ?_
      simp only [decide_eq_true (show (A.length : Int) < ((ba (A ++ c :: B)).size : Int) by rw [hs]; omega), e1, ge0, if_true, Int.toNat_natCast, hg, Option.bind_some, beq_self_eq_true, e2, e3, wrap_succ (show A.length < 9223372036854775807 by omega)]
      refine Ev.step 1 (fun k => F63c5_eq k _ _ _ _ _ _ _ _ _) ?_
      simp only [wrap_succ (show A.length < 9223372036854775807 by omega)]
      exact last
    | succ m ih =>
      intro i hi
      have hlt : i < A.length := by omega
      have hg : (ba (A ++ c :: B))[i]? = some A[i] := by rw [ba_get, List.getElem?_append_left hlt, List.getElem?_eq_getElem hlt]
      have e1 : decide ((([] : List ByteArray).length : Int) < 1) = true := rfl
      have hne : ((A[i].toNat : Int) == (c.toNat : Int)) = false := beq_eq_false_iff_ne.2 (fun e => hA (by
        have : A[i] = c := UInt8.toNat_inj.1 (by omega)
        rw [← this]
        exact List.getElem_mem hlt))
      refine Ev.step 1 (fun k => F63c4_eq k _ _ _ _ _ _) ?_
      simp only [decide_eq_true (show (i : Int) < ((ba (A ++ c :: B)).size : Int) by rw [hs]; omega), e1, ge0, if_true, Int.toNat_natCast, hg, Option.bind_some, hne, Bool.false_eq_true, if_false]
      refine Ev.step 1 (fun k => F63c5_eq k _ _ _ _ _ _ _ _ _) ?_
      simp only [wrap_succ (show i < 9223372036854775807 by omega)]
      exact ih (i + 1) (by omega)
  exact main A.length 0 (by omega)
theorem cut0_ev {A : List UInt8} {c : UInt8} (hA : c ∉ A) (hl : A.length ≤ 1048576) : Ev (fun k => F63 k (ba A) (c.toNat : Int) 1) (([ba A], ()), ((), (), (), ())) := by
  refine Ev.step 2 (fun k => F63_eq k _ _ _) ?_
  have main : ∀ (m i : Nat), i + m = A.length → Ev (fun k => F63c4 k (ba A) (c.toNat : Int) 1 [] 0 (i : Int)) (([ba A], ()), ((), (), (), ())) := by
    intro m
    induction m with
    | zero =>
      intro i hi
      refine Ev.step 1 (fun k => F63c4_eq k _ _ _ _ _ _) ?_
      have e2 : (decide ((0 : Int) ≤ 0) && decide ((0 : Int) ≤ ((ba A).size : Int))) = true := by rw [ba_size]; simp
      have e3 : (ba A).extract (0 : Int).toNat (ba A).size = ba A := ext_all A 0
      simp only [decide_eq_false (show ¬ (i : Int) < ((ba A).size : Int) by rw [ba_size]; omega), Bool.false_eq_true, if_false, e2, e3, if_true]
      exact Ev.now _
    | succ m ih =>
      intro i hi
      have hlt : i < A.length := by omega
      have hg : (ba A)[i]? = some A[i] := by rw [ba_get, List.getElem?_eq_getElem hlt]
      have e1 : decide ((([] : List ByteArray).length : Int) < 1) = true := rfl
      have hne : ((A[i].toNat : Int) == (c.toNat : Int)) = false := beq_eq_false_iff_ne.2 (fun e => hA (by
        have : A[i] = c := UInt8.toNat_inj.1 (by omega)
        rw [← this]
        exact List.getElem_mem hlt))
      refine Ev.step 1 (fun k => F63c4_eq k _ _ _ _ _ _) ?_
      simp only [decide_eq_true (show (i : Int) < ((ba A).size : Int) by rw [ba_size]; omega), e1, ge0, if_true, Int.toNat_natCast, hg, Option.bind_some, hne, Bool.false_eq_true, if_false]
      refine Ev.step 1 (fun k => F63c5_eq k _ _ _ _ _ _ _ _ _) ?_
      simp only [wrap_succ (show i < 9223372036854775807 by omega)]
      exact ih (i + 1) (by omega)
  exact main A.length 0 (by omega)
/-- a text that is parted at its first c -/
theorem part_or (c : UInt8) : ∀ M : List UInt8, c ∉ M ∨ ∃ A B, c ∉ A ∧ M = A ++ c :: B
  | [] => .inl (by simp)
  | b :: M => by
    by_cases h : b = c
    · subst h
      exact .inr ⟨[], M, by simp, rfl⟩
    · rcases part_or c M with h1 | ⟨A, B, h1, rfl⟩
      · exact .inl (fun hm => by
          rcases List.mem_cons.1 hm with h2 | h2
          · exact h h2.symm
          · exact h1 h2)
      · exact .inr ⟨b :: A, B, fun hm => by
          rcases List.mem_cons.1 hm with h2 | h2
          · exact h h2.symm
          · exact h1 h2, rfl⟩
theorem part_one {c : UInt8} : ∀ {A A' B B' : List UInt8}, c ∉ A → c ∉ A' → A ++ c :: B = A' ++ c :: B' → A = A' ∧ B = B'
  | [], [], B, B', _, _, h => ⟨rfl, (List.cons.inj h).2⟩
  | [], a :: A', B, B', _, h2, h => absurd (List.cons.inj h).1 (fun e => h2 (by rw [e]; exact List.mem_cons_self))
  | a :: A, [], B, B', h1, _, h => absurd (List.cons.inj h).1.symm (fun e => h1 (by rw [e]; exact List.mem_cons_self))
  | a :: A, a' :: A', B, B', h1, h2, h => by
    obtain ⟨e, h3⟩ := List.cons.inj h
    obtain ⟨rfl, rfl⟩ := part_one (fun hm => h1 (List.mem_cons_of_mem _ hm)) (fun hm => h2 (List.mem_cons_of_mem _ hm)) h3
    exact ⟨by rw [e], rfl⟩
theorem dig_no44 {A : List UInt8} (h : Dig A) : (44 : UInt8) ∉ A := fun hm => absurd (h _ hm).1 (by decide)
theorem dig_no58 {A : List UInt8} (h : Dig A) : (58 : UInt8) ∉ A := fun hm => absurd (h _ hm).2 (by decide)
end Go.Proofs.YtajbbnkomnfmlaaDoor.R
end

section
/-! Rf: both sides read a type alike. -/
set_option autoImplicit false
set_option linter.unusedSimpArgs false
set_option linter.unusedVariables false
namespace Go.Proofs.YtajbbnkomnfmlaaDoor.R
open Go.Rf
/-! ### a beginning, an end -/
theorem take_size {L P : List UInt8} : ((ba L).extract 0 P.length).toList = L.take P.length := by
  rw [ba_extract, List.drop_zero, ba_list]
theorem hasP_ev (L P : List UInt8) : Ev (fun k => F88 k (ba L) (ba P)) ((decide (L.take P.length = P), ()), ((), (), ())) := by
  refine Ev.step 2 (fun k => F88_eq k _ _) ?_
  by_cases h : P.length ≤ L.length
  · have e1 : decide (((ba L).size : Int) ≥ ((ba P).size : Int)) = true := decide_eq_true (by rw [ba_size, ba_size]; omega)
    have e2 : (decide ((0 : Int) ≤ ((ba P).size : Int)) && decide (((ba P).size : Int) ≤ ((ba L).size : Int))) = true := by rw [ba_size, ba_size]; simp; omega
    have e3 : (((ba L).extract 0 ((ba P).size : Int).toNat).toList == (ba P).toList) = decide (L.take P.length = P) := by
      rw [ba_size, Int.toNat_natCast, take_size, ba_list]
      by_cases h2 : L.take P.length = P
      · rw [h2]; simp
      · rw [decide_eq_false h2, beq_eq_false_iff_ne]; exact h2
    simp only [e1, e2, e3, if_true]
    exact Ev.now _
  · have e1 : decide (((ba L).size : Int) ≥ ((ba P).size : Int)) = false := decide_eq_false (by rw [ba_size, ba_size]; omega)
    have e2 : decide (L.take P.length = P) = false := decide_eq_false (fun h2 => by
      have := congrArg List.length h2
      rw [List.length_take] at this
      omega)
    simp only [e1, e2, Bool.false_eq_true, if_false]
    exact Ev.now _
theorem starts_ev (L P : List UInt8) : Ev (fun k => F62 k (ba L) (ba P)) ((decide (L.take P.length = P), ()), ((), (), ())) := by
  refine Ev.step 2 (fun k => F62_eq k _ _) ?_
  by_cases h : P.length ≤ L.length
  · have e1 : decide (((ba L).size : Int) ≥ ((ba P).size : Int)) = true := decide_eq_true (by rw [ba_size, ba_size]; omega)
    have e2 : (decide ((0 : Int) ≤ ((ba P).size : Int)) && decide (((ba P).size : Int) ≤ ((ba L).size : Int))) = true := by rw [ba_size, ba_size]; simp; omega
    have e3 : (((ba L).extract 0 ((ba P).size : Int).toNat).toList == (ba P).toList) = decide (L.take P.length = P) := by
      rw [ba_size, Int.toNat_natCast, take_size, ba_list]
      by_cases h2 : L.take P.length = P
      · rw [h2]; simp
      · rw [decide_eq_false h2, beq_eq_false_iff_ne]; exact h2
    simp only [e1, e2, e3, if_true]
    exact Ev.now _
  · have e1 : decide (((ba L).size : Int) ≥ ((ba P).size : Int)) = false := decide_eq_false (by rw [ba_size, ba_size]; omega)
    have e2 : decide (L.take P.length = P) = false := decide_eq_false (fun h2 => by
      have := congrArg List.length h2
      rw [List.length_take] at this
      omega)
    simp only [e1, e2, Bool.false_eq_true, if_false]
    exact Ev.now _
theorem trimP_ev (L P : List UInt8) : ∃ M : List UInt8, M.length ≤ L.length ∧ (∀ R, L = P ++ R → M = R) ∧ Ev (fun k => F28 k (ba L) (ba P)) ((ba M, ()), ((), (), ())) := by
  by_cases h : L.take P.length = P
  · refine ⟨L.drop P.length, by simp, fun R hR => by rw [hR, List.drop_left], Ev.step 2 (fun k => F28_eq k _ _) (Ev.bind (x := (((ba (L.drop P.length)), ()), ((), (), ()))) (Ev.step 2 (fun k => F67_eq k _ _) (Ev.bind (hasP_ev L P) ?_)) (Ev.now _))⟩
    have hl : P.length ≤ L.length := by
      have := congrArg List.length h
      rw [List.length_take] at this
      omega
    have e2 : (decide ((0 : Int) ≤ ((ba P).size : Int)) && decide (((ba P).size : Int) ≤ ((ba L).size : Int))) = true := by rw [ba_size, ba_size]; simp; omega
    have e3 : (ba L).extract ((ba P).size : Int).toNat (ba L).size = ba (L.drop P.length) := by rw [ba_size P, Int.toNat_natCast, ext_all]
    simp only [decide_eq_true h, e2, e3, if_true]
    exact Ev.now _
  · refine ⟨L, Nat.le_refl _, fun R hR => absurd (by rw [hR, List.take_left]) h, Ev.step 2 (fun k => F28_eq k _ _) (Ev.bind (x := ((ba L, ()), ((), (), ()))) (Ev.step 2 (fun k => F67_eq k _ _) (Ev.bind (hasP_ev L P) ?_)) (Ev.now _))⟩
    simp only [decide_eq_false h, Bool.false_eq_true, if_false]
    exact Ev.now _
theorem trimS_ev (L P : List UInt8) (hL : L.length ≤ 2000000) (hP : P.length ≤ 1000) : ∃ M : List UInt8, M.length ≤ L.length ∧ (∀ R, L = R ++ P → M = R) ∧ Ev (fun k => F27 k (ba L) (ba P)) ((ba M, ()), ((), (), ())) := by
  have hs : Ev (fun k => F87 k (ba L) (ba P)) ((decide (P.length ≤ L.length ∧ L.drop (L.length - P.length) = P), ()), ((), (), ())) := by
    refine Ev.step 2 (fun k => F87_eq k _ _) ?_
    by_cases h : P.length ≤ L.length
    · have e0 : IntKind.i64.wrap (((ba L).size : Int) - ((ba P).size : Int)) = ((L.length - P.length : Nat) : Int) := by rw [ba_size, ba_size, wrap64 (by omega) (by omega)]; omega
      have e1 : decide (((ba L).size : Int) ≥ ((ba P).size : Int)) = true := decide_eq_true (by rw [ba_size, ba_size]; omega)
      have e2 : (decide ((0 : Int) ≤ ((L.length - P.length : Nat) : Int)) && decide (((L.length - P.length : Nat) : Int) ≤ ((ba L).size : Int))) = true := by rw [ba_size]; simp
      have e3 : (((ba L).extract ((L.length - P.length : Nat) : Int).toNat (ba L).size).toList == (ba P).toList) = decide (P.length ≤ L.length ∧ L.drop (L.length - P.length) = P) := by
        rw [Int.toNat_natCast, ext_all, ba_list, ba_list]
        by_cases h2 : L.drop (L.length - P.length) = P
        · rw [decide_eq_true (And.intro h h2), h2]; simp
        · rw [decide_eq_false (fun h3 => h2 h3.2), beq_eq_false_iff_ne]; exact h2
      simp only [e0, e1, e2, e3, if_true]
      exact Ev.now _
    · have e1 : decide (((ba L).size : Int) ≥ ((ba P).size : Int)) = false := decide_eq_false (by rw [ba_size, ba_size]; omega)
      rw [show decide (P.length ≤ L.length ∧ L.drop (L.length - P.length) = P) = false from decide_eq_false (fun h3 => h h3.1)]
      simp only [e1, Bool.false_eq_true, if_false]
      exact Ev.now _
  by_cases h : P.length ≤ L.length ∧ L.drop (L.length - P.length) = P
  · refine ⟨L.take (L.length - P.length), by simp, fun R hR => ?_, Ev.step 2 (fun k => F27_eq k _ _) (Ev.bind (x := ((ba (L.take (L.length - P.length)), ()), ((), (), ()))) (Ev.step 2 (fun k => F66_eq k _ _) (Ev.bind hs ?_)) (Ev.now _))⟩
    · rw [hR, List.length_append, Nat.add_sub_cancel, List.take_left]
    · have e0 : IntKind.i64.wrap (((ba L).size : Int) - ((ba P).size : Int)) = ((L.length - P.length : Nat) : Int) := by rw [ba_size, ba_size, wrap64 (by omega) (by omega)]; omega
      have e2 : (decide ((0 : Int) ≤ ((L.length - P.length : Nat) : Int)) && decide (((L.length - P.length : Nat) : Int) ≤ ((ba L).size : Int))) = true := by rw [ba_size]; simp
      have e3 : (ba L).extract 0 ((L.length - P.length : Nat) : Int).toNat = ba (L.take (L.length - P.length)) := by rw [Int.toNat_natCast, ba_extract, List.drop_zero]
      simp only [decide_eq_true h, e0, e2, e3, if_true]
      exact Ev.now _
  · refine ⟨L, Nat.le_refl _, fun R hR => absurd ?_ h, Ev.step 2 (fun k => F27_eq k _ _) (Ev.bind (x := ((ba L, ()), ((), (), ()))) (Ev.step 2 (fun k => F66_eq k _ _) (Ev.bind hs ?_)) (Ev.now _))⟩
    · rw [hR, List.length_append, Nat.add_sub_cancel, List.drop_left]; exact ⟨by omega, rfl⟩
    · simp only [decide_eq_false h, Bool.false_eq_true, if_false]
      exact Ev.now _
/-! ### what the library answers -/
theorem index_part {c : UInt8} : ∀ {X Y : List UInt8}, c ∉ X → Lib.index (X ++ c :: Y) [c] = X.length
  | [], Y, _ => by
    show (if ([c] : List UInt8).isPrefixOf (c :: Y) then (0 : Int) else _) = _
    rw [if_pos (by show ((c == c) && _) = true; simp)]
    rfl
  | b :: X, Y, h => by
    have ih := index_part (Y := Y) (fun hm => h (List.mem_cons_of_mem _ hm))
    have hb : (c == b) = false := beq_eq_false_iff_ne.2 (fun e => h (by rw [e]; exact List.mem_cons_self))
    have e : ([c] : List UInt8).isPrefixOf (b :: (X ++ c :: Y)) = false := by
      show ((c == b) && _) = false
      rw [hb, Bool.false_and]
    rw [List.cons_append, Lib.index, e, ih]
    simp only [Bool.false_eq_true, if_false]
    rw [if_neg (by rw [beq_iff_eq]; omega), List.length_cons]
    omega
theorem cutA_ev (L : List UInt8) (c : UInt8) (hL : L.length ≤ 2000000) : ∃ (A B : List UInt8) (t : Bool), A.length ≤ L.length ∧ B.length ≤ L.length ∧ (∀ X Y, c ∉ X → L = X ++ c :: Y → A = X ∧ B = Y ∧ t = true) ∧ (c ∉ L → t = false) ∧
    Ev (fun k => F26 k (ba L) (ba [c])) ((ba A, ba B, t, ()), ((), (), ())) := by
  refine ⟨(Lib.cut L [c]).1, (Lib.cut L [c]).2.1, (Lib.cut L [c]).2.2, ?_, ?_, fun X Y hX hL => ?_, fun hc => ?_, Ev.step 1 (fun k => F26_eq k _ _) ?_⟩
  · unfold Lib.cut
    split
    · rw [List.length_take]; exact Nat.min_le_right _ _
    · exact Nat.le_refl _
  · unfold Lib.cut
    split
    · rw [List.length_drop]; omega
    · exact Nat.zero_le _
  · unfold Lib.cut
    rw [hL, index_part hX, if_pos (by omega), Int.toNat_natCast]
    refine ⟨by rw [List.take_left], ?_, rfl⟩
    show (X ++ c :: Y).drop (X.length + 1) = Y
    rw [List.drop_append, List.drop_eq_nil_of_le (by omega), show X.length + 1 - X.length = 1 by omega]
    rfl
  · have : ∀ M : List UInt8, c ∉ M → Lib.index M [c] = -1 := by
      intro M
      induction M with
      | nil => intro _; rfl
      | cons b M ih =>
        intro h
        have ih := ih (fun hm => h (List.mem_cons_of_mem _ hm))
        have hb : (c == b) = false := beq_eq_false_iff_ne.2 (fun e => h (by rw [e]; exact List.mem_cons_self))
        have e : ([c] : List UInt8).isPrefixOf (b :: M) = false := by
          show ((c == b) && _) = false
          rw [hb, Bool.false_and]
        rw [Lib.index, e, ih]
        rfl
    unfold Lib.cut
    rw [this L hc, if_neg (by omega)]
  · unfold cutR
    dsimp only
    rw [Nat.ble_eq_true_of_le (show (ba L).size + 1 ≤ 4294967281 by rw [ba_size]; omega)]
    exact Ev.now _
/-- a number of two figures at most -/
def d2 (n : Nat) : List UInt8 := if n < 10 then [UInt8.ofNat (48 + n)] else [UInt8.ofNat (48 + n / 10), UInt8.ofNat (48 + n % 10)]
theorem dd_d2 {n : Nat} (h : n < 100) : Lib.decDigits n = d2 n := by
  unfold d2
  by_cases h1 : n < 10
  · rw [if_pos h1, dd1 h1]
  · rw [if_neg h1, ddS h1, dd1 (by omega)]
    rfl
theorem atoi_d2 : ∀ n : Fin 100, Lib.atoiAll (d2 n.val) = .ok (n.val : Int) := by decide
theorem atoiA_ev (M : List UInt8) (hM : M.length ≤ 2000000) : ∃ (v : Int) (b : Bool), (∀ n : Nat, n < 100 → M = Lib.decDigits n → v = n ∧ b = true) ∧ Ev (fun k => F29 k (ba M)) ((v, b, ()), ((), ())) := by
  have h1 : Nat.ble (ba M).size 281474976710656 = true := Nat.ble_eq_true_of_le (by rw [ba_size]; omega)
  have key : ∀ n : Nat, n < 100 → M = Lib.decDigits n → Lib.atoiAll M = .ok (n : Int) := fun n hn hM => by rw [hM, dd_d2 hn]; exact atoi_d2 ⟨n, hn⟩
  cases ha : Lib.atoiAll M with
  | ok v =>
    refine ⟨v, true, fun n hn hM => ?_, Ev.step 1 (fun k => F29_eq k _) ?_⟩
    · have := key n hn hM
      rw [ha] at this
      injection this with this
      exact ⟨this, rfl⟩
    · unfold atoiaR
      dsimp only
      rw [h1, show (ba M).data.toList = M from rfl, ha]
      exact Ev.now _
  | range =>
    refine ⟨Lib.atoiSat M, false, fun n hn hM => ?_, Ev.step 1 (fun k => F29_eq k _) ?_⟩
    · have := key n hn hM
      rw [ha] at this
      cases this
    · unfold atoiaR
      dsimp only
      rw [h1, show (ba M).data.toList = M from rfl, ha]
      exact Ev.now _
  | _ =>
    refine ⟨0, false, fun n hn hM => ?_, Ev.step 1 (fun k => F29_eq k _) ?_⟩
    · have := key n hn hM
      rw [ha] at this
      cases this
    · unfold atoiaR
      dsimp only
      rw [h1, show (ba M).data.toList = M from rfl, ha]
      exact Ev.now _
theorem itoa_ev (n : Nat) (h : n ≤ 1000000) : Ev (fun k => F32 k (n : Int)) ((ba (Lib.decDigits n), ()), ((), ())) := by
  refine Ev.step 1 (fun k => F32_eq k _) ?_
  unfold itoaR
  dsimp only
  rw [decide_eq_true (show (-9223372036854775808 : Int) ≤ (n : Int) by omega), decide_eq_true (show (n : Int) ≤ 9223372036854775807 by omega), itoa_nat]
  exact Ev.now _
end Go.Proofs.YtajbbnkomnfmlaaDoor.R
end

section
/-! Rf: both sides read a type alike. -/
set_option autoImplicit false
set_option linter.unusedSimpArgs false
set_option linter.unusedVariables false
namespace Go.Proofs.YtajbbnkomnfmlaaDoor.R
open Go.Rf
def wBool : List UInt8 := [98, 111, 111, 108]
def wDay : List UInt8 := [100, 97, 121]
def wSpan : List UInt8 := [115, 112, 97, 110]
def wText : List UInt8 := [116, 101, 120, 116]
def wNum : List UInt8 := [110, 117, 109, 40]
def mid (m n : Nat) : List UInt8 := Lib.decDigits m ++ 44 :: Lib.decDigits n
def nT (m n : Nat) : List UInt8 := wNum ++ (mid m n ++ [41])
def okT (m n : Nat) : Prop := 1 ≤ m ∧ m ≤ 30 ∧ n ≤ 12 ∧ n ≤ m
theorem dd_inj {m n : Nat} (h : Lib.decDigits m = Lib.decDigits n) : m = n := by rw [← dv_dd m, h, dv_dd]
theorem mid_inj {m n m' n' : Nat} (h : mid m n = mid m' n') : m = m' ∧ n = n' := by
  obtain ⟨h1, h2⟩ := part_one (dig_no44 (dg_dig m)) (dig_no44 (dg_dig m')) h
  exact ⟨dd_inj h1, dd_inj h2⟩
theorem nT_inj {m n m' n' : Nat} (h : nT m n = nT m' n') : m = m' ∧ n = n' := mid_inj (List.append_cancel_right (List.append_cancel_left h))
open Classical in
/-- what a text says of a type -/
noncomputable def tV (L : List UInt8) : (Int × Int × Int × Unit) × Bool :=
  if L = wBool then ((1, 0, 0, ()), true) else if L = wDay then ((3, 0, 0, ()), true) else if L = wSpan then ((4, 0, 0, ()), true) else if L = wText then ((5, 0, 0, ()), true)
  else if h : ∃ p : Nat × Nat, okT p.1 p.2 ∧ L = nT p.1 p.2 then ((2, ((Classical.choose h).1 : Nat), ((Classical.choose h).2 : Nat), ()), true) else ((0, 0, 0, ()), false)
theorem tV_n {m n : Nat} (h : okT m n) : tV (nT m n) = ((2, (m : Int), (n : Int), ()), true) := by
  have e : ∃ p : Nat × Nat, okT p.1 p.2 ∧ nT m n = nT p.1 p.2 := ⟨(m, n), h, rfl⟩
  have hs := Classical.choose_spec e
  obtain ⟨h1, h2⟩ := nT_inj hs.2
  unfold tV
  have hd : ∀ {b : UInt8} {l : List UInt8}, b ≠ 110 → nT m n ≠ b :: l := fun hb e => hb (List.cons.inj e).1.symm
  rw [if_neg (show nT m n ≠ wBool from hd (by decide)), if_neg (show nT m n ≠ wDay from hd (by decide)), if_neg (show nT m n ≠ wSpan from hd (by decide)), if_neg (show nT m n ≠ wText from hd (by decide)), dif_pos e, ← h1, ← h2]
theorem tV_no {L : List UInt8} (h1 : L ≠ wBool) (h2 : L ≠ wDay) (h3 : L ≠ wSpan) (h4 : L ≠ wText) (h : ∀ m n, okT m n → L ≠ nT m n) : tV L = ((0, 0, 0, ()), false) := by
  unfold tV
  rw [if_neg h1, if_neg h2, if_neg h3, if_neg h4, dif_neg (fun ⟨p, hp, e⟩ => h p.1 p.2 hp e)]
/-! ### the program's side -/
theorem within_iffT {n lo hi : Int} : within n lo hi = true ↔ lo ≤ n ∧ n ≤ hi := by
  unfold within
  simp only [Bool.and_eq_true, decide_eq_true_eq, ge_iff_le]
theorem ble_of {n : Nat} (h : n ≤ 1000) : Nat.ble n 9223372036854775807 = true := Nat.ble_eq_true_of_le (Nat.le_trans h (by decide))
theorem isB (L W : List UInt8) : ((ba L).toList == (ba W).toList) = decide (L = W) := by
  rw [ba_list, ba_list]
  by_cases h : L = W
  · rw [h]; simp
  · rw [decide_eq_false h, beq_eq_false_iff_ne]; exact h
theorem TypeOk2 (D C : Int) : Ev (fun k => F13 k 2 D C) ((decide (1 ≤ D ∧ D ≤ 30 ∧ 0 ≤ C ∧ C ≤ 12 ∧ C ≤ D), ()), (((), (), (), ()), ())) := by
  refine Ev.step 2 (fun k => F13_eq k _ _ _) ?_
  simp only [beq_self_eq_true, if_true]
  refine Ev.bind (in_ev _ _ _) ?_
  by_cases h : 1 ≤ D ∧ D ≤ 30
  · rw [show within D 1 30 = true from within_iffT.2 h]
    simp only [if_true]
    refine Ev.bind (in_ev _ _ _) ?_
    have e : within C 0 (if D < 12 then D else 12) = decide (1 ≤ D ∧ D ≤ 30 ∧ 0 ≤ C ∧ C ≤ 12 ∧ C ≤ D) := by
      by_cases h2 : 0 ≤ C ∧ C ≤ 12 ∧ C ≤ D
      · rw [decide_eq_true ⟨h.1, h.2, h2⟩]
        exact within_iffT.2 ⟨h2.1, by split <;> omega⟩
      · rw [decide_eq_false (fun h3 => h2 h3.2.2)]
        cases hw : within C 0 (if D < 12 then D else 12) with
        | false => rfl
        | true =>
          have := within_iffT.1 hw
          exfalso
          split at this <;> omega
    rw [e]
    exact Ev.now _
  · have h0 : within D 1 30 = false := by
      cases hw : within D 1 30 with
      | false => rfl
      | true => exact absurd (within_iffT.1 hw) h
    rw [h0, decide_eq_false (fun h3 => h ⟨h3.1, h3.2.1⟩)]
    simp only [Bool.false_eq_true, if_false]
    exact Ev.now _
theorem TypePut2 (D C : Int) : ∃ W : List UInt8, ((∃ m n : Nat, okT m n ∧ D = m ∧ C = n ∧ W = nT m n) ∨ ((∀ m n : Nat, okT m n → ¬ (D = m ∧ C = n)) ∧ W = [])) ∧ Ev (fun k => F11 k 2 D C) ((ba W, ()), (((), (), (), ()), ())) := by
  by_cases h : 1 ≤ D ∧ D ≤ 30 ∧ 0 ≤ C ∧ C ≤ 12 ∧ C ≤ D
  · obtain ⟨m, rfl⟩ : ∃ m : Nat, D = m := ⟨D.toNat, by omega⟩
    obtain ⟨n, rfl⟩ : ∃ n : Nat, C = n := ⟨C.toNat, by omega⟩
    refine ⟨nT m n, .inl ⟨m, n, ⟨by omega, by omega, by omega, by omega⟩, rfl, rfl, rfl⟩, Ev.step 2 (fun k => F11_eq k _ _ _) (Ev.bind (TypeOk2 _ _) ?_)⟩
    rw [decide_eq_true h]
    simp only [Bool.not_true, Bool.false_eq_true, if_false, beq_self_eq_true, if_true]
    have l1 := dg_le (n := m) (m := 2) (by omega) (by have : (10 : Nat) ^ 2 = 100 := rfl; omega)
    have l2 := dg_le (n := n) (m := 2) (by omega) (by have : (10 : Nat) ^ 2 = 100 := rfl; omega)
    refine Ev.bind (itoa_ev m (by omega)) ?_
    have e1 : Nat.ble ((⟨#[110, 117, 109, 40]⟩ : ByteArray).size + (ba (Lib.decDigits m)).size) 9223372036854775807 = true := ble_of (by show 4 + (Lib.decDigits m).length ≤ 1000; omega)
    have a1 : (⟨#[110, 117, 109, 40]⟩ : ByteArray) ++ ba (Lib.decDigits m) = ba (wNum ++ Lib.decDigits m) := ba_app wNum _
    have e2 : Nat.ble ((ba (wNum ++ Lib.decDigits m)).size + (⟨#[44]⟩ : ByteArray).size) 9223372036854775807 = true := ble_of (by rw [ba_size, List.length_append]; show 4 + (Lib.decDigits m).length + 1 ≤ 1000; omega)
    have a2 : ba (wNum ++ Lib.decDigits m) ++ (⟨#[44]⟩ : ByteArray) = ba (wNum ++ Lib.decDigits m ++ [44]) := ba_app _ [44]
    simp only [e1, a1, e2, a2, if_true]
    refine Ev.bind (itoa_ev n (by omega)) ?_
    have e3 : Nat.ble ((ba (wNum ++ Lib.decDigits m ++ [44])).size + (ba (Lib.decDigits n)).size) 9223372036854775807 = true := ble_of (by rw [ba_size, ba_size, List.length_append, List.length_append]; show 4 + (Lib.decDigits m).length + 1 + (Lib.decDigits n).length ≤ 1000; omega)
    have a3 : ba (wNum ++ Lib.decDigits m ++ [44]) ++ ba (Lib.decDigits n) = ba (wNum ++ Lib.decDigits m ++ [44] ++ Lib.decDigits n) := ba_app _ _
    have e4 : Nat.ble ((ba (wNum ++ Lib.decDigits m ++ [44] ++ Lib.decDigits n)).size + (⟨#[41]⟩ : ByteArray).size) 9223372036854775807 = true := ble_of (by rw [ba_size, List.length_append, List.length_append, List.length_append]; show 4 + (Lib.decDigits m).length + 1 + (Lib.decDigits n).length + 1 ≤ 1000; omega)
    have a4 : ba (wNum ++ Lib.decDigits m ++ [44] ++ Lib.decDigits n) ++ (⟨#[41]⟩ : ByteArray) = ba (nT m n) := by
      rw [show (⟨#[41]⟩ : ByteArray) = ba [41] from rfl, ba_app]
      unfold nT mid
      simp
    simp only [e3, a3, e4, a4, if_true]
    exact Ev.now _
  · refine ⟨[], .inr ⟨fun m n ⟨h1, h2, h3, h4⟩ ⟨e1, e2⟩ => h ⟨by omega, by omega, by omega, by omega, by omega⟩, rfl⟩, Ev.step 2 (fun k => F11_eq k _ _ _) (Ev.bind (TypeOk2 _ _) ?_)⟩
    rw [decide_eq_false h]
    simp only [Bool.not_false, if_true]
    exact Ev.now _
theorem TypePutK {i : Int} {W : List UInt8} (h1 : 1 ≤ i) (h5 : i ≤ 5) (h2 : i ≠ 2) (hW : namesL[i.toNat]? = some (ba W)) : Ev (fun k => F11 k i 0 0) ((ba W, ()), (((), (), (), ()), ())) := by
  have e2 : (i == (2 : Int)) = false := beq_eq_false_iff_ne.2 h2
  have ok : Ev (fun k => F13 k i 0 0) ((true, ()), (((), (), (), ()), ())) := by
    refine Ev.step 2 (fun k => F13_eq k _ _ _) ?_
    simp only [e2, Bool.false_eq_true, if_false]
    refine Ev.bind (in_ev _ _ _) ?_
    rw [show within i 1 5 = true from within_iffT.2 ⟨h1, h5⟩]
    simp only [if_true, beq_self_eq_true]
    exact Ev.now _
  refine Ev.step 2 (fun k => F11_eq k _ _ _) (Ev.bind ok ?_)
  simp only [Bool.not_true, Bool.false_eq_true, if_false, e2, decide_eq_true (show (0 : Int) ≤ i by omega), if_true, hW, Option.bind_some]
  exact Ev.now _
theorem get_end {L W : List UInt8} {a b c : Int} {x y z : Int} (hp : Ev (fun k => F11 k a b c) ((ba W, ()), (((), (), (), ()), ()))) : Ev (fun k => F8c6 k (ba L) x y z a b c 6) ((if L = [] ∨ W ≠ L then (((0, 0, 0, ()), false, ()), ((), ())) else (((a, b, c, ()), true, ()), ((), ())))) := by
  refine Ev.step 1 (fun k => F8c6_eq k _ _ _ _ _ _ _ _) ?_
  have e0 : ((ba L).toList == (⟨#[]⟩ : ByteArray).toList) = decide (L = []) := isB L []
  simp only [show decide ((6 : Int) ≤ 5) = false from rfl, Bool.false_eq_true, if_false, e0]
  by_cases h : L = []
  · simp only [decide_eq_true h, if_true]
    rw [if_pos (.inl h)]
    exact Ev.now _
  · simp only [decide_eq_false h, Bool.false_eq_true, if_false]
    refine Ev.bind hp ?_
    simp only [isB]
    by_cases h2 : W = L
    · simp only [decide_eq_true h2, Bool.not_true, Bool.false_eq_true, if_false]
      rw [if_neg (by rintro (h3 | h3); exact h h3; exact h3 h2)]
      exact Ev.now _
    · simp only [decide_eq_false h2, Bool.not_false, if_true]
      rw [if_pos (.inr h2)]
      exact Ev.now _
theorem get_step {L W : List UInt8} {a b c : Int} {i : Nat} (h1 : 1 ≤ i) (h5 : i ≤ 5) (h2 : i ≠ 2) (hW : namesL[i]? = some (ba W)) {r}
    (hr : Ev (fun k => F8c6 k (ba L) 0 0 0 (if L = W then (i : Int) else a) (if L = W then 0 else b) (if L = W then 0 else c) ((i + 1 : Nat) : Int)) r) : Ev (fun k => F8c6 k (ba L) 0 0 0 a b c (i : Int)) r := by
  refine Ev.step 1 (fun k => F8c6_eq k _ _ _ _ _ _ _ _) ?_
  have e2 : ((i : Int) != 2) = true := bne_iff_ne.2 (by omega)
  simp only [decide_eq_true (show (i : Int) ≤ 5 by omega), if_true, e2, ge0, Int.toNat_natCast, hW, Option.bind_some, isB]
  by_cases h : L = W
  · simp only [if_pos h] at hr
    simp only [decide_eq_true h, if_true]
    refine Ev.step 1 (fun k => F8c7_eq k _ _ _ _ _ _ _ _) ?_
    simp only [wrap_succ (show i < 9223372036854775807 by omega)]
    exact hr
  · simp only [if_neg h] at hr
    simp only [decide_eq_false h, Bool.false_eq_true, if_false]
    refine Ev.step 1 (fun k => F8c7_eq k _ _ _ _ _ _ _ _) ?_
    simp only [wrap_succ (show i < 9223372036854775807 by omega)]
    exact hr
theorem get_step2 {L : List UInt8} {a b c : Int} {r} (hr : Ev (fun k => F8c6 k (ba L) 0 0 0 a b c 3) r) : Ev (fun k => F8c6 k (ba L) 0 0 0 a b c 2) r := by
  refine Ev.step 1 (fun k => F8c6_eq k _ _ _ _ _ _ _ _) ?_
  simp only [show decide ((2 : Int) ≤ 5) = true from rfl, show ((2 : Int) != 2) = false from rfl, if_true, Bool.false_eq_true, if_false]
  exact Ev.step 1 (fun k => F8c7_eq k _ _ _ _ _ _ _ _) hr
theorem TypeGet_im {L : List UInt8} (hl : L.length ≤ 1048576) : Ev (fun k => F8 k (ba L)) (((tV L).1, (tV L).2, ()), ((), ())) := by
  obtain ⟨M1, l1, p1, g1⟩ := trimP_ev L wNum
  obtain ⟨M2, l2, p2, g2⟩ := trimS_ev M1 [41] (by omega) (by simp)
  obtain ⟨A, B, t, la, lb, pc, _, g3⟩ := cutA_ev M2 44 (by omega)
  obtain ⟨D, b1, pD, g4⟩ := atoiA_ev A (by omega)
  obtain ⟨C, b2, pC, g5⟩ := atoiA_ev B (by omega)
  have hn : ∀ m n, okT m n → L = nT m n → D = m ∧ C = n := fun m n h e => by
    obtain ⟨h1, h2, h3, h4⟩ := h
    have e1 := p1 _ e
    have e2 := p2 _ e1
    obtain ⟨e3, e4, _⟩ := pc _ _ (dig_no44 (dg_dig m)) (show M2 = Lib.decDigits m ++ 44 :: Lib.decDigits n from e2)
    exact ⟨(pD m (by omega) e3).1, (pC n (by omega) e4).1⟩
  refine Ev.step 2 (fun k => F8_eq k _) (Ev.bind g1 (Ev.bind g2 (Ev.bind g3 (Ev.bind g4 (Ev.bind g5 ?_)))))
  have s1 := fun {a b c : Int} {r} => get_step (L := L) (W := wBool) (a := a) (b := b) (c := c) (i := 1) (r := r) (by omega) (by omega) (by omega) rfl
  have s3 := fun {a b c : Int} {r} => get_step (L := L) (W := wDay) (a := a) (b := b) (c := c) (i := 3) (r := r) (by omega) (by omega) (by omega) rfl
  have s4 := fun {a b c : Int} {r} => get_step (L := L) (W := wSpan) (a := a) (b := b) (c := c) (i := 4) (r := r) (by omega) (by omega) (by omega) rfl
  have s5 := fun {a b c : Int} {r} => get_step (L := L) (W := wText) (a := a) (b := b) (c := c) (i := 5) (r := r) (by omega) (by omega) (by omega) rfl
  refine s1 (get_step2 (s3 (s4 (s5 ?_))))
  show Ev (fun k => F8c6 k (ba L) 0 0 0 _ _ _ 6) _
  by_cases w1 : L = wBool
  · subst w1
    have := get_end (L := wBool) (x := 0) (y := 0) (z := 0) (TypePutK (i := 1) (W := wBool) (by omega) (by omega) (by omega) rfl)
    exact this
  by_cases w3 : L = wDay
  · subst w3
    have := get_end (L := wDay) (x := 0) (y := 0) (z := 0) (TypePutK (i := 3) (W := wDay) (by omega) (by omega) (by omega) rfl)
    exact this
  by_cases w4 : L = wSpan
  · subst w4
    have := get_end (L := wSpan) (x := 0) (y := 0) (z := 0) (TypePutK (i := 4) (W := wSpan) (by omega) (by omega) (by omega) rfl)
    exact this
  by_cases w5 : L = wText
  · subst w5
    have := get_end (L := wText) (x := 0) (y := 0) (z := 0) (TypePutK (i := 5) (W := wText) (by omega) (by omega) (by omega) rfl)
    exact this
  rw [if_neg w1, if_neg w1, if_neg w1, if_neg w3, if_neg w3, if_neg w3, if_neg w4, if_neg w4, if_neg w4, if_neg w5, if_neg w5, if_neg w5]
  obtain ⟨W, hW, hp⟩ := TypePut2 D C
  have fin := get_end (L := L) (x := 0) (y := 0) (z := 0) hp
  rcases hW with ⟨m, n, hmn, rfl, rfl, rfl⟩ | ⟨hno, rfl⟩
  · by_cases e : L = nT m n
    · subst e
      rw [tV_n hmn]
      rw [if_neg (by rintro (h | h); cases h; exact h rfl)] at fin
      exact fin
    · rw [tV_no w1 w3 w4 w5 (fun m' n' h' e' => by
        obtain ⟨h1, h2⟩ := hn m' n' h' e'
        obtain rfl : m = m' := by omega
        obtain rfl : n = n' := by omega
        exact e e')]
      rw [if_pos (.inr (fun h => e h.symm))] at fin
      exact fin
  · rw [tV_no w1 w3 w4 w5 (fun m' n' h' e' => hno m' n' h' (hn m' n' h' e'))]
    rw [if_pos (by
      by_cases h : L = []
      · exact .inl h
      · exact .inr (fun h2 => h h2.symm))] at fin
    exact fin
/-! ### the reference's side -/
theorem typeOkS (D C : Int) : Ev (fun k => F33 k 2 D C) ((decide (1 ≤ D ∧ D ≤ 30 ∧ 0 ≤ C ∧ C ≤ 12 ∧ C ≤ D), ()), (((), (), (), ()), ())) := by
  refine Ev.step 2 (fun k => F33_eq k _ _ _) ?_
  have nw : ∀ {a lo hi : Int}, ¬ (lo ≤ a ∧ a ≤ hi) → within a lo hi = false := fun {a lo hi} h => by
    cases hw : within a lo hi with
    | false => rfl
    | true => exact absurd (within_iffT.1 hw) h
  simp only [beq_self_eq_true, if_true]
  refine Ev.bind (l1In_ev _ _ _) ?_
  by_cases h : 1 ≤ D ∧ D ≤ 30
  · rw [show within D 1 30 = true from within_iffT.2 h]
    simp only [if_true]
    refine Ev.bind (l1In_ev _ _ _) ?_
    by_cases h2 : 0 ≤ C ∧ C ≤ 12
    · rw [show within C 0 12 = true from within_iffT.2 h2]
      simp only [if_true]
      rw [show decide (C ≤ D) = decide (1 ≤ D ∧ D ≤ 30 ∧ 0 ≤ C ∧ C ≤ 12 ∧ C ≤ D) from decide_eq_decide.2 ⟨fun h3 => ⟨h.1, h.2, h2.1, h2.2, h3⟩, fun h3 => h3.2.2.2.2⟩]
      exact Ev.now _
    · rw [nw h2, show decide (1 ≤ D ∧ D ≤ 30 ∧ 0 ≤ C ∧ C ≤ 12 ∧ C ≤ D) = false from decide_eq_false (fun h3 => h2 ⟨h3.2.2.1, h3.2.2.2.1⟩)]
      simp only [Bool.false_eq_true, if_false]
      exact Ev.now _
  · rw [nw h, show decide (1 ≤ D ∧ D ≤ 30 ∧ 0 ≤ C ∧ C ≤ 12 ∧ C ≤ D) = false from decide_eq_false (fun h3 => h ⟨h3.1, h3.2.1⟩)]
    simp only [Bool.false_eq_true, if_false]
    exact Ev.now _
theorem l4TypeGet_ev {L : List UInt8} (hl : L.length ≤ 1048576) : Ev (fun k => F25 k (ba L)) (((tV L).1, (tV L).2, ()), ((), ())) := by
  refine Ev.step 2 (fun k => F25_eq k _) ?_
  have i1 : ((ba L).toList == (⟨#[98, 111, 111, 108]⟩ : ByteArray).toList) = decide (L = wBool) := isB L wBool
  have i3 : ((ba L).toList == (⟨#[100, 97, 121]⟩ : ByteArray).toList) = decide (L = wDay) := isB L wDay
  have i4 : ((ba L).toList == (⟨#[115, 112, 97, 110]⟩ : ByteArray).toList) = decide (L = wSpan) := isB L wSpan
  have i5 : ((ba L).toList == (⟨#[116, 101, 120, 116]⟩ : ByteArray).toList) = decide (L = wText) := isB L wText
  simp only [i1, i3, i4, i5]
  by_cases w1 : L = wBool
  · subst w1
    exact Ev.now _
  by_cases w3 : L = wDay
  · subst w3
    exact Ev.now _
  by_cases w4 : L = wSpan
  · subst w4
    exact Ev.now _
  by_cases w5 : L = wText
  · subst w5
    exact Ev.now _
  simp only [decide_eq_false w1, decide_eq_false w3, decide_eq_false w4, decide_eq_false w5, Bool.false_eq_true, if_false]
  refine Ev.bind (starts_ev L wNum) ?_
  by_cases hs : L.take wNum.length = wNum
  · simp only [decide_eq_true hs, Bool.not_true, Bool.false_eq_true, if_false]
    obtain ⟨R, rfl⟩ : ∃ R, L = wNum ++ R := ⟨L.drop wNum.length, by have := List.take_append_drop wNum.length L; rw [hs] at this; exact this.symm⟩
    have h4 : (wNum ++ R).length = 4 + R.length := by rw [List.length_append]; rfl
    have hsz : ((ba (wNum ++ R)).size : Int) = 4 + (R.length : Int) := by rw [ba_size, h4]; omega
    have hw : IntKind.i64.wrap (((ba (wNum ++ R)).size : Int) - 1) = ((3 + R.length : Nat) : Int) := by rw [hsz, wrap64 (by omega) (by omega)]; omega
    simp only [hw, ge0, if_true, Int.toNat_natCast]
    rcases List.eq_nil_or_concat R with rfl | ⟨M, c, rfl⟩
    · have hg : (ba (wNum ++ []))[3 + ([] : List UInt8).length]? = some 40 := rfl
      simp only [hg, Option.bind_some, show ((((40 : UInt8).toNat : Int)) != 41) = true from rfl, if_true]
      rw [tV_no w1 w3 w4 w5 (fun m n _ e => by
        have := congrArg List.length e
        unfold nT mid at this
        simp at this)]
      exact Ev.now _
    · rw [List.concat_eq_append] at *
      have hg : (ba (wNum ++ (M ++ [c])))[3 + (M ++ [c]).length]? = some c := by
        rw [ba_get, List.length_append, List.length_singleton, List.getElem?_append_right (by show 4 ≤ _; omega)]
        rw [show 3 + (M.length + 1) - wNum.length = M.length by show 3 + (M.length + 1) - 4 = _; omega, List.getElem?_append_right (Nat.le_refl _), Nat.sub_self]
        rfl
      simp only [hg, Option.bind_some]
      by_cases hc : c = 41
      · subst hc
        have hM : (M ++ [41]).length = M.length + 1 := by simp
        have e2 : (decide ((0 : Int) ≤ 4) && decide ((4 : Int) ≤ ((3 + (M ++ [41]).length : Nat) : Int)) && decide (((3 + (M ++ [41]).length : Nat) : Int) ≤ ((ba (wNum ++ (M ++ [41]))).size : Int))) = true := by rw [hsz, hM]; simp; omega
        have e3 : (ba (wNum ++ (M ++ [41]))).extract 4 (3 + (M ++ [41]).length) = ba M := by
          rw [ba_extract, hM]
          congr 1
          rw [show 3 + (M.length + 1) = (wNum ++ M).length by rw [List.length_append]; show _ = 4 + _; omega, ← List.append_assoc, List.take_left]
          exact List.drop_left (l₁ := wNum)
        simp only [show ((((41 : UInt8).toNat : Int)) != 41) = false from rfl, Bool.false_eq_true, if_false, e2, e3, if_true]
        have hMl : M.length ≤ 1048576 := by rw [h4, hM] at hl; omega
        rcases part_or 44 M with h0 | ⟨A, B, hA, rfl⟩
        · refine Ev.bind (cut0_ev h0 hMl) ?_
          simp only [show ((([ba M] : List ByteArray).length : Int) != 2) = true from rfl, if_true]
          rw [tV_no w1 w3 w4 w5 (fun m n _ e => by
            have e := List.append_cancel_right (List.append_cancel_left e)
            exact h0 (by rw [e]; unfold mid; simp))]
          exact Ev.now _
        · refine Ev.bind (cut1_ev hA hMl) ?_
          rw [List.length_append, List.length_cons] at hMl
          simp only [show ((([ba A, ba B] : List ByteArray).length : Int) != 2) = false from rfl, Bool.false_eq_true, if_false, show ([ba A, ba B] : List ByteArray)[0]? = some (ba A) from rfl, show ([ba A, ba B] : List ByteArray)[1]? = some (ba B) from rfl, Option.bind_some]
          refine Ev.bind (l1Num_ev (by omega)) (Ev.bind (l1Num_ev (by omega)) (Ev.bind (typeOkS _ _) ?_))
          by_cases hok : 1 ≤ numV A ∧ numV A ≤ 30 ∧ 0 ≤ numV B ∧ numV B ≤ 12 ∧ numV B ≤ numV A
          · simp only [decide_eq_true hok, Bool.not_true, Bool.false_eq_true, if_false]
            obtain ⟨m, e1, e2⟩ := (numV_or A).resolve_left (by omega)
            obtain ⟨n, e3, e4⟩ := (numV_or B).resolve_left (by omega)
            have : wNum ++ (A ++ 44 :: B ++ [41]) = nT m n := by rw [e2, e4]; rfl
            rw [this, tV_n ⟨by omega, by omega, by omega, by omega⟩, e1, e3]
            exact Ev.now _
          · simp only [decide_eq_false hok, Bool.not_false, if_true]
            rw [tV_no w1 w3 w4 w5 (fun m n hmn e => by
              have e := List.append_cancel_right (List.append_cancel_left e)
              obtain ⟨rfl, rfl⟩ := part_one hA (dig_no44 (dg_dig m)) e
              obtain ⟨h1, h2, h3, h5⟩ := hmn
              rw [numV_dd (by omega), numV_dd (by omega)] at hok
              exact hok ⟨by omega, by omega, by omega, by omega, by omega⟩)]
            exact Ev.now _
      · have e1 : (((c.toNat : Int)) != 41) = true := bne_iff_ne.2 (fun e => hc (UInt8.toNat_inj.1 (by have : (41 : UInt8).toNat = 41 := rfl; omega)))
        simp only [e1, if_true]
        rw [tV_no w1 w3 w4 w5 (fun m n _ e => hc (by
          have e := List.append_cancel_left e
          have e := (List.append_inj' e rfl).2
          simpa using e))]
        exact Ev.now _
  · simp only [decide_eq_false hs, Bool.not_false, if_true]
    rw [tV_no w1 w3 w4 w5 (fun m n _ e => hs (by rw [e]; exact List.take_left))]
    exact Ev.now _
theorem TypeGet_sp {L : List UInt8} (hl : L.length ≤ 1048576) : Ev (fun k => F7 k (ba L)) (((tV L).1, (tV L).2, ()), ((), ())) := Ev.step 2 (fun k => F7_eq k _) (Ev.bind (l4TypeGet_ev hl) (Ev.now _))
theorem eqType_ev (a b c : Int) : Ev (fun k => F9 k a b c a b c) ((true, ()), (((), (), (), ()), ((), (), (), ()), ())) := by
  refine Ev.step 2 (fun k => F9_eq k _ _ _ _ _ _) ?_
  simp only [bne_self_eq_false, Bool.false_eq_true, if_false]
  exact Ev.now _
end Go.Proofs.YtajbbnkomnfmlaaDoor.R
end

section
/-! Rf: the law FnExactTypeGet, with no machine in sight. -/
set_option autoImplicit false
set_option linter.unusedSimpArgs false
set_option linter.unusedVariables false
namespace Go.Proofs.YtajbbnkomnfmlaaDoor.R
open Go.Rf
theorem FnExactTypeGet : PureFnExactTypeGet := by
  intro s ws
  have fin : Ev (fun k => F3 k s) ((true, ()), ((), ())) := by
    refine Ev.step 2 (fun k => F3_eq k _) ?_
    by_cases hs : s.size > 1048576
    · simp only [decide_eq_true (show (s.size : Int) > 1048576 by omega), if_true]
      exact Ev.now _
    simp only [decide_eq_false (show ¬ (s.size : Int) > 1048576 by omega), Bool.false_eq_true, if_false]
    have hl : s.data.toList.length ≤ 1048576 := by
      have : s.data.toList.length = s.size := by rw [Array.length_toList, ByteArray.size_data]
      omega
    have im := TypeGet_im hl
    have sp := TypeGet_sp hl
    rw [of_data] at im sp
    refine Ev.bind sp (Ev.bind im (Ev.bind (eqType_ev _ _ _) ?_))
    simp only [Bool.not_true, Bool.false_eq_true, if_false, beq_self_eq_true]
    exact Ev.now _
  obtain ⟨k, hk⟩ := Ev.get fin
  exact ⟨k, _, hk⟩
end Go.Proofs.YtajbbnkomnfmlaaDoor.R
end

section
/-- The row, under a short name, for the claim. -/
theorem Go.Proofs.YtajbbnkomnfmlaaDoor.fnExactTypeGet_holds : Go.Proofs.YtajbbnkomnfmlaaDoor.Rows.FnExactTypeGetCardSaid := Go.Proofs.YtajbbnkomnfmlaaDoor.fnExactTypeGet.card Go.Proofs.YtajbbnkomnfmlaaDoor.R.FnExactTypeGet
end
