/-
  DERIVED. GIVEN WITH THE SEED: THE CARDS: each row of YthpgglegdhjihaaGreatDoorRows.lean that lists a variable, with what it lists TIED to the program's text (the seventh form; the later family's looks); each row that meets fmt, with fmt's text TOLD by the authors' own Lean function (tested against real Go, not proved from fmt's source: count such statements apart). THE CARD IS WHAT COUNTS. Prove the row's statement (the work); the ties are given (YthpgglegdhjihaaGreatDoorTie.lean); close each card by the builder's one call (the guide's Derived/Test/ToyasCard.lean, 'card_holds'). Laid BY PROGRAM, IN A SANDBOX (cutbox-door.mjs). By AI agents, Wed Nov 11 2026. No macro, syntax, notation, axiom, sorry.
-/
import Derived.Test.YthpgglegdhjihaaGreatDoorRows
import GoSem.ClaimSeven
namespace Go.Proofs.YthpgglegdhjihaaGreatDoor
namespace Rows

/-- THE TIED CARD OF 'laws.FnExactValueCmp'. -/
def fnExactValueCmpCard : Claim7 := { stood := { row := fnExactValueCmpRow, standIns := [], harness := (true, "7400113e69f128e2cef78f5abaff5e0662cffd7be712a6846863a3b5d93e192b"), looks := false }, kinds := [], alts := [], laidByText := true, laidKinds := [.data, .data, .data], laidTests := true, laidLooks := .later }
def FnExactValueCmpCardSaid : Prop := Claim7.holds Tryz.pinned (.plain (OpenSpec.ofChange fnExactValueCmpSpec)) fnExactValueCmpCard

/-- THE TIED CARD OF 'laws.FnExactValueOrder'. -/
def fnExactValueOrderCard : Claim7 := { stood := { row := fnExactValueOrderRow, standIns := [], harness := (true, "7400113e69f128e2cef78f5abaff5e0662cffd7be712a6846863a3b5d93e192b"), looks := false }, kinds := [], alts := [], laidByText := true, laidKinds := [.data, .data, .data], laidTests := true, laidLooks := .later }
def FnExactValueOrderCardSaid : Prop := Claim7.holds Tryz.pinned (.plain (OpenSpec.ofChange fnExactValueOrderSpec)) fnExactValueOrderCard

/-- THE TIED CARD OF 'laws.FnExactRowOrder'. -/
def fnExactRowOrderCard : Claim7 := { stood := { row := fnExactRowOrderRow, standIns := [], harness := (true, "7400113e69f128e2cef78f5abaff5e0662cffd7be712a6846863a3b5d93e192b"), looks := false }, kinds := [], alts := [], laidByText := true, laidKinds := [.data, .data, .data], laidTests := true, laidLooks := .later }
def FnExactRowOrderCardSaid : Prop := Claim7.holds Tryz.pinned (.plain (OpenSpec.ofChange fnExactRowOrderSpec)) fnExactRowOrderCard

/-- THE TIED CARD OF 'laws.FnValueCmp'. -/
def fnValueCmpCard : Claim7 := { stood := { row := fnValueCmpRow, standIns := [], harness := (true, "7400113e69f128e2cef78f5abaff5e0662cffd7be712a6846863a3b5d93e192b"), looks := false }, kinds := [], alts := [], laidByText := true, laidKinds := [.data, .data, .data], laidTests := true, laidLooks := .later }
def FnValueCmpCardSaid : Prop := Claim7.holds Tryz.pinned (.plain (OpenSpec.ofChange fnValueCmpSpec)) fnValueCmpCard

/-- THE TIED CARD OF 'laws.FnValueOrder'. -/
def fnValueOrderCard : Claim7 := { stood := { row := fnValueOrderRow, standIns := [], harness := (true, "7400113e69f128e2cef78f5abaff5e0662cffd7be712a6846863a3b5d93e192b"), looks := false }, kinds := [], alts := [], laidByText := true, laidKinds := [.data, .data, .data], laidTests := true, laidLooks := .later }
def FnValueOrderCardSaid : Prop := Claim7.holds Tryz.pinned (.plain (OpenSpec.ofChange fnValueOrderSpec)) fnValueOrderCard

/-- THE SECOND FORM's CARD OF 'laws.FnExactValueCmp'. -/
def fnExactValueCmpUptoCard : Claim7 := { stood := { row := fnExactValueCmpUptoRow, standIns := [], harness := (true, "7400113e69f128e2cef78f5abaff5e0662cffd7be712a6846863a3b5d93e192b"), looks := false }, kinds := [], alts := [], laidByText := true, laidKinds := [.data, .data, .data], laidTests := true, laidLooks := .later }
def FnExactValueCmpUptoCardSaid : Prop := Claim7.holds Tryz.pinned (.plain (OpenSpec.upto fnExactValueCmpSpec)) fnExactValueCmpUptoCard

/-- THE SECOND FORM's CARD OF 'laws.FnExactValueOrder'. -/
def fnExactValueOrderUptoCard : Claim7 := { stood := { row := fnExactValueOrderUptoRow, standIns := [], harness := (true, "7400113e69f128e2cef78f5abaff5e0662cffd7be712a6846863a3b5d93e192b"), looks := false }, kinds := [], alts := [], laidByText := true, laidKinds := [.data, .data, .data], laidTests := true, laidLooks := .later }
def FnExactValueOrderUptoCardSaid : Prop := Claim7.holds Tryz.pinned (.plain (OpenSpec.upto fnExactValueOrderSpec)) fnExactValueOrderUptoCard

/-- THE SECOND FORM's CARD OF 'laws.FnExactRowOrder'. -/
def fnExactRowOrderUptoCard : Claim7 := { stood := { row := fnExactRowOrderUptoRow, standIns := [], harness := (true, "7400113e69f128e2cef78f5abaff5e0662cffd7be712a6846863a3b5d93e192b"), looks := false }, kinds := [], alts := [], laidByText := true, laidKinds := [.data, .data, .data], laidTests := true, laidLooks := .later }
def FnExactRowOrderUptoCardSaid : Prop := Claim7.holds Tryz.pinned (.plain (OpenSpec.upto fnExactRowOrderSpec)) fnExactRowOrderUptoCard

/-- THE SECOND FORM's CARD OF 'laws.FnValueCmp'. -/
def fnValueCmpUptoCard : Claim7 := { stood := { row := fnValueCmpUptoRow, standIns := [], harness := (true, "7400113e69f128e2cef78f5abaff5e0662cffd7be712a6846863a3b5d93e192b"), looks := false }, kinds := [], alts := [], laidByText := true, laidKinds := [.data, .data, .data], laidTests := true, laidLooks := .later }
def FnValueCmpUptoCardSaid : Prop := Claim7.holds Tryz.pinned (.plain (OpenSpec.upto fnValueCmpSpec)) fnValueCmpUptoCard

/-- THE SECOND FORM's CARD OF 'laws.FnValueOrder'. -/
def fnValueOrderUptoCard : Claim7 := { stood := { row := fnValueOrderUptoRow, standIns := [], harness := (true, "7400113e69f128e2cef78f5abaff5e0662cffd7be712a6846863a3b5d93e192b"), looks := false }, kinds := [], alts := [], laidByText := true, laidKinds := [.data, .data, .data], laidTests := true, laidLooks := .later }
def FnValueOrderUptoCardSaid : Prop := Claim7.holds Tryz.pinned (.plain (OpenSpec.upto fnValueOrderSpec)) fnValueOrderUptoCard
end Rows
end Go.Proofs.YthpgglegdhjihaaGreatDoor
