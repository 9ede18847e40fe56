/-
  DERIVED. GIVEN WITH THE SEED: THE CARDS: each row of YtdmcibaoebmieaaGreatDoorRows.lean that lists a variable, with what it lists TIED to the program's text (the seventh form; the later family's looks); each row that meets fmt, with fmt's text TOLD by the authors' own Lean function (tested against real Go, not proved from fmt's source: count such statements apart). THE CARD IS WHAT COUNTS. Prove the row's statement (the work); the ties are given (YtdmcibaoebmieaaGreatDoorTie.lean); close each card by the builder's one call (the guide's Derived/Test/ToyasCard.lean, 'card_holds'). Laid BY PROGRAM, IN A SANDBOX (cutbox-door.mjs). By AI agents, Wed Nov 11 2026. No macro, syntax, notation, axiom, sorry.
-/
import Derived.Test.YtdmcibaoebmieaaGreatDoorRows
import GoSem.ClaimSeven
namespace Go.Proofs.YtdmcibaoebmieaaGreatDoor
namespace Rows

/-- THE TIED CARD OF 'laws.FnDecTrim'. -/
def fnDecTrimCard : Claim7 := { stood := { row := fnDecTrimRow, standIns := [], harness := (true, "60bf4cd0554138aa94808f59d6a3acb5441a2e44a399aaba0dc2e35e34ce169b"), looks := false }, kinds := [], alts := [], laidByText := true, laidKinds := [.data, .data, .data], laidTests := true, laidLooks := .later }
def FnDecTrimCardSaid : Prop := Claim7.holds Tryz.pinned (.plain (OpenSpec.ofChange fnDecTrimSpec)) fnDecTrimCard

/-- THE TIED CARD OF 'laws.FnDecCmp'. -/
def fnDecCmpCard : Claim7 := { stood := { row := fnDecCmpRow, standIns := [], harness := (true, "60bf4cd0554138aa94808f59d6a3acb5441a2e44a399aaba0dc2e35e34ce169b"), looks := false }, kinds := [], alts := [], laidByText := true, laidKinds := [.data, .data, .data], laidTests := true, laidLooks := .later }
def FnDecCmpCardSaid : Prop := Claim7.holds Tryz.pinned (.plain (OpenSpec.ofChange fnDecCmpSpec)) fnDecCmpCard

/-- THE TIED CARD OF 'laws.FnDecSub'. -/
def fnDecSubCard : Claim7 := { stood := { row := fnDecSubRow, standIns := [], harness := (true, "60bf4cd0554138aa94808f59d6a3acb5441a2e44a399aaba0dc2e35e34ce169b"), looks := false }, kinds := [], alts := [], laidByText := true, laidKinds := [.data, .data, .data], laidTests := true, laidLooks := .later }
def FnDecSubCardSaid : Prop := Claim7.holds Tryz.pinned (.plain (OpenSpec.ofChange fnDecSubSpec)) fnDecSubCard

/-- THE TIED CARD OF 'laws.FnDecAdd'. -/
def fnDecAddCard : Claim7 := { stood := { row := fnDecAddRow, standIns := [], harness := (true, "60bf4cd0554138aa94808f59d6a3acb5441a2e44a399aaba0dc2e35e34ce169b"), looks := false }, kinds := [], alts := [], laidByText := true, laidKinds := [.data, .data, .data], laidTests := true, laidLooks := .later }
def FnDecAddCardSaid : Prop := Claim7.holds Tryz.pinned (.plain (OpenSpec.ofChange fnDecAddSpec)) fnDecAddCard

/-- THE SECOND FORM's CARD OF 'laws.FnDecTrim'. -/
def fnDecTrimUptoCard : Claim7 := { stood := { row := fnDecTrimUptoRow, standIns := [], harness := (true, "60bf4cd0554138aa94808f59d6a3acb5441a2e44a399aaba0dc2e35e34ce169b"), looks := false }, kinds := [], alts := [], laidByText := true, laidKinds := [.data, .data, .data], laidTests := true, laidLooks := .later }
def FnDecTrimUptoCardSaid : Prop := Claim7.holds Tryz.pinned (.plain (OpenSpec.upto fnDecTrimSpec)) fnDecTrimUptoCard

/-- THE SECOND FORM's CARD OF 'laws.FnDecCmp'. -/
def fnDecCmpUptoCard : Claim7 := { stood := { row := fnDecCmpUptoRow, standIns := [], harness := (true, "60bf4cd0554138aa94808f59d6a3acb5441a2e44a399aaba0dc2e35e34ce169b"), looks := false }, kinds := [], alts := [], laidByText := true, laidKinds := [.data, .data, .data], laidTests := true, laidLooks := .later }
def FnDecCmpUptoCardSaid : Prop := Claim7.holds Tryz.pinned (.plain (OpenSpec.upto fnDecCmpSpec)) fnDecCmpUptoCard

/-- THE SECOND FORM's CARD OF 'laws.FnDecSub'. -/
def fnDecSubUptoCard : Claim7 := { stood := { row := fnDecSubUptoRow, standIns := [], harness := (true, "60bf4cd0554138aa94808f59d6a3acb5441a2e44a399aaba0dc2e35e34ce169b"), looks := false }, kinds := [], alts := [], laidByText := true, laidKinds := [.data, .data, .data], laidTests := true, laidLooks := .later }
def FnDecSubUptoCardSaid : Prop := Claim7.holds Tryz.pinned (.plain (OpenSpec.upto fnDecSubSpec)) fnDecSubUptoCard

/-- THE SECOND FORM's CARD OF 'laws.FnDecAdd'. -/
def fnDecAddUptoCard : Claim7 := { stood := { row := fnDecAddUptoRow, standIns := [], harness := (true, "60bf4cd0554138aa94808f59d6a3acb5441a2e44a399aaba0dc2e35e34ce169b"), looks := false }, kinds := [], alts := [], laidByText := true, laidKinds := [.data, .data, .data], laidTests := true, laidLooks := .later }
def FnDecAddUptoCardSaid : Prop := Claim7.holds Tryz.pinned (.plain (OpenSpec.upto fnDecAddSpec)) fnDecAddUptoCard
end Rows
end Go.Proofs.YtdmcibaoebmieaaGreatDoor
