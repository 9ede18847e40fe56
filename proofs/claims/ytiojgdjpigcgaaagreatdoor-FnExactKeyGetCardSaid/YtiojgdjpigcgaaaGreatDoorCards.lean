/-
  DERIVED. GIVEN WITH THE SEED: THE CARDS: each row of YtiojgdjpigcgaaaGreatDoorRows.lean that lists a variable, with what it lists TIED to the program's text (the seventh form; the later family's looks); each row that meets fmt, with fmt's text TOLD by the authors' own Lean function (tested against real Go, not proved from fmt's source: count such statements apart). THE CARD IS WHAT COUNTS. Prove the row's statement (the work); the ties are given (YtiojgdjpigcgaaaGreatDoorTie.lean); close each card by the builder's one call (the guide's Derived/Test/ToyasCard.lean, 'card_holds'). Laid BY PROGRAM, IN A SANDBOX (cutbox-door.mjs). By AI agents, Wed Nov 11 2026. No macro, syntax, notation, axiom, sorry.
-/
import Derived.Test.YtiojgdjpigcgaaaGreatDoorRows
import GoSem.ClaimSeven
namespace Go.Proofs.YtiojgdjpigcgaaaGreatDoor
namespace Rows

/-- THE TIED CARD OF 'laws.FnKeyOrder'. -/
def fnKeyOrderCard : Claim7 := { stood := { row := fnKeyOrderRow, standIns := [], harness := (true, "60f3e9483d85c8b9b59a73f45859806bdb181c9694843932081c4f7b050b4116"), looks := true }, kinds := [], alts := [], laidByText := true, laidKinds := [.data, .data, .data, .data, .pinned], laidTests := true, laidLooks := .later }
def FnKeyOrderCardSaid : Prop := Claim7.holds Tryz.pinned (.plain (OpenSpec.ofChange fnKeyOrderSpec)) fnKeyOrderCard

/-- THE TIED CARD OF 'laws.FnExactKeyGet'. -/
def fnExactKeyGetCard : Claim7 := { stood := { row := fnExactKeyGetRow, standIns := [], harness := (true, "60f3e9483d85c8b9b59a73f45859806bdb181c9694843932081c4f7b050b4116"), looks := true }, kinds := [], alts := [], laidByText := true, laidKinds := [.data, .data, .data, .data, .sentinel, .sentinel, .pinned], laidTests := true, laidLooks := .later }
def FnExactKeyGetCardSaid : Prop := Claim7.holds Tryz.pinned (.plain (OpenSpec.ofChange fnExactKeyGetSpec)) fnExactKeyGetCard

/-- THE TIED CARD OF 'laws.FnKeyRows'. -/
def fnKeyRowsCard : Claim7 := { stood := { row := fnKeyRowsRow, standIns := [], harness := (true, "60f3e9483d85c8b9b59a73f45859806bdb181c9694843932081c4f7b050b4116"), looks := true }, kinds := [], alts := [], laidByText := true, laidKinds := [.data, .data, .data, .data, .pinned], laidTests := true, laidLooks := .later }
def FnKeyRowsCardSaid : Prop := Claim7.holds Tryz.pinned (.plain (OpenSpec.ofChange fnKeyRowsSpec)) fnKeyRowsCard

/-- THE TIED CARD OF 'laws.FnExactKeyPut'. -/
def fnExactKeyPutCard : Claim7 := { stood := { row := fnExactKeyPutRow, standIns := [], harness := (true, "60f3e9483d85c8b9b59a73f45859806bdb181c9694843932081c4f7b050b4116"), looks := true }, kinds := [], alts := [], laidByText := true, laidKinds := [.data, .data, .data, .data, .pinned], laidTests := true, laidLooks := .later }
def FnExactKeyPutCardSaid : Prop := Claim7.holds Tryz.pinned (.plain (OpenSpec.ofChange fnExactKeyPutSpec)) fnExactKeyPutCard

/-- THE TIED CARD OF 'laws.FnExactKeyAll'. -/
def fnExactKeyAllCard : Claim7 := { stood := { row := fnExactKeyAllRow, standIns := [], harness := (true, "60f3e9483d85c8b9b59a73f45859806bdb181c9694843932081c4f7b050b4116"), looks := true }, kinds := [], alts := [], laidByText := true, laidKinds := [.data, .data, .data, .data, .pinned], laidTests := true, laidLooks := .later }
def FnExactKeyAllCardSaid : Prop := Claim7.holds Tryz.pinned (.plain (OpenSpec.ofChange fnExactKeyAllSpec)) fnExactKeyAllCard

/-- THE TIED CARD OF 'laws.FnKeyStart'. -/
def fnKeyStartCard : Claim7 := { stood := { row := fnKeyStartRow, standIns := [], harness := (true, "60f3e9483d85c8b9b59a73f45859806bdb181c9694843932081c4f7b050b4116"), looks := true }, kinds := [], alts := [], laidByText := true, laidKinds := [.data, .data, .data, .data, .pinned], laidTests := true, laidLooks := .later }
def FnKeyStartCardSaid : Prop := Claim7.holds Tryz.pinned (.plain (OpenSpec.ofChange fnKeyStartSpec)) fnKeyStartCard

/-- THE SECOND FORM's CARD OF 'laws.FnKeyOrder'. -/
def fnKeyOrderUptoCard : Claim7 := { stood := { row := fnKeyOrderUptoRow, standIns := [], harness := (true, "60f3e9483d85c8b9b59a73f45859806bdb181c9694843932081c4f7b050b4116"), looks := true }, kinds := [], alts := [], laidByText := true, laidKinds := [.data, .data, .data, .data, .pinned], laidTests := true, laidLooks := .later }
def FnKeyOrderUptoCardSaid : Prop := Claim7.holds Tryz.pinned (.plain (OpenSpec.upto fnKeyOrderSpec)) fnKeyOrderUptoCard

/-- THE SECOND FORM's CARD OF 'laws.FnExactKeyGet'. -/
def fnExactKeyGetUptoCard : Claim7 := { stood := { row := fnExactKeyGetUptoRow, standIns := [], harness := (true, "60f3e9483d85c8b9b59a73f45859806bdb181c9694843932081c4f7b050b4116"), looks := true }, kinds := [], alts := [], laidByText := true, laidKinds := [.data, .data, .data, .data, .sentinel, .sentinel, .pinned], laidTests := true, laidLooks := .later }
def FnExactKeyGetUptoCardSaid : Prop := Claim7.holds Tryz.pinned (.plain (OpenSpec.upto fnExactKeyGetSpec)) fnExactKeyGetUptoCard

/-- THE SECOND FORM's CARD OF 'laws.FnKeyRows'. -/
def fnKeyRowsUptoCard : Claim7 := { stood := { row := fnKeyRowsUptoRow, standIns := [], harness := (true, "60f3e9483d85c8b9b59a73f45859806bdb181c9694843932081c4f7b050b4116"), looks := true }, kinds := [], alts := [], laidByText := true, laidKinds := [.data, .data, .data, .data, .pinned], laidTests := true, laidLooks := .later }
def FnKeyRowsUptoCardSaid : Prop := Claim7.holds Tryz.pinned (.plain (OpenSpec.upto fnKeyRowsSpec)) fnKeyRowsUptoCard

/-- THE SECOND FORM's CARD OF 'laws.FnExactKeyPut'. -/
def fnExactKeyPutUptoCard : Claim7 := { stood := { row := fnExactKeyPutUptoRow, standIns := [], harness := (true, "60f3e9483d85c8b9b59a73f45859806bdb181c9694843932081c4f7b050b4116"), looks := true }, kinds := [], alts := [], laidByText := true, laidKinds := [.data, .data, .data, .data, .pinned], laidTests := true, laidLooks := .later }
def FnExactKeyPutUptoCardSaid : Prop := Claim7.holds Tryz.pinned (.plain (OpenSpec.upto fnExactKeyPutSpec)) fnExactKeyPutUptoCard

/-- THE SECOND FORM's CARD OF 'laws.FnExactKeyAll'. -/
def fnExactKeyAllUptoCard : Claim7 := { stood := { row := fnExactKeyAllUptoRow, standIns := [], harness := (true, "60f3e9483d85c8b9b59a73f45859806bdb181c9694843932081c4f7b050b4116"), looks := true }, kinds := [], alts := [], laidByText := true, laidKinds := [.data, .data, .data, .data, .pinned], laidTests := true, laidLooks := .later }
def FnExactKeyAllUptoCardSaid : Prop := Claim7.holds Tryz.pinned (.plain (OpenSpec.upto fnExactKeyAllSpec)) fnExactKeyAllUptoCard

/-- THE SECOND FORM's CARD OF 'laws.FnKeyStart'. -/
def fnKeyStartUptoCard : Claim7 := { stood := { row := fnKeyStartUptoRow, standIns := [], harness := (true, "60f3e9483d85c8b9b59a73f45859806bdb181c9694843932081c4f7b050b4116"), looks := true }, kinds := [], alts := [], laidByText := true, laidKinds := [.data, .data, .data, .data, .pinned], laidTests := true, laidLooks := .later }
def FnKeyStartUptoCardSaid : Prop := Claim7.holds Tryz.pinned (.plain (OpenSpec.upto fnKeyStartSpec)) fnKeyStartUptoCard
end Rows
end Go.Proofs.YtiojgdjpigcgaaaGreatDoor
