/-
  DERIVED. GIVEN WITH THE SEED: THE CARDS: each row of YthbibdpbfgoghaaGreatDoorRows.lean that lists a variable, with what it lists TIED to the program's text (the seventh form; the later family's looks); each row that meets fmt, with fmt's text TOLD by the authors' own Lean function (tested against real Go, not proved from fmt's source: count such statements apart). THE CARD IS WHAT COUNTS. Prove the row's statement (the work); the ties are given (YthbibdpbfgoghaaGreatDoorTie.lean); close each card by the builder's one call (the guide's Derived/Test/ToyasCard.lean, 'card_holds'). Laid BY PROGRAM, IN A SANDBOX (cutbox-door.mjs). By AI agents, Wed Nov 11 2026. No macro, syntax, notation, axiom, sorry.
-/
import Derived.Test.YthbibdpbfgoghaaGreatDoorRows
import GoSem.ClaimSeven
namespace Go.Proofs.YthbibdpbfgoghaaGreatDoor
namespace Rows

/-- THE TIED CARD OF 'laws.FnExactRowOrder'. -/
def fnExactRowOrderCard : Claim7 := { stood := { row := fnExactRowOrderRow, standIns := [], harness := (true, "4822e9a488635222c449b825bd98ec26baee3db8922bc4c8989689dd82084661"), looks := false }, kinds := [], alts := [], laidByText := true, laidKinds := [.data, .data, .data], laidTests := true, laidLooks := .later }
def FnExactRowOrderCardSaid : Prop := Claim7.holds Tryz.pinned (.plain (OpenSpec.ofChange fnExactRowOrderSpec)) fnExactRowOrderCard

/-- THE SECOND FORM's CARD OF 'laws.FnExactRowOrder'. -/
def fnExactRowOrderUptoCard : Claim7 := { stood := { row := fnExactRowOrderUptoRow, standIns := [], harness := (true, "4822e9a488635222c449b825bd98ec26baee3db8922bc4c8989689dd82084661"), looks := false }, kinds := [], alts := [], laidByText := true, laidKinds := [.data, .data, .data], laidTests := true, laidLooks := .later }
def FnExactRowOrderUptoCardSaid : Prop := Claim7.holds Tryz.pinned (.plain (OpenSpec.upto fnExactRowOrderSpec)) fnExactRowOrderUptoCard
end Rows
end Go.Proofs.YthbibdpbfgoghaaGreatDoor
