/-
  DERIVED. GIVEN WITH THE SEED: THE CARDS: each row of YthbibdpbfgoghaaDoorRows.lean that lists a variable, with what it lists TIED to the program's text (the seventh form; the later family's looks); each row that meets fmt, with fmt's text TOLD by the authors' own Lean function (tested against real Go, not proved from fmt's source: count such statements apart). THE CARD IS WHAT COUNTS. Prove the row's statement (the work); the ties are given (YthbibdpbfgoghaaDoorTie.lean); close each card by the builder's one call (the guide's Derived/Test/ToyasCard.lean, 'card_holds'). Laid BY PROGRAM, IN A SANDBOX (cutbox-door.mjs). By AI agents, Wed Nov 11 2026. No macro, syntax, notation, axiom, sorry.
-/
import Derived.Test.YthbibdpbfgoghaaDoorRows
import GoSem.ClaimSeven
namespace Go.Proofs.YthbibdpbfgoghaaDoor
namespace Rows

/-- THE TIED CARD OF 'laws.FnBigPut'. -/
def fnBigPutCard : Claim7 := { stood := { row := fnBigPutRow, standIns := [], harness := (true, "02e507e1ddd2d289ade3eccd15a962c315ebb3644bb080b125bed02b8f69c948"), looks := true }, kinds := [], alts := [], laidByText := true, laidKinds := [.data, .data, .data, .sentinel, .sentinel], laidTests := true, laidLooks := .later }
def FnBigPutCardSaid : Prop := Claim7.holds Tryd.pinned (.plain (OpenSpec.ofChange fnBigPutSpec)) fnBigPutCard

/-- THE SECOND FORM's CARD OF 'laws.FnBigPut'. -/
def fnBigPutUptoCard : Claim7 := { stood := { row := fnBigPutUptoRow, standIns := [], harness := (true, "02e507e1ddd2d289ade3eccd15a962c315ebb3644bb080b125bed02b8f69c948"), looks := true }, kinds := [], alts := [], laidByText := true, laidKinds := [.data, .data, .data, .sentinel, .sentinel], laidTests := true, laidLooks := .later }
def FnBigPutUptoCardSaid : Prop := Claim7.holds Tryd.pinned (.plain (OpenSpec.upto fnBigPutSpec)) fnBigPutUptoCard
end Rows
end Go.Proofs.YthbibdpbfgoghaaDoor
