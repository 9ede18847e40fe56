/-
  DERIVED. GIVEN WITH THE SEED: THE CARDS: each row of YtennmjbdmglebaaGreatDoorRows.lean that lists a variable, with what it lists TIED to the program's text (the seventh form; the later family's looks); each row that meets fmt, with fmt's text TOLD by the authors' own Lean function (tested against real Go, not proved from fmt's source: count such statements apart). THE CARD IS WHAT COUNTS. Prove the row's statement (the work); the ties are given (YtennmjbdmglebaaGreatDoorTie.lean); close each card by the builder's one call (the guide's Derived/Test/ToyasCard.lean, 'card_holds'). Laid BY PROGRAM, IN A SANDBOX (cutbox-door.mjs). By AI agents, Wed Nov 11 2026. No macro, syntax, notation, axiom, sorry.
-/
import Derived.Test.YtennmjbdmglebaaGreatDoorRows
import GoSem.ClaimSeven
namespace Go.Proofs.YtennmjbdmglebaaGreatDoor
namespace Rows

/-- THE TIED CARD OF 'laws.FnDecRoundTwice'. -/
def fnDecRoundTwiceCard : Claim7 := { stood := { row := fnDecRoundTwiceRow, standIns := [], harness := (true, "50485acef5e2142a34264d94b90bf58d554d6e4386ee5ca529c12bbd0c1eb65e"), looks := false }, kinds := [], alts := [], laidByText := true, laidKinds := [.data, .data, .data], laidTests := true, laidLooks := .later }
def FnDecRoundTwiceCardSaid : Prop := Claim7.holds Tryz.pinned (.plain (OpenSpec.ofChange fnDecRoundTwiceSpec)) fnDecRoundTwiceCard

/-- THE TIED CARD OF 'laws.FnDecMore'. -/
def fnDecMoreCard : Claim7 := { stood := { row := fnDecMoreRow, standIns := [], harness := (true, "50485acef5e2142a34264d94b90bf58d554d6e4386ee5ca529c12bbd0c1eb65e"), looks := false }, kinds := [], alts := [], laidByText := true, laidKinds := [.data, .data, .data], laidTests := true, laidLooks := .later }
def FnDecMoreCardSaid : Prop := Claim7.holds Tryz.pinned (.plain (OpenSpec.ofChange fnDecMoreSpec)) fnDecMoreCard

/-- THE TIED CARD OF 'laws.FnDecHalf'. -/
def fnDecHalfCard : Claim7 := { stood := { row := fnDecHalfRow, standIns := [], harness := (true, "50485acef5e2142a34264d94b90bf58d554d6e4386ee5ca529c12bbd0c1eb65e"), looks := false }, kinds := [], alts := [], laidByText := true, laidKinds := [.data, .data, .data], laidTests := true, laidLooks := .later }
def FnDecHalfCardSaid : Prop := Claim7.holds Tryz.pinned (.plain (OpenSpec.ofChange fnDecHalfSpec)) fnDecHalfCard

/-- THE TIED CARD OF 'laws.FnDecRound'. -/
def fnDecRoundCard : Claim7 := { stood := { row := fnDecRoundRow, standIns := [], harness := (true, "50485acef5e2142a34264d94b90bf58d554d6e4386ee5ca529c12bbd0c1eb65e"), looks := false }, kinds := [], alts := [], laidByText := true, laidKinds := [.data, .data, .data], laidTests := true, laidLooks := .later }
def FnDecRoundCardSaid : Prop := Claim7.holds Tryz.pinned (.plain (OpenSpec.ofChange fnDecRoundSpec)) fnDecRoundCard

/-- THE TIED CARD OF 'laws.FnDecMul'. -/
def fnDecMulCard : Claim7 := { stood := { row := fnDecMulRow, standIns := [], harness := (true, "50485acef5e2142a34264d94b90bf58d554d6e4386ee5ca529c12bbd0c1eb65e"), looks := false }, kinds := [], alts := [], laidByText := true, laidKinds := [.data, .data, .data], laidTests := true, laidLooks := .later }
def FnDecMulCardSaid : Prop := Claim7.holds Tryz.pinned (.plain (OpenSpec.ofChange fnDecMulSpec)) fnDecMulCard

/-- THE TIED CARD OF 'laws.FnDecDiv'. -/
def fnDecDivCard : Claim7 := { stood := { row := fnDecDivRow, standIns := [], harness := (true, "50485acef5e2142a34264d94b90bf58d554d6e4386ee5ca529c12bbd0c1eb65e"), looks := false }, kinds := [], alts := [], laidByText := true, laidKinds := [.data, .data, .data], laidTests := true, laidLooks := .later }
def FnDecDivCardSaid : Prop := Claim7.holds Tryz.pinned (.plain (OpenSpec.ofChange fnDecDivSpec)) fnDecDivCard

/-- THE TIED CARD OF 'laws.FnDecMulSum'. -/
def fnDecMulSumCard : Claim7 := { stood := { row := fnDecMulSumRow, standIns := [], harness := (true, "50485acef5e2142a34264d94b90bf58d554d6e4386ee5ca529c12bbd0c1eb65e"), looks := false }, kinds := [], alts := [], laidByText := true, laidKinds := [.data, .data, .data], laidTests := true, laidLooks := .later }
def FnDecMulSumCardSaid : Prop := Claim7.holds Tryz.pinned (.plain (OpenSpec.ofChange fnDecMulSumSpec)) fnDecMulSumCard

/-- THE SECOND FORM's CARD OF 'laws.FnDecRoundTwice'. -/
def fnDecRoundTwiceUptoCard : Claim7 := { stood := { row := fnDecRoundTwiceUptoRow, standIns := [], harness := (true, "50485acef5e2142a34264d94b90bf58d554d6e4386ee5ca529c12bbd0c1eb65e"), looks := false }, kinds := [], alts := [], laidByText := true, laidKinds := [.data, .data, .data], laidTests := true, laidLooks := .later }
def FnDecRoundTwiceUptoCardSaid : Prop := Claim7.holds Tryz.pinned (.plain (OpenSpec.upto fnDecRoundTwiceSpec)) fnDecRoundTwiceUptoCard

/-- THE SECOND FORM's CARD OF 'laws.FnDecMore'. -/
def fnDecMoreUptoCard : Claim7 := { stood := { row := fnDecMoreUptoRow, standIns := [], harness := (true, "50485acef5e2142a34264d94b90bf58d554d6e4386ee5ca529c12bbd0c1eb65e"), looks := false }, kinds := [], alts := [], laidByText := true, laidKinds := [.data, .data, .data], laidTests := true, laidLooks := .later }
def FnDecMoreUptoCardSaid : Prop := Claim7.holds Tryz.pinned (.plain (OpenSpec.upto fnDecMoreSpec)) fnDecMoreUptoCard

/-- THE SECOND FORM's CARD OF 'laws.FnDecHalf'. -/
def fnDecHalfUptoCard : Claim7 := { stood := { row := fnDecHalfUptoRow, standIns := [], harness := (true, "50485acef5e2142a34264d94b90bf58d554d6e4386ee5ca529c12bbd0c1eb65e"), looks := false }, kinds := [], alts := [], laidByText := true, laidKinds := [.data, .data, .data], laidTests := true, laidLooks := .later }
def FnDecHalfUptoCardSaid : Prop := Claim7.holds Tryz.pinned (.plain (OpenSpec.upto fnDecHalfSpec)) fnDecHalfUptoCard

/-- THE SECOND FORM's CARD OF 'laws.FnDecRound'. -/
def fnDecRoundUptoCard : Claim7 := { stood := { row := fnDecRoundUptoRow, standIns := [], harness := (true, "50485acef5e2142a34264d94b90bf58d554d6e4386ee5ca529c12bbd0c1eb65e"), looks := false }, kinds := [], alts := [], laidByText := true, laidKinds := [.data, .data, .data], laidTests := true, laidLooks := .later }
def FnDecRoundUptoCardSaid : Prop := Claim7.holds Tryz.pinned (.plain (OpenSpec.upto fnDecRoundSpec)) fnDecRoundUptoCard

/-- THE SECOND FORM's CARD OF 'laws.FnDecMul'. -/
def fnDecMulUptoCard : Claim7 := { stood := { row := fnDecMulUptoRow, standIns := [], harness := (true, "50485acef5e2142a34264d94b90bf58d554d6e4386ee5ca529c12bbd0c1eb65e"), looks := false }, kinds := [], alts := [], laidByText := true, laidKinds := [.data, .data, .data], laidTests := true, laidLooks := .later }
def FnDecMulUptoCardSaid : Prop := Claim7.holds Tryz.pinned (.plain (OpenSpec.upto fnDecMulSpec)) fnDecMulUptoCard

/-- THE SECOND FORM's CARD OF 'laws.FnDecDiv'. -/
def fnDecDivUptoCard : Claim7 := { stood := { row := fnDecDivUptoRow, standIns := [], harness := (true, "50485acef5e2142a34264d94b90bf58d554d6e4386ee5ca529c12bbd0c1eb65e"), looks := false }, kinds := [], alts := [], laidByText := true, laidKinds := [.data, .data, .data], laidTests := true, laidLooks := .later }
def FnDecDivUptoCardSaid : Prop := Claim7.holds Tryz.pinned (.plain (OpenSpec.upto fnDecDivSpec)) fnDecDivUptoCard

/-- THE SECOND FORM's CARD OF 'laws.FnDecMulSum'. -/
def fnDecMulSumUptoCard : Claim7 := { stood := { row := fnDecMulSumUptoRow, standIns := [], harness := (true, "50485acef5e2142a34264d94b90bf58d554d6e4386ee5ca529c12bbd0c1eb65e"), looks := false }, kinds := [], alts := [], laidByText := true, laidKinds := [.data, .data, .data], laidTests := true, laidLooks := .later }
def FnDecMulSumUptoCardSaid : Prop := Claim7.holds Tryz.pinned (.plain (OpenSpec.upto fnDecMulSumSpec)) fnDecMulSumUptoCard
end Rows
end Go.Proofs.YtennmjbdmglebaaGreatDoor
