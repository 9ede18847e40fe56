/-
  DERIVED. GIVEN WITH THE SEED: THE CARDS: each row of YtajbbnkomnfmlaaDoorRows.lean that lists a variable, with what it lists TIED to the program's text (the seventh form; the later family's looks); each row that meets fmt, with fmt's text TOLD by the authors' own Lean function (tested against real Go, not proved from fmt's source: count such statements apart). THE CARD IS WHAT COUNTS. Prove the row's statement (the work); the ties are given (YtajbbnkomnfmlaaDoorTie.lean); close each card by the builder's one call (the guide's Derived/Test/ToyasCard.lean, 'card_holds'). Laid BY PROGRAM, IN A SANDBOX (cutbox-door.mjs). By AI agents, Wed Nov 11 2026. No macro, syntax, notation, axiom, sorry.
-/
import Derived.Test.YtajbbnkomnfmlaaDoorRows
import GoSem.ClaimSeven
namespace Go.Proofs.YtajbbnkomnfmlaaDoor
namespace Rows

/-- THE TIED CARD OF 'laws.FnExactTypeGet'. -/
def fnExactTypeGetCard : Claim7 := { stood := { row := fnExactTypeGetRow, standIns := [], harness := (true, "b1e9560ec6aafe62ad48b33291760fe81960f62d18bbaf499a61eb341c5cc1d3"), looks := true }, kinds := [], alts := [], laidByText := true, laidKinds := [.data, .data, .data, .sentinel, .sentinel, .data], laidTests := true, laidLooks := .later }
def FnExactTypeGetCardSaid : Prop := Claim7.holds Tryd.pinned (.plain (OpenSpec.ofChange fnExactTypeGetSpec)) fnExactTypeGetCard

/-- THE TIED CARD OF 'laws.FnType'. -/
def fnTypeCard : Claim7 := { stood := { row := fnTypeRow, standIns := [], harness := (true, "b1e9560ec6aafe62ad48b33291760fe81960f62d18bbaf499a61eb341c5cc1d3"), looks := true }, kinds := [], alts := [], laidByText := true, laidKinds := [.data, .data, .data, .sentinel, .sentinel, .data], laidTests := true, laidLooks := .later }
def FnTypeCardSaid : Prop := Claim7.holds Tryd.pinned (.plain (OpenSpec.ofChange fnTypeSpec)) fnTypeCard

/-- THE TIED CARD OF 'laws.FnExactNodePut'. -/
def fnExactNodePutCard : Claim7 := { stood := { row := fnExactNodePutRow, standIns := [], harness := (true, "b1e9560ec6aafe62ad48b33291760fe81960f62d18bbaf499a61eb341c5cc1d3"), looks := true }, kinds := [], alts := [], laidByText := true, laidKinds := [.data, .data, .data], laidTests := true, laidLooks := .later }
def FnExactNodePutCardSaid : Prop := Claim7.holds Tryd.pinned (.plain (OpenSpec.ofChange fnExactNodePutSpec)) fnExactNodePutCard

/-- THE TIED CARD OF 'laws.FnExactNodeGet'. -/
def fnExactNodeGetCard : Claim7 := { stood := { row := fnExactNodeGetRow, standIns := [], harness := (true, "b1e9560ec6aafe62ad48b33291760fe81960f62d18bbaf499a61eb341c5cc1d3"), looks := true }, kinds := [], alts := [], laidByText := true, laidKinds := [.data, .data, .data, .sentinel, .sentinel], laidTests := true, laidLooks := .later }
def FnExactNodeGetCardSaid : Prop := Claim7.holds Tryd.pinned (.plain (OpenSpec.ofChange fnExactNodeGetSpec)) fnExactNodeGetCard

/-- THE SECOND FORM's CARD OF 'laws.FnExactTypeGet'. -/
def fnExactTypeGetUptoCard : Claim7 := { stood := { row := fnExactTypeGetUptoRow, standIns := [], harness := (true, "b1e9560ec6aafe62ad48b33291760fe81960f62d18bbaf499a61eb341c5cc1d3"), looks := true }, kinds := [], alts := [], laidByText := true, laidKinds := [.data, .data, .data, .sentinel, .sentinel, .data], laidTests := true, laidLooks := .later }
def FnExactTypeGetUptoCardSaid : Prop := Claim7.holds Tryd.pinned (.plain (OpenSpec.upto fnExactTypeGetSpec)) fnExactTypeGetUptoCard

/-- THE SECOND FORM's CARD OF 'laws.FnType'. -/
def fnTypeUptoCard : Claim7 := { stood := { row := fnTypeUptoRow, standIns := [], harness := (true, "b1e9560ec6aafe62ad48b33291760fe81960f62d18bbaf499a61eb341c5cc1d3"), looks := true }, kinds := [], alts := [], laidByText := true, laidKinds := [.data, .data, .data, .sentinel, .sentinel, .data], laidTests := true, laidLooks := .later }
def FnTypeUptoCardSaid : Prop := Claim7.holds Tryd.pinned (.plain (OpenSpec.upto fnTypeSpec)) fnTypeUptoCard

/-- THE SECOND FORM's CARD OF 'laws.FnExactNodePut'. -/
def fnExactNodePutUptoCard : Claim7 := { stood := { row := fnExactNodePutUptoRow, standIns := [], harness := (true, "b1e9560ec6aafe62ad48b33291760fe81960f62d18bbaf499a61eb341c5cc1d3"), looks := true }, kinds := [], alts := [], laidByText := true, laidKinds := [.data, .data, .data], laidTests := true, laidLooks := .later }
def FnExactNodePutUptoCardSaid : Prop := Claim7.holds Tryd.pinned (.plain (OpenSpec.upto fnExactNodePutSpec)) fnExactNodePutUptoCard

/-- THE SECOND FORM's CARD OF 'laws.FnExactNodeGet'. -/
def fnExactNodeGetUptoCard : Claim7 := { stood := { row := fnExactNodeGetUptoRow, standIns := [], harness := (true, "b1e9560ec6aafe62ad48b33291760fe81960f62d18bbaf499a61eb341c5cc1d3"), looks := true }, kinds := [], alts := [], laidByText := true, laidKinds := [.data, .data, .data, .sentinel, .sentinel], laidTests := true, laidLooks := .later }
def FnExactNodeGetUptoCardSaid : Prop := Claim7.holds Tryd.pinned (.plain (OpenSpec.upto fnExactNodeGetSpec)) fnExactNodeGetUptoCard
end Rows
end Go.Proofs.YtajbbnkomnfmlaaDoor
