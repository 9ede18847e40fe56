/-
  DERIVED. GIVEN WITH THE SEED: THE CARDS: each row of YthpgglegdhjihaaDoorRows.lean that lists a variable, with what it lists TIED to the program's text (the seventh form; the later family's looks); each row that meets fmt, with fmt's text TOLD by the authors' own Lean function (tested against real Go, not proved from fmt's source: count such statements apart). THE CARD IS WHAT COUNTS. Prove the row's statement (the work); the ties are given (YthpgglegdhjihaaDoorTie.lean); close each card by the builder's one call (the guide's Derived/Test/ToyasCard.lean, 'card_holds'). Laid BY PROGRAM, IN A SANDBOX (cutbox-door.mjs). By AI agents, Wed Nov 11 2026. No macro, syntax, notation, axiom, sorry.
-/
import Derived.Test.YthpgglegdhjihaaDoorRows
import GoSem.ClaimSeven
namespace Go.Proofs.YthpgglegdhjihaaDoor
namespace Rows

/-- THE TIED CARD OF 'laws.FnExactValueOk'. -/
def fnExactValueOkCard : Claim7 := { stood := { row := fnExactValueOkRow, standIns := [], harness := (true, "563b5e6d694f191b2630abb03d6c1c0d6a5e29ecd58e30ba89bfa7a53d7e94d0"), looks := true }, kinds := [], alts := [], laidByText := true, laidKinds := [.data, .data, .data], laidTests := true, laidLooks := .later }
def FnExactValueOkCardSaid : Prop := Claim7.holds Tryd.pinned (.plain (OpenSpec.ofChange fnExactValueOkSpec)) fnExactValueOkCard

/-- THE TIED CARD OF 'laws.FnExactValueFits'. -/
def fnExactValueFitsCard : Claim7 := { stood := { row := fnExactValueFitsRow, standIns := [], harness := (true, "563b5e6d694f191b2630abb03d6c1c0d6a5e29ecd58e30ba89bfa7a53d7e94d0"), looks := true }, kinds := [], alts := [], laidByText := true, laidKinds := [.data, .data, .data], laidTests := true, laidLooks := .later }
def FnExactValueFitsCardSaid : Prop := Claim7.holds Tryd.pinned (.plain (OpenSpec.ofChange fnExactValueFitsSpec)) fnExactValueFitsCard

/-- THE TIED CARD OF 'laws.FnExactTypeGet'. -/
def fnExactTypeGetCard : Claim7 := { stood := { row := fnExactTypeGetRow, standIns := [], harness := (true, "563b5e6d694f191b2630abb03d6c1c0d6a5e29ecd58e30ba89bfa7a53d7e94d0"), looks := true }, kinds := [], alts := [], laidByText := true, laidKinds := [.data, .data, .data, .sentinel, .sentinel, .data], laidTests := true, laidLooks := .later }
def FnExactTypeGetCardSaid : Prop := Claim7.holds Tryd.pinned (.plain (OpenSpec.ofChange fnExactTypeGetSpec)) fnExactTypeGetCard

/-- THE TIED CARD OF 'laws.FnType'. -/
def fnTypeCard : Claim7 := { stood := { row := fnTypeRow, standIns := [], harness := (true, "563b5e6d694f191b2630abb03d6c1c0d6a5e29ecd58e30ba89bfa7a53d7e94d0"), looks := true }, kinds := [], alts := [], laidByText := true, laidKinds := [.data, .data, .data, .sentinel, .sentinel, .data], laidTests := true, laidLooks := .later }
def FnTypeCardSaid : Prop := Claim7.holds Tryd.pinned (.plain (OpenSpec.ofChange fnTypeSpec)) fnTypeCard

/-- THE TIED CARD OF 'laws.FnExactRowOk'. -/
def fnExactRowOkCard : Claim7 := { stood := { row := fnExactRowOkRow, standIns := [], harness := (true, "563b5e6d694f191b2630abb03d6c1c0d6a5e29ecd58e30ba89bfa7a53d7e94d0"), looks := true }, kinds := [], alts := [], laidByText := true, laidKinds := [.data, .data, .data], laidTests := true, laidLooks := .later }
def FnExactRowOkCardSaid : Prop := Claim7.holds Tryd.pinned (.plain (OpenSpec.ofChange fnExactRowOkSpec)) fnExactRowOkCard

/-- THE SECOND FORM's CARD OF 'laws.FnExactValueOk'. -/
def fnExactValueOkUptoCard : Claim7 := { stood := { row := fnExactValueOkUptoRow, standIns := [], harness := (true, "563b5e6d694f191b2630abb03d6c1c0d6a5e29ecd58e30ba89bfa7a53d7e94d0"), looks := true }, kinds := [], alts := [], laidByText := true, laidKinds := [.data, .data, .data], laidTests := true, laidLooks := .later }
def FnExactValueOkUptoCardSaid : Prop := Claim7.holds Tryd.pinned (.plain (OpenSpec.upto fnExactValueOkSpec)) fnExactValueOkUptoCard

/-- THE SECOND FORM's CARD OF 'laws.FnExactValueFits'. -/
def fnExactValueFitsUptoCard : Claim7 := { stood := { row := fnExactValueFitsUptoRow, standIns := [], harness := (true, "563b5e6d694f191b2630abb03d6c1c0d6a5e29ecd58e30ba89bfa7a53d7e94d0"), looks := true }, kinds := [], alts := [], laidByText := true, laidKinds := [.data, .data, .data], laidTests := true, laidLooks := .later }
def FnExactValueFitsUptoCardSaid : Prop := Claim7.holds Tryd.pinned (.plain (OpenSpec.upto fnExactValueFitsSpec)) fnExactValueFitsUptoCard

/-- THE SECOND FORM's CARD OF 'laws.FnExactTypeGet'. -/
def fnExactTypeGetUptoCard : Claim7 := { stood := { row := fnExactTypeGetUptoRow, standIns := [], harness := (true, "563b5e6d694f191b2630abb03d6c1c0d6a5e29ecd58e30ba89bfa7a53d7e94d0"), looks := true }, kinds := [], alts := [], laidByText := true, laidKinds := [.data, .data, .data, .sentinel, .sentinel, .data], laidTests := true, laidLooks := .later }
def FnExactTypeGetUptoCardSaid : Prop := Claim7.holds Tryd.pinned (.plain (OpenSpec.upto fnExactTypeGetSpec)) fnExactTypeGetUptoCard

/-- THE SECOND FORM's CARD OF 'laws.FnType'. -/
def fnTypeUptoCard : Claim7 := { stood := { row := fnTypeUptoRow, standIns := [], harness := (true, "563b5e6d694f191b2630abb03d6c1c0d6a5e29ecd58e30ba89bfa7a53d7e94d0"), looks := true }, kinds := [], alts := [], laidByText := true, laidKinds := [.data, .data, .data, .sentinel, .sentinel, .data], laidTests := true, laidLooks := .later }
def FnTypeUptoCardSaid : Prop := Claim7.holds Tryd.pinned (.plain (OpenSpec.upto fnTypeSpec)) fnTypeUptoCard

/-- THE SECOND FORM's CARD OF 'laws.FnExactRowOk'. -/
def fnExactRowOkUptoCard : Claim7 := { stood := { row := fnExactRowOkUptoRow, standIns := [], harness := (true, "563b5e6d694f191b2630abb03d6c1c0d6a5e29ecd58e30ba89bfa7a53d7e94d0"), looks := true }, kinds := [], alts := [], laidByText := true, laidKinds := [.data, .data, .data], laidTests := true, laidLooks := .later }
def FnExactRowOkUptoCardSaid : Prop := Claim7.holds Tryd.pinned (.plain (OpenSpec.upto fnExactRowOkSpec)) fnExactRowOkUptoCard
end Rows
end Go.Proofs.YthpgglegdhjihaaDoor
