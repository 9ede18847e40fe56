/-
  DERIVED. GIVEN WITH THE SEED: THE CARDS: each row of YtcolgghllacloaaDoorRows.lean that lists a variable, with what it lists TIED to the program's text (the seventh form; the later family's looks); each row that meets fmt, with fmt's text TOLD by the authors' own Lean function (tested against real Go, not proved from fmt's source: count such statements apart). THE CARD IS WHAT COUNTS. Prove the row's statement (the work); the ties are given (YtcolgghllacloaaDoorTie.lean); close each card by the builder's one call (the guide's Derived/Test/ToyasCard.lean, 'card_holds'). Laid BY PROGRAM, IN A SANDBOX (cutbox-door.mjs). By AI agents, Wed Nov 11 2026. No macro, syntax, notation, axiom, sorry.
-/
import Derived.Test.YtcolgghllacloaaDoorRows
import GoSem.ClaimSeven
namespace Go.Proofs.YtcolgghllacloaaDoor
namespace Rows

/-- THE TIED CARD OF 'laws.FnExactNodePut'. -/
def fnExactNodePutCard : Claim7 := { stood := { row := fnExactNodePutRow, standIns := [], harness := (true, "cabd6bdaf4996521c424c943e3af5e3ec32b86ea02d917f2e2d511cb876725be"), looks := true }, kinds := [], alts := [], laidByText := true, laidKinds := [.data, .data, .data], laidTests := true, laidLooks := .later }
def FnExactNodePutCardSaid : Prop := Claim7.holds Tryd.pinned (.plain (OpenSpec.ofChange fnExactNodePutSpec)) fnExactNodePutCard

/-- THE TIED CARD OF 'laws.FnExactNodeGet'. -/
def fnExactNodeGetCard : Claim7 := { stood := { row := fnExactNodeGetRow, standIns := [], harness := (true, "cabd6bdaf4996521c424c943e3af5e3ec32b86ea02d917f2e2d511cb876725be"), looks := true }, kinds := [], alts := [], laidByText := true, laidKinds := [.data, .data, .data, .sentinel, .sentinel], laidTests := true, laidLooks := .later }
def FnExactNodeGetCardSaid : Prop := Claim7.holds Tryd.pinned (.plain (OpenSpec.ofChange fnExactNodeGetSpec)) fnExactNodeGetCard

/-- THE SECOND FORM's CARD OF 'laws.FnExactNodePut'. -/
def fnExactNodePutUptoCard : Claim7 := { stood := { row := fnExactNodePutUptoRow, standIns := [], harness := (true, "cabd6bdaf4996521c424c943e3af5e3ec32b86ea02d917f2e2d511cb876725be"), looks := true }, kinds := [], alts := [], laidByText := true, laidKinds := [.data, .data, .data], laidTests := true, laidLooks := .later }
def FnExactNodePutUptoCardSaid : Prop := Claim7.holds Tryd.pinned (.plain (OpenSpec.upto fnExactNodePutSpec)) fnExactNodePutUptoCard

/-- THE SECOND FORM's CARD OF 'laws.FnExactNodeGet'. -/
def fnExactNodeGetUptoCard : Claim7 := { stood := { row := fnExactNodeGetUptoRow, standIns := [], harness := (true, "cabd6bdaf4996521c424c943e3af5e3ec32b86ea02d917f2e2d511cb876725be"), looks := true }, kinds := [], alts := [], laidByText := true, laidKinds := [.data, .data, .data, .sentinel, .sentinel], laidTests := true, laidLooks := .later }
def FnExactNodeGetUptoCardSaid : Prop := Claim7.holds Tryd.pinned (.plain (OpenSpec.upto fnExactNodeGetSpec)) fnExactNodeGetUptoCard
end Rows
end Go.Proofs.YtcolgghllacloaaDoor
