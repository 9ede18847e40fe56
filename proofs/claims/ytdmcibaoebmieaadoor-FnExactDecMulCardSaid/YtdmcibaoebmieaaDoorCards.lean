/-
  DERIVED. GIVEN WITH THE SEED: THE CARDS: each row of YtdmcibaoebmieaaDoorRows.lean that lists a variable, with what it lists TIED to the program's text (the seventh form; the later family's looks); each row that meets fmt, with fmt's text TOLD by the authors' own Lean function (tested against real Go, not proved from fmt's source: count such statements apart). THE CARD IS WHAT COUNTS. Prove the row's statement (the work); the ties are given (YtdmcibaoebmieaaDoorTie.lean); close each card by the builder's one call (the guide's Derived/Test/ToyasCard.lean, 'card_holds'). Laid BY PROGRAM, IN A SANDBOX (cutbox-door.mjs). By AI agents, Wed Nov 11 2026. No macro, syntax, notation, axiom, sorry.
-/
import Derived.Test.YtdmcibaoebmieaaDoorRows
import GoSem.ClaimSeven
namespace Go.Proofs.YtdmcibaoebmieaaDoor
namespace Rows

/-- THE TIED CARD OF 'laws.FnExactDecCmp'. -/
def fnExactDecCmpCard : Claim7 := { stood := { row := fnExactDecCmpRow, standIns := [], harness := (true, "83779ebe4ba9288bf0b1a363fd0bfe5bbb4f91d29c9dcf957be770e670791298"), looks := true }, kinds := [], alts := [], laidByText := true, laidKinds := [.data, .data, .data], laidTests := true, laidLooks := .later }
def FnExactDecCmpCardSaid : Prop := Claim7.holds Tryd.pinned (.plain (OpenSpec.ofChange fnExactDecCmpSpec)) fnExactDecCmpCard

/-- THE TIED CARD OF 'laws.FnExactDecTrim'. -/
def fnExactDecTrimCard : Claim7 := { stood := { row := fnExactDecTrimRow, standIns := [], harness := (true, "83779ebe4ba9288bf0b1a363fd0bfe5bbb4f91d29c9dcf957be770e670791298"), looks := true }, kinds := [], alts := [], laidByText := true, laidKinds := [.data, .data, .data], laidTests := true, laidLooks := .later }
def FnExactDecTrimCardSaid : Prop := Claim7.holds Tryd.pinned (.plain (OpenSpec.ofChange fnExactDecTrimSpec)) fnExactDecTrimCard

/-- THE TIED CARD OF 'laws.FnExactDecAdd'. -/
def fnExactDecAddCard : Claim7 := { stood := { row := fnExactDecAddRow, standIns := [], harness := (true, "83779ebe4ba9288bf0b1a363fd0bfe5bbb4f91d29c9dcf957be770e670791298"), looks := true }, kinds := [], alts := [], laidByText := true, laidKinds := [.data, .data, .data], laidTests := true, laidLooks := .later }
def FnExactDecAddCardSaid : Prop := Claim7.holds Tryd.pinned (.plain (OpenSpec.ofChange fnExactDecAddSpec)) fnExactDecAddCard

/-- THE TIED CARD OF 'laws.FnExactDecSub'. -/
def fnExactDecSubCard : Claim7 := { stood := { row := fnExactDecSubRow, standIns := [], harness := (true, "83779ebe4ba9288bf0b1a363fd0bfe5bbb4f91d29c9dcf957be770e670791298"), looks := true }, kinds := [], alts := [], laidByText := true, laidKinds := [.data, .data, .data], laidTests := true, laidLooks := .later }
def FnExactDecSubCardSaid : Prop := Claim7.holds Tryd.pinned (.plain (OpenSpec.ofChange fnExactDecSubSpec)) fnExactDecSubCard

/-- THE TIED CARD OF 'laws.FnExactDecMul'. -/
def fnExactDecMulCard : Claim7 := { stood := { row := fnExactDecMulRow, standIns := [], harness := (true, "83779ebe4ba9288bf0b1a363fd0bfe5bbb4f91d29c9dcf957be770e670791298"), looks := true }, kinds := [], alts := [], laidByText := true, laidKinds := [.data, .data, .data], laidTests := true, laidLooks := .later }
def FnExactDecMulCardSaid : Prop := Claim7.holds Tryd.pinned (.plain (OpenSpec.ofChange fnExactDecMulSpec)) fnExactDecMulCard

/-- THE TIED CARD OF 'laws.FnExactDecDiv'. -/
def fnExactDecDivCard : Claim7 := { stood := { row := fnExactDecDivRow, standIns := [], harness := (true, "83779ebe4ba9288bf0b1a363fd0bfe5bbb4f91d29c9dcf957be770e670791298"), looks := true }, kinds := [], alts := [], laidByText := true, laidKinds := [.data, .data, .data], laidTests := true, laidLooks := .later }
def FnExactDecDivCardSaid : Prop := Claim7.holds Tryd.pinned (.plain (OpenSpec.ofChange fnExactDecDivSpec)) fnExactDecDivCard

/-- THE TIED CARD OF 'laws.FnExactDecRound'. -/
def fnExactDecRoundCard : Claim7 := { stood := { row := fnExactDecRoundRow, standIns := [], harness := (true, "83779ebe4ba9288bf0b1a363fd0bfe5bbb4f91d29c9dcf957be770e670791298"), looks := true }, kinds := [], alts := [], laidByText := true, laidKinds := [.data, .data, .data], laidTests := true, laidLooks := .later }
def FnExactDecRoundCardSaid : Prop := Claim7.holds Tryd.pinned (.plain (OpenSpec.ofChange fnExactDecRoundSpec)) fnExactDecRoundCard

/-- THE TIED CARD OF 'laws.FnBigPut'. -/
def fnBigPutCard : Claim7 := { stood := { row := fnBigPutRow, standIns := [], harness := (true, "83779ebe4ba9288bf0b1a363fd0bfe5bbb4f91d29c9dcf957be770e670791298"), looks := true }, kinds := [], alts := [], laidByText := true, laidKinds := [.data, .data, .data, .sentinel, .sentinel], laidTests := true, laidLooks := .later }
def FnBigPutCardSaid : Prop := Claim7.holds Tryd.pinned (.plain (OpenSpec.ofChange fnBigPutSpec)) fnBigPutCard

/-- THE SECOND FORM's CARD OF 'laws.FnExactDecCmp'. -/
def fnExactDecCmpUptoCard : Claim7 := { stood := { row := fnExactDecCmpUptoRow, standIns := [], harness := (true, "83779ebe4ba9288bf0b1a363fd0bfe5bbb4f91d29c9dcf957be770e670791298"), looks := true }, kinds := [], alts := [], laidByText := true, laidKinds := [.data, .data, .data], laidTests := true, laidLooks := .later }
def FnExactDecCmpUptoCardSaid : Prop := Claim7.holds Tryd.pinned (.plain (OpenSpec.upto fnExactDecCmpSpec)) fnExactDecCmpUptoCard

/-- THE SECOND FORM's CARD OF 'laws.FnExactDecTrim'. -/
def fnExactDecTrimUptoCard : Claim7 := { stood := { row := fnExactDecTrimUptoRow, standIns := [], harness := (true, "83779ebe4ba9288bf0b1a363fd0bfe5bbb4f91d29c9dcf957be770e670791298"), looks := true }, kinds := [], alts := [], laidByText := true, laidKinds := [.data, .data, .data], laidTests := true, laidLooks := .later }
def FnExactDecTrimUptoCardSaid : Prop := Claim7.holds Tryd.pinned (.plain (OpenSpec.upto fnExactDecTrimSpec)) fnExactDecTrimUptoCard

/-- THE SECOND FORM's CARD OF 'laws.FnExactDecAdd'. -/
def fnExactDecAddUptoCard : Claim7 := { stood := { row := fnExactDecAddUptoRow, standIns := [], harness := (true, "83779ebe4ba9288bf0b1a363fd0bfe5bbb4f91d29c9dcf957be770e670791298"), looks := true }, kinds := [], alts := [], laidByText := true, laidKinds := [.data, .data, .data], laidTests := true, laidLooks := .later }
def FnExactDecAddUptoCardSaid : Prop := Claim7.holds Tryd.pinned (.plain (OpenSpec.upto fnExactDecAddSpec)) fnExactDecAddUptoCard

/-- THE SECOND FORM's CARD OF 'laws.FnExactDecSub'. -/
def fnExactDecSubUptoCard : Claim7 := { stood := { row := fnExactDecSubUptoRow, standIns := [], harness := (true, "83779ebe4ba9288bf0b1a363fd0bfe5bbb4f91d29c9dcf957be770e670791298"), looks := true }, kinds := [], alts := [], laidByText := true, laidKinds := [.data, .data, .data], laidTests := true, laidLooks := .later }
def FnExactDecSubUptoCardSaid : Prop := Claim7.holds Tryd.pinned (.plain (OpenSpec.upto fnExactDecSubSpec)) fnExactDecSubUptoCard

/-- THE SECOND FORM's CARD OF 'laws.FnExactDecMul'. -/
def fnExactDecMulUptoCard : Claim7 := { stood := { row := fnExactDecMulUptoRow, standIns := [], harness := (true, "83779ebe4ba9288bf0b1a363fd0bfe5bbb4f91d29c9dcf957be770e670791298"), looks := true }, kinds := [], alts := [], laidByText := true, laidKinds := [.data, .data, .data], laidTests := true, laidLooks := .later }
def FnExactDecMulUptoCardSaid : Prop := Claim7.holds Tryd.pinned (.plain (OpenSpec.upto fnExactDecMulSpec)) fnExactDecMulUptoCard

/-- THE SECOND FORM's CARD OF 'laws.FnExactDecDiv'. -/
def fnExactDecDivUptoCard : Claim7 := { stood := { row := fnExactDecDivUptoRow, standIns := [], harness := (true, "83779ebe4ba9288bf0b1a363fd0bfe5bbb4f91d29c9dcf957be770e670791298"), looks := true }, kinds := [], alts := [], laidByText := true, laidKinds := [.data, .data, .data], laidTests := true, laidLooks := .later }
def FnExactDecDivUptoCardSaid : Prop := Claim7.holds Tryd.pinned (.plain (OpenSpec.upto fnExactDecDivSpec)) fnExactDecDivUptoCard

/-- THE SECOND FORM's CARD OF 'laws.FnExactDecRound'. -/
def fnExactDecRoundUptoCard : Claim7 := { stood := { row := fnExactDecRoundUptoRow, standIns := [], harness := (true, "83779ebe4ba9288bf0b1a363fd0bfe5bbb4f91d29c9dcf957be770e670791298"), looks := true }, kinds := [], alts := [], laidByText := true, laidKinds := [.data, .data, .data], laidTests := true, laidLooks := .later }
def FnExactDecRoundUptoCardSaid : Prop := Claim7.holds Tryd.pinned (.plain (OpenSpec.upto fnExactDecRoundSpec)) fnExactDecRoundUptoCard

/-- THE SECOND FORM's CARD OF 'laws.FnBigPut'. -/
def fnBigPutUptoCard : Claim7 := { stood := { row := fnBigPutUptoRow, standIns := [], harness := (true, "83779ebe4ba9288bf0b1a363fd0bfe5bbb4f91d29c9dcf957be770e670791298"), looks := true }, kinds := [], alts := [], laidByText := true, laidKinds := [.data, .data, .data, .sentinel, .sentinel], laidTests := true, laidLooks := .later }
def FnBigPutUptoCardSaid : Prop := Claim7.holds Tryd.pinned (.plain (OpenSpec.upto fnBigPutSpec)) fnBigPutUptoCard
end Rows
end Go.Proofs.YtdmcibaoebmieaaDoor
