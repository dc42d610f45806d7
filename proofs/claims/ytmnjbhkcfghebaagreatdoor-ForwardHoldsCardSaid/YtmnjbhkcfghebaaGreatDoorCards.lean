/-
  DERIVED. GIVEN WITH THE SEED: THE CARDS: each row of YtmnjbhkcfghebaaGreatDoorRows.lean that lists a variable, with what it lists TIED to the program's text (the seventh form; the later family's looks); each row that meets fmt, with fmt's text TOLD by the authors' own Lean function (tested against real Go, not proved from fmt's source: count such statements apart). THE CARD IS WHAT COUNTS. Prove the row's statement (the work); the ties are given (YtmnjbhkcfghebaaGreatDoorTie.lean); close each card by the builder's one call (the guide's Derived/Test/ToyasCard.lean, 'card_holds'). Laid BY PROGRAM, IN A SANDBOX (cutbox-door.mjs). By AI agents, Wed Nov 11 2026. No macro, syntax, notation, axiom, sorry.
-/
import Derived.Test.YtmnjbhkcfghebaaGreatDoorRows
import GoSem.ClaimSeven
namespace Go.Proofs.YtmnjbhkcfghebaaGreatDoor
namespace Rows

/-- THE TIED CARD OF 'bandplanlaw36.ForwardValid'. -/
def forwardValidCard : Claim7 := { stood := { row := forwardValidRow, standIns := [], harness := (true, "9ea1400b6b07280df37bae8079994cf2041caa851888738e30bfc79373474895"), looks := true }, kinds := [], alts := [], laidByText := true, laidKinds := [.data, .data], laidTests := true, laidLooks := .later }
def ForwardValidCardSaid : Prop := Claim7.holds Tryz.pinned (.plain (OpenSpec.ofChange forwardValidSpec)) forwardValidCard

/-- THE TIED CARD OF 'bandplanlaw36.ForwardHolds'. -/
def forwardHoldsCard : Claim7 := { stood := { row := forwardHoldsRow, standIns := [], harness := (true, "9ea1400b6b07280df37bae8079994cf2041caa851888738e30bfc79373474895"), looks := true }, kinds := [], alts := [], laidByText := true, laidKinds := [.data, .data], laidTests := true, laidLooks := .later }
def ForwardHoldsCardSaid : Prop := Claim7.holds Tryz.pinned (.plain (OpenSpec.ofChange forwardHoldsSpec)) forwardHoldsCard

/-- THE TIED CARD OF 'bandplanlaw36.ForwardNew'. -/
def forwardNewCard : Claim7 := { stood := { row := forwardNewRow, standIns := [], harness := (true, "9ea1400b6b07280df37bae8079994cf2041caa851888738e30bfc79373474895"), looks := true }, kinds := [], alts := [], laidByText := true, laidKinds := [.data, .data], laidTests := true, laidLooks := .later }
def ForwardNewCardSaid : Prop := Claim7.holds Tryz.pinned (.plain (OpenSpec.ofChange forwardNewSpec)) forwardNewCard

/-- THE TIED CARD OF 'bandplanlaw36.ForwardRound'. -/
def forwardRoundCard : Claim7 := { stood := { row := forwardRoundRow, standIns := [], harness := (true, "9ea1400b6b07280df37bae8079994cf2041caa851888738e30bfc79373474895"), looks := true }, kinds := [], alts := [], laidByText := true, laidKinds := [.data, .data], laidTests := true, laidLooks := .later }
def ForwardRoundCardSaid : Prop := Claim7.holds Tryz.pinned (.plain (OpenSpec.ofChange forwardRoundSpec)) forwardRoundCard

/-- THE TIED CARD OF 'bandplanlaw36.ForwardCopy'. -/
def forwardCopyCard : Claim7 := { stood := { row := forwardCopyRow, standIns := [], harness := (true, "9ea1400b6b07280df37bae8079994cf2041caa851888738e30bfc79373474895"), looks := true }, kinds := [], alts := [], laidByText := true, laidKinds := [.data, .data], laidTests := true, laidLooks := .later }
def ForwardCopyCardSaid : Prop := Claim7.holds Tryz.pinned (.plain (OpenSpec.ofChange forwardCopySpec)) forwardCopyCard

/-- THE TIED CARD OF 'bandplanlaw37.ClosingOf'. -/
def closingOfCard : Claim7 := { stood := { row := closingOfRow, standIns := [], harness := (true, "9ea1400b6b07280df37bae8079994cf2041caa851888738e30bfc79373474895"), looks := true }, kinds := [], alts := [], laidByText := true, laidKinds := [.data, .data], laidTests := true, laidLooks := .later }
def ClosingOfCardSaid : Prop := Claim7.holds Tryz.pinned (.plain (OpenSpec.ofChange closingOfSpec)) closingOfCard

/-- THE TIED CARD OF 'bandplanlaw36.ForwardEncode'. -/
def forwardEncodeCard : Claim7 := { stood := { row := forwardEncodeRow, standIns := [], harness := (true, "9ea1400b6b07280df37bae8079994cf2041caa851888738e30bfc79373474895"), looks := true }, kinds := [], alts := [], laidByText := true, laidKinds := [.data, .data], laidTests := true, laidLooks := .later }
def ForwardEncodeCardSaid : Prop := Claim7.holds Tryz.pinned (.plain (OpenSpec.ofChange forwardEncodeSpec)) forwardEncodeCard

/-- THE TIED CARD OF 'bandplanlaw36.ForwardDecode'. -/
def forwardDecodeCard : Claim7 := { stood := { row := forwardDecodeRow, standIns := [], harness := (true, "9ea1400b6b07280df37bae8079994cf2041caa851888738e30bfc79373474895"), looks := true }, kinds := [], alts := [], laidByText := true, laidKinds := [.data, .data], laidTests := true, laidLooks := .later }
def ForwardDecodeCardSaid : Prop := Claim7.holds Tryz.pinned (.plain (OpenSpec.ofChange forwardDecodeSpec)) forwardDecodeCard

/-- THE SECOND FORM's CARD OF 'bandplanlaw36.ForwardValid'. -/
def forwardValidUptoCard : Claim7 := { stood := { row := forwardValidUptoRow, standIns := [], harness := (true, "9ea1400b6b07280df37bae8079994cf2041caa851888738e30bfc79373474895"), looks := true }, kinds := [], alts := [], laidByText := true, laidKinds := [.data, .data], laidTests := true, laidLooks := .later }
def ForwardValidUptoCardSaid : Prop := Claim7.holds Tryz.pinned (.plain (OpenSpec.upto forwardValidSpec)) forwardValidUptoCard

/-- THE SECOND FORM's CARD OF 'bandplanlaw36.ForwardHolds'. -/
def forwardHoldsUptoCard : Claim7 := { stood := { row := forwardHoldsUptoRow, standIns := [], harness := (true, "9ea1400b6b07280df37bae8079994cf2041caa851888738e30bfc79373474895"), looks := true }, kinds := [], alts := [], laidByText := true, laidKinds := [.data, .data], laidTests := true, laidLooks := .later }
def ForwardHoldsUptoCardSaid : Prop := Claim7.holds Tryz.pinned (.plain (OpenSpec.upto forwardHoldsSpec)) forwardHoldsUptoCard

/-- THE SECOND FORM's CARD OF 'bandplanlaw36.ForwardNew'. -/
def forwardNewUptoCard : Claim7 := { stood := { row := forwardNewUptoRow, standIns := [], harness := (true, "9ea1400b6b07280df37bae8079994cf2041caa851888738e30bfc79373474895"), looks := true }, kinds := [], alts := [], laidByText := true, laidKinds := [.data, .data], laidTests := true, laidLooks := .later }
def ForwardNewUptoCardSaid : Prop := Claim7.holds Tryz.pinned (.plain (OpenSpec.upto forwardNewSpec)) forwardNewUptoCard

/-- THE SECOND FORM's CARD OF 'bandplanlaw36.ForwardRound'. -/
def forwardRoundUptoCard : Claim7 := { stood := { row := forwardRoundUptoRow, standIns := [], harness := (true, "9ea1400b6b07280df37bae8079994cf2041caa851888738e30bfc79373474895"), looks := true }, kinds := [], alts := [], laidByText := true, laidKinds := [.data, .data], laidTests := true, laidLooks := .later }
def ForwardRoundUptoCardSaid : Prop := Claim7.holds Tryz.pinned (.plain (OpenSpec.upto forwardRoundSpec)) forwardRoundUptoCard

/-- THE SECOND FORM's CARD OF 'bandplanlaw36.ForwardCopy'. -/
def forwardCopyUptoCard : Claim7 := { stood := { row := forwardCopyUptoRow, standIns := [], harness := (true, "9ea1400b6b07280df37bae8079994cf2041caa851888738e30bfc79373474895"), looks := true }, kinds := [], alts := [], laidByText := true, laidKinds := [.data, .data], laidTests := true, laidLooks := .later }
def ForwardCopyUptoCardSaid : Prop := Claim7.holds Tryz.pinned (.plain (OpenSpec.upto forwardCopySpec)) forwardCopyUptoCard

/-- THE SECOND FORM's CARD OF 'bandplanlaw37.ClosingOf'. -/
def closingOfUptoCard : Claim7 := { stood := { row := closingOfUptoRow, standIns := [], harness := (true, "9ea1400b6b07280df37bae8079994cf2041caa851888738e30bfc79373474895"), looks := true }, kinds := [], alts := [], laidByText := true, laidKinds := [.data, .data], laidTests := true, laidLooks := .later }
def ClosingOfUptoCardSaid : Prop := Claim7.holds Tryz.pinned (.plain (OpenSpec.upto closingOfSpec)) closingOfUptoCard

/-- THE SECOND FORM's CARD OF 'bandplanlaw36.ForwardEncode'. -/
def forwardEncodeUptoCard : Claim7 := { stood := { row := forwardEncodeUptoRow, standIns := [], harness := (true, "9ea1400b6b07280df37bae8079994cf2041caa851888738e30bfc79373474895"), looks := true }, kinds := [], alts := [], laidByText := true, laidKinds := [.data, .data], laidTests := true, laidLooks := .later }
def ForwardEncodeUptoCardSaid : Prop := Claim7.holds Tryz.pinned (.plain (OpenSpec.upto forwardEncodeSpec)) forwardEncodeUptoCard

/-- THE SECOND FORM's CARD OF 'bandplanlaw36.ForwardDecode'. -/
def forwardDecodeUptoCard : Claim7 := { stood := { row := forwardDecodeUptoRow, standIns := [], harness := (true, "9ea1400b6b07280df37bae8079994cf2041caa851888738e30bfc79373474895"), looks := true }, kinds := [], alts := [], laidByText := true, laidKinds := [.data, .data], laidTests := true, laidLooks := .later }
def ForwardDecodeUptoCardSaid : Prop := Claim7.holds Tryz.pinned (.plain (OpenSpec.upto forwardDecodeSpec)) forwardDecodeUptoCard
end Rows
end Go.Proofs.YtmnjbhkcfghebaaGreatDoor
