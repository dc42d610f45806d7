/-
  DERIVED. GIVEN WITH THE SEED: THE CARDS: each row of YtogbggmckmnlfaaGreatDoorRows.lean that lists a variable, with what it lists TIED to the program's text (the seventh form; the later family's looks); each row that meets fmt, with fmt's text TOLD by the authors' own Lean function (tested against real Go, not proved from fmt's source: count such statements apart). THE CARD IS WHAT COUNTS. Prove the row's statement (the work); the ties are given (YtogbggmckmnlfaaGreatDoorTie.lean); close each card by the builder's one call (the guide's Derived/Test/ToyasCard.lean, 'card_holds'). Laid BY PROGRAM, IN A SANDBOX (cutbox-door.mjs). By AI agents, Wed Nov 11 2026. No macro, syntax, notation, axiom, sorry.
-/
import Derived.Test.YtogbggmckmnlfaaGreatDoorRows
import GoSem.ClaimSeven
namespace Go.Proofs.YtogbggmckmnlfaaGreatDoor
namespace Rows

/-- THE TIED CARD OF 'bandplanlaw23.ProofChecks'. -/
def proofChecksCard : Claim7 := { stood := { row := proofChecksRow, standIns := [], harness := (true, "538064b680369ea1a05156569dcb0c53856d97a453501e2f1eb2fef504c3752d"), looks := true }, kinds := [], alts := [], laidByText := true, laidKinds := [.data], laidTests := true, laidLooks := .later }
def ProofChecksCardSaid : Prop := Claim7.holds Tryz.pinned (.plain (OpenSpec.ofChange proofChecksSpec)) proofChecksCard

/-- THE TIED CARD OF 'bandplanlaw23.ProofTrims'. -/
def proofTrimsCard : Claim7 := { stood := { row := proofTrimsRow, standIns := [], harness := (true, "538064b680369ea1a05156569dcb0c53856d97a453501e2f1eb2fef504c3752d"), looks := true }, kinds := [], alts := [], laidByText := true, laidKinds := [.data], laidTests := true, laidLooks := .later }
def ProofTrimsCardSaid : Prop := Claim7.holds Tryz.pinned (.plain (OpenSpec.ofChange proofTrimsSpec)) proofTrimsCard

/-- THE TIED CARD OF 'bandplanlaw23.ProofHolds'. -/
def proofHoldsCard : Claim7 := { stood := { row := proofHoldsRow, standIns := [], harness := (true, "538064b680369ea1a05156569dcb0c53856d97a453501e2f1eb2fef504c3752d"), looks := true }, kinds := [], alts := [], laidByText := true, laidKinds := [.data], laidTests := true, laidLooks := .later }
def ProofHoldsCardSaid : Prop := Claim7.holds Tryz.pinned (.plain (OpenSpec.ofChange proofHoldsSpec)) proofHoldsCard

/-- THE TIED CARD OF 'bandplanlaw23.ProofDepends'. -/
def proofDependsCard : Claim7 := { stood := { row := proofDependsRow, standIns := [], harness := (true, "538064b680369ea1a05156569dcb0c53856d97a453501e2f1eb2fef504c3752d"), looks := true }, kinds := [], alts := [], laidByText := true, laidKinds := [.data], laidTests := true, laidLooks := .later }
def ProofDependsCardSaid : Prop := Claim7.holds Tryz.pinned (.plain (OpenSpec.ofChange proofDependsSpec)) proofDependsCard

/-- THE TIED CARD OF 'bandplanlaw23.ProofEncodes'. -/
def proofEncodesCard : Claim7 := { stood := { row := proofEncodesRow, standIns := [], harness := (true, "538064b680369ea1a05156569dcb0c53856d97a453501e2f1eb2fef504c3752d"), looks := true }, kinds := [], alts := [], laidByText := true, laidKinds := [.data], laidTests := true, laidLooks := .later }
def ProofEncodesCardSaid : Prop := Claim7.holds Tryz.pinned (.plain (OpenSpec.ofChange proofEncodesSpec)) proofEncodesCard

/-- THE TIED CARD OF 'bandplanlaw23.ProofLimits'. -/
def proofLimitsCard : Claim7 := { stood := { row := proofLimitsRow, standIns := [], harness := (true, "538064b680369ea1a05156569dcb0c53856d97a453501e2f1eb2fef504c3752d"), looks := true }, kinds := [], alts := [], laidByText := true, laidKinds := [.data], laidTests := true, laidLooks := .later }
def ProofLimitsCardSaid : Prop := Claim7.holds Tryz.pinned (.plain (OpenSpec.ofChange proofLimitsSpec)) proofLimitsCard

/-- THE SECOND FORM's CARD OF 'bandplanlaw23.ProofChecks'. -/
def proofChecksUptoCard : Claim7 := { stood := { row := proofChecksUptoRow, standIns := [], harness := (true, "538064b680369ea1a05156569dcb0c53856d97a453501e2f1eb2fef504c3752d"), looks := true }, kinds := [], alts := [], laidByText := true, laidKinds := [.data], laidTests := true, laidLooks := .later }
def ProofChecksUptoCardSaid : Prop := Claim7.holds Tryz.pinned (.plain (OpenSpec.upto proofChecksSpec)) proofChecksUptoCard

/-- THE SECOND FORM's CARD OF 'bandplanlaw23.ProofTrims'. -/
def proofTrimsUptoCard : Claim7 := { stood := { row := proofTrimsUptoRow, standIns := [], harness := (true, "538064b680369ea1a05156569dcb0c53856d97a453501e2f1eb2fef504c3752d"), looks := true }, kinds := [], alts := [], laidByText := true, laidKinds := [.data], laidTests := true, laidLooks := .later }
def ProofTrimsUptoCardSaid : Prop := Claim7.holds Tryz.pinned (.plain (OpenSpec.upto proofTrimsSpec)) proofTrimsUptoCard

/-- THE SECOND FORM's CARD OF 'bandplanlaw23.ProofHolds'. -/
def proofHoldsUptoCard : Claim7 := { stood := { row := proofHoldsUptoRow, standIns := [], harness := (true, "538064b680369ea1a05156569dcb0c53856d97a453501e2f1eb2fef504c3752d"), looks := true }, kinds := [], alts := [], laidByText := true, laidKinds := [.data], laidTests := true, laidLooks := .later }
def ProofHoldsUptoCardSaid : Prop := Claim7.holds Tryz.pinned (.plain (OpenSpec.upto proofHoldsSpec)) proofHoldsUptoCard

/-- THE SECOND FORM's CARD OF 'bandplanlaw23.ProofDepends'. -/
def proofDependsUptoCard : Claim7 := { stood := { row := proofDependsUptoRow, standIns := [], harness := (true, "538064b680369ea1a05156569dcb0c53856d97a453501e2f1eb2fef504c3752d"), looks := true }, kinds := [], alts := [], laidByText := true, laidKinds := [.data], laidTests := true, laidLooks := .later }
def ProofDependsUptoCardSaid : Prop := Claim7.holds Tryz.pinned (.plain (OpenSpec.upto proofDependsSpec)) proofDependsUptoCard

/-- THE SECOND FORM's CARD OF 'bandplanlaw23.ProofEncodes'. -/
def proofEncodesUptoCard : Claim7 := { stood := { row := proofEncodesUptoRow, standIns := [], harness := (true, "538064b680369ea1a05156569dcb0c53856d97a453501e2f1eb2fef504c3752d"), looks := true }, kinds := [], alts := [], laidByText := true, laidKinds := [.data], laidTests := true, laidLooks := .later }
def ProofEncodesUptoCardSaid : Prop := Claim7.holds Tryz.pinned (.plain (OpenSpec.upto proofEncodesSpec)) proofEncodesUptoCard

/-- THE SECOND FORM's CARD OF 'bandplanlaw23.ProofLimits'. -/
def proofLimitsUptoCard : Claim7 := { stood := { row := proofLimitsUptoRow, standIns := [], harness := (true, "538064b680369ea1a05156569dcb0c53856d97a453501e2f1eb2fef504c3752d"), looks := true }, kinds := [], alts := [], laidByText := true, laidKinds := [.data], laidTests := true, laidLooks := .later }
def ProofLimitsUptoCardSaid : Prop := Claim7.holds Tryz.pinned (.plain (OpenSpec.upto proofLimitsSpec)) proofLimitsUptoCard
end Rows
end Go.Proofs.YtogbggmckmnlfaaGreatDoor
