/-
  DERIVED. GIVEN WITH THE SEED: THE CARDS: each row of YtgoeeefoinkepaaGreatDoorRows.lean that lists a variable, with what it lists TIED to the program's text (the seventh form; the later family's looks); each row that meets fmt, with fmt's text TOLD by the authors' own Lean function (tested against real Go, not proved from fmt's source: count such statements apart). THE CARD IS WHAT COUNTS. Prove the row's statement (the work); the ties are given (YtgoeeefoinkepaaGreatDoorTie.lean); close each card by the builder's one call (the guide's Derived/Test/ToyasCard.lean, 'card_holds'). Laid BY PROGRAM, IN A SANDBOX (cutbox-door.mjs). By AI agents, Wed Nov 11 2026. No macro, syntax, notation, axiom, sorry.
-/
import Derived.Test.YtgoeeefoinkepaaGreatDoorRows
import GoSem.ClaimSeven
namespace Go.Proofs.YtgoeeefoinkepaaGreatDoor
namespace Rows

/-- THE TIED CARD OF 'bandplanlaw22.SearchBranches'. -/
def searchBranchesCard : Claim7 := { stood := { row := searchBranchesRow, standIns := [], harness := (true, "d0ae671f52882b6162b955fa91f835e47c1a57a49147e5f563738c959873a970"), looks := false }, kinds := [], alts := [], laidByText := true, laidKinds := [.data], laidTests := true, laidLooks := .later }
def SearchBranchesCardSaid : Prop := Claim7.holds Tryz.pinned (.plain (OpenSpec.ofChange searchBranchesSpec)) searchBranchesCard

/-- THE TIED CARD OF 'bandplanlaw22.SearchSolves'. -/
def searchSolvesCard : Claim7 := { stood := { row := searchSolvesRow, standIns := [], harness := (true, "d0ae671f52882b6162b955fa91f835e47c1a57a49147e5f563738c959873a970"), looks := false }, kinds := [], alts := [], laidByText := true, laidKinds := [.data], laidTests := true, laidLooks := .later }
def SearchSolvesCardSaid : Prop := Claim7.holds Tryz.pinned (.plain (OpenSpec.ofChange searchSolvesSpec)) searchSolvesCard

/-- THE TIED CARD OF 'bandplanlaw22.SearchHolds'. -/
def searchHoldsCard : Claim7 := { stood := { row := searchHoldsRow, standIns := [], harness := (true, "d0ae671f52882b6162b955fa91f835e47c1a57a49147e5f563738c959873a970"), looks := false }, kinds := [], alts := [], laidByText := true, laidKinds := [.data], laidTests := true, laidLooks := .later }
def SearchHoldsCardSaid : Prop := Claim7.holds Tryz.pinned (.plain (OpenSpec.ofChange searchHoldsSpec)) searchHoldsCard

/-- THE TIED CARD OF 'bandplanlaw22.SearchFinds'. -/
def searchFindsCard : Claim7 := { stood := { row := searchFindsRow, standIns := [], harness := (true, "d0ae671f52882b6162b955fa91f835e47c1a57a49147e5f563738c959873a970"), looks := false }, kinds := [], alts := [], laidByText := true, laidKinds := [.data], laidTests := true, laidLooks := .later }
def SearchFindsCardSaid : Prop := Claim7.holds Tryz.pinned (.plain (OpenSpec.ofChange searchFindsSpec)) searchFindsCard

/-- THE TIED CARD OF 'bandplanlaw22.SearchDecides'. -/
def searchDecidesCard : Claim7 := { stood := { row := searchDecidesRow, standIns := [], harness := (true, "d0ae671f52882b6162b955fa91f835e47c1a57a49147e5f563738c959873a970"), looks := false }, kinds := [], alts := [], laidByText := true, laidKinds := [.data], laidTests := true, laidLooks := .later }
def SearchDecidesCardSaid : Prop := Claim7.holds Tryz.pinned (.plain (OpenSpec.ofChange searchDecidesSpec)) searchDecidesCard

/-- THE SECOND FORM's CARD OF 'bandplanlaw22.SearchBranches'. -/
def searchBranchesUptoCard : Claim7 := { stood := { row := searchBranchesUptoRow, standIns := [], harness := (true, "d0ae671f52882b6162b955fa91f835e47c1a57a49147e5f563738c959873a970"), looks := false }, kinds := [], alts := [], laidByText := true, laidKinds := [.data], laidTests := true, laidLooks := .later }
def SearchBranchesUptoCardSaid : Prop := Claim7.holds Tryz.pinned (.plain (OpenSpec.upto searchBranchesSpec)) searchBranchesUptoCard

/-- THE SECOND FORM's CARD OF 'bandplanlaw22.SearchSolves'. -/
def searchSolvesUptoCard : Claim7 := { stood := { row := searchSolvesUptoRow, standIns := [], harness := (true, "d0ae671f52882b6162b955fa91f835e47c1a57a49147e5f563738c959873a970"), looks := false }, kinds := [], alts := [], laidByText := true, laidKinds := [.data], laidTests := true, laidLooks := .later }
def SearchSolvesUptoCardSaid : Prop := Claim7.holds Tryz.pinned (.plain (OpenSpec.upto searchSolvesSpec)) searchSolvesUptoCard

/-- THE SECOND FORM's CARD OF 'bandplanlaw22.SearchHolds'. -/
def searchHoldsUptoCard : Claim7 := { stood := { row := searchHoldsUptoRow, standIns := [], harness := (true, "d0ae671f52882b6162b955fa91f835e47c1a57a49147e5f563738c959873a970"), looks := false }, kinds := [], alts := [], laidByText := true, laidKinds := [.data], laidTests := true, laidLooks := .later }
def SearchHoldsUptoCardSaid : Prop := Claim7.holds Tryz.pinned (.plain (OpenSpec.upto searchHoldsSpec)) searchHoldsUptoCard

/-- THE SECOND FORM's CARD OF 'bandplanlaw22.SearchFinds'. -/
def searchFindsUptoCard : Claim7 := { stood := { row := searchFindsUptoRow, standIns := [], harness := (true, "d0ae671f52882b6162b955fa91f835e47c1a57a49147e5f563738c959873a970"), looks := false }, kinds := [], alts := [], laidByText := true, laidKinds := [.data], laidTests := true, laidLooks := .later }
def SearchFindsUptoCardSaid : Prop := Claim7.holds Tryz.pinned (.plain (OpenSpec.upto searchFindsSpec)) searchFindsUptoCard

/-- THE SECOND FORM's CARD OF 'bandplanlaw22.SearchDecides'. -/
def searchDecidesUptoCard : Claim7 := { stood := { row := searchDecidesUptoRow, standIns := [], harness := (true, "d0ae671f52882b6162b955fa91f835e47c1a57a49147e5f563738c959873a970"), looks := false }, kinds := [], alts := [], laidByText := true, laidKinds := [.data], laidTests := true, laidLooks := .later }
def SearchDecidesUptoCardSaid : Prop := Claim7.holds Tryz.pinned (.plain (OpenSpec.upto searchDecidesSpec)) searchDecidesUptoCard
end Rows
end Go.Proofs.YtgoeeefoinkepaaGreatDoor
