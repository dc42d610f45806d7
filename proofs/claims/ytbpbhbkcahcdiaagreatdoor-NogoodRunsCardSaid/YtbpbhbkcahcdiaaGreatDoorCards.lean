/-
  DERIVED. GIVEN WITH THE SEED: THE CARDS: each row of YtbpbhbkcahcdiaaGreatDoorRows.lean that lists a variable, with what it lists TIED to the program's text (the seventh form; the later family's looks); each row that meets fmt, with fmt's text TOLD by the authors' own Lean function (tested against real Go, not proved from fmt's source: count such statements apart). THE CARD IS WHAT COUNTS. Prove the row's statement (the work); the ties are given (YtbpbhbkcahcdiaaGreatDoorTie.lean); close each card by the builder's one call (the guide's Derived/Test/ToyasCard.lean, 'card_holds'). Laid BY PROGRAM, IN A SANDBOX (cutbox-door.mjs). By AI agents, Wed Nov 11 2026. No macro, syntax, notation, axiom, sorry.
-/
import Derived.Test.YtbpbhbkcahcdiaaGreatDoorRows
import GoSem.ClaimSeven
namespace Go.Proofs.YtbpbhbkcahcdiaaGreatDoor
namespace Rows

/-- THE TIED CARD OF 'bandplanlaw21.NogoodHolds'. -/
def nogoodHoldsCard : Claim7 := { stood := { row := nogoodHoldsRow, standIns := [], harness := (true, "fdac1bbb930c86f13338533ca071885fda81968e44f61c2d038b85fc98c69c25"), looks := false }, kinds := [], alts := [], laidByText := true, laidKinds := [.data], laidTests := true, laidLooks := .later }
def NogoodHoldsCardSaid : Prop := Claim7.holds Tryz.pinned (.plain (OpenSpec.ofChange nogoodHoldsSpec)) nogoodHoldsCard

/-- THE TIED CARD OF 'bandplanlaw21.NogoodRuns'. -/
def nogoodRunsCard : Claim7 := { stood := { row := nogoodRunsRow, standIns := [], harness := (true, "fdac1bbb930c86f13338533ca071885fda81968e44f61c2d038b85fc98c69c25"), looks := false }, kinds := [], alts := [], laidByText := true, laidKinds := [.data], laidTests := true, laidLooks := .later }
def NogoodRunsCardSaid : Prop := Claim7.holds Tryz.pinned (.plain (OpenSpec.ofChange nogoodRunsSpec)) nogoodRunsCard

/-- THE TIED CARD OF 'bandplanlaw21.NogoodFollows'. -/
def nogoodFollowsCard : Claim7 := { stood := { row := nogoodFollowsRow, standIns := [], harness := (true, "fdac1bbb930c86f13338533ca071885fda81968e44f61c2d038b85fc98c69c25"), looks := false }, kinds := [], alts := [], laidByText := true, laidKinds := [.data], laidTests := true, laidLooks := .later }
def NogoodFollowsCardSaid : Prop := Claim7.holds Tryz.pinned (.plain (OpenSpec.ofChange nogoodFollowsSpec)) nogoodFollowsCard

/-- THE TIED CARD OF 'bandplanlaw21.NogoodGrows'. -/
def nogoodGrowsCard : Claim7 := { stood := { row := nogoodGrowsRow, standIns := [], harness := (true, "fdac1bbb930c86f13338533ca071885fda81968e44f61c2d038b85fc98c69c25"), looks := false }, kinds := [], alts := [], laidByText := true, laidKinds := [.data], laidTests := true, laidLooks := .later }
def NogoodGrowsCardSaid : Prop := Claim7.holds Tryz.pinned (.plain (OpenSpec.ofChange nogoodGrowsSpec)) nogoodGrowsCard

/-- THE TIED CARD OF 'bandplanlaw21.NogoodValid'. -/
def nogoodValidCard : Claim7 := { stood := { row := nogoodValidRow, standIns := [], harness := (true, "fdac1bbb930c86f13338533ca071885fda81968e44f61c2d038b85fc98c69c25"), looks := false }, kinds := [], alts := [], laidByText := true, laidKinds := [.data], laidTests := true, laidLooks := .later }
def NogoodValidCardSaid : Prop := Claim7.holds Tryz.pinned (.plain (OpenSpec.ofChange nogoodValidSpec)) nogoodValidCard

/-- THE TIED CARD OF 'bandplanlaw21.NogoodAdds'. -/
def nogoodAddsCard : Claim7 := { stood := { row := nogoodAddsRow, standIns := [], harness := (true, "fdac1bbb930c86f13338533ca071885fda81968e44f61c2d038b85fc98c69c25"), looks := false }, kinds := [], alts := [], laidByText := true, laidKinds := [.data], laidTests := true, laidLooks := .later }
def NogoodAddsCardSaid : Prop := Claim7.holds Tryz.pinned (.plain (OpenSpec.ofChange nogoodAddsSpec)) nogoodAddsCard

/-- THE SECOND FORM's CARD OF 'bandplanlaw21.NogoodHolds'. -/
def nogoodHoldsUptoCard : Claim7 := { stood := { row := nogoodHoldsUptoRow, standIns := [], harness := (true, "fdac1bbb930c86f13338533ca071885fda81968e44f61c2d038b85fc98c69c25"), looks := false }, kinds := [], alts := [], laidByText := true, laidKinds := [.data], laidTests := true, laidLooks := .later }
def NogoodHoldsUptoCardSaid : Prop := Claim7.holds Tryz.pinned (.plain (OpenSpec.upto nogoodHoldsSpec)) nogoodHoldsUptoCard

/-- THE SECOND FORM's CARD OF 'bandplanlaw21.NogoodRuns'. -/
def nogoodRunsUptoCard : Claim7 := { stood := { row := nogoodRunsUptoRow, standIns := [], harness := (true, "fdac1bbb930c86f13338533ca071885fda81968e44f61c2d038b85fc98c69c25"), looks := false }, kinds := [], alts := [], laidByText := true, laidKinds := [.data], laidTests := true, laidLooks := .later }
def NogoodRunsUptoCardSaid : Prop := Claim7.holds Tryz.pinned (.plain (OpenSpec.upto nogoodRunsSpec)) nogoodRunsUptoCard

/-- THE SECOND FORM's CARD OF 'bandplanlaw21.NogoodFollows'. -/
def nogoodFollowsUptoCard : Claim7 := { stood := { row := nogoodFollowsUptoRow, standIns := [], harness := (true, "fdac1bbb930c86f13338533ca071885fda81968e44f61c2d038b85fc98c69c25"), looks := false }, kinds := [], alts := [], laidByText := true, laidKinds := [.data], laidTests := true, laidLooks := .later }
def NogoodFollowsUptoCardSaid : Prop := Claim7.holds Tryz.pinned (.plain (OpenSpec.upto nogoodFollowsSpec)) nogoodFollowsUptoCard

/-- THE SECOND FORM's CARD OF 'bandplanlaw21.NogoodGrows'. -/
def nogoodGrowsUptoCard : Claim7 := { stood := { row := nogoodGrowsUptoRow, standIns := [], harness := (true, "fdac1bbb930c86f13338533ca071885fda81968e44f61c2d038b85fc98c69c25"), looks := false }, kinds := [], alts := [], laidByText := true, laidKinds := [.data], laidTests := true, laidLooks := .later }
def NogoodGrowsUptoCardSaid : Prop := Claim7.holds Tryz.pinned (.plain (OpenSpec.upto nogoodGrowsSpec)) nogoodGrowsUptoCard

/-- THE SECOND FORM's CARD OF 'bandplanlaw21.NogoodValid'. -/
def nogoodValidUptoCard : Claim7 := { stood := { row := nogoodValidUptoRow, standIns := [], harness := (true, "fdac1bbb930c86f13338533ca071885fda81968e44f61c2d038b85fc98c69c25"), looks := false }, kinds := [], alts := [], laidByText := true, laidKinds := [.data], laidTests := true, laidLooks := .later }
def NogoodValidUptoCardSaid : Prop := Claim7.holds Tryz.pinned (.plain (OpenSpec.upto nogoodValidSpec)) nogoodValidUptoCard

/-- THE SECOND FORM's CARD OF 'bandplanlaw21.NogoodAdds'. -/
def nogoodAddsUptoCard : Claim7 := { stood := { row := nogoodAddsUptoRow, standIns := [], harness := (true, "fdac1bbb930c86f13338533ca071885fda81968e44f61c2d038b85fc98c69c25"), looks := false }, kinds := [], alts := [], laidByText := true, laidKinds := [.data], laidTests := true, laidLooks := .later }
def NogoodAddsUptoCardSaid : Prop := Claim7.holds Tryz.pinned (.plain (OpenSpec.upto nogoodAddsSpec)) nogoodAddsUptoCard
end Rows
end Go.Proofs.YtbpbhbkcahcdiaaGreatDoor
