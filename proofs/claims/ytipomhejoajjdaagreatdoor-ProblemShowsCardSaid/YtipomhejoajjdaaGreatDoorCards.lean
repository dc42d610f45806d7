/-
  DERIVED. GIVEN WITH THE SEED: THE CARDS: each row of YtipomhejoajjdaaGreatDoorRows.lean that lists a variable, with what it lists TIED to the program's text (the seventh form; the later family's looks); each row that meets fmt, with fmt's text TOLD by the authors' own Lean function (tested against real Go, not proved from fmt's source: count such statements apart). THE CARD IS WHAT COUNTS. Prove the row's statement (the work); the ties are given (YtipomhejoajjdaaGreatDoorTie.lean); close each card by the builder's one call (the guide's Derived/Test/ToyasCard.lean, 'card_holds'). Laid BY PROGRAM, IN A SANDBOX (cutbox-door.mjs). By AI agents, Wed Nov 11 2026. No macro, syntax, notation, axiom, sorry.
-/
import Derived.Test.YtipomhejoajjdaaGreatDoorRows
import GoSem.ClaimSeven
namespace Go.Proofs.YtipomhejoajjdaaGreatDoor
namespace Rows

/-- THE TIED CARD OF 'bandplanlaw17.ProblemShows'. -/
def problemShowsCard : Claim7 := { stood := { row := problemShowsRow, standIns := [], harness := (true, "48dbc1e8dadee62e95dea9834756b4212e3c866c8691ac8460c7a73803e95f11"), looks := false }, kinds := [], alts := [], laidByText := true, laidKinds := [.data], laidTests := true, laidLooks := .later }
def ProblemShowsCardSaid : Prop := Claim7.holds Tryz.pinned (.plain (OpenSpec.ofChange problemShowsSpec)) problemShowsCard

/-- THE SECOND FORM's CARD OF 'bandplanlaw17.ProblemShows'. -/
def problemShowsUptoCard : Claim7 := { stood := { row := problemShowsUptoRow, standIns := [], harness := (true, "48dbc1e8dadee62e95dea9834756b4212e3c866c8691ac8460c7a73803e95f11"), looks := false }, kinds := [], alts := [], laidByText := true, laidKinds := [.data], laidTests := true, laidLooks := .later }
def ProblemShowsUptoCardSaid : Prop := Claim7.holds Tryz.pinned (.plain (OpenSpec.upto problemShowsSpec)) problemShowsUptoCard
end Rows
end Go.Proofs.YtipomhejoajjdaaGreatDoor
