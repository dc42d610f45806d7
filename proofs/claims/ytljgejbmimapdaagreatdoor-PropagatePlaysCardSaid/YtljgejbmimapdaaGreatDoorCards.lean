/-
  DERIVED. GIVEN WITH THE SEED: THE CARDS: each row of YtljgejbmimapdaaGreatDoorRows.lean that lists a variable, with what it lists TIED to the program's text (the seventh form; the later family's looks); each row that meets fmt, with fmt's text TOLD by the authors' own Lean function (tested against real Go, not proved from fmt's source: count such statements apart). THE CARD IS WHAT COUNTS. Prove the row's statement (the work); the ties are given (YtljgejbmimapdaaGreatDoorTie.lean); close each card by the builder's one call (the guide's Derived/Test/ToyasCard.lean, 'card_holds'). Laid BY PROGRAM, IN A SANDBOX (cutbox-door.mjs). By AI agents, Wed Nov 11 2026. No macro, syntax, notation, axiom, sorry.
-/
import Derived.Test.YtljgejbmimapdaaGreatDoorRows
import GoSem.ClaimSeven
namespace Go.Proofs.YtljgejbmimapdaaGreatDoor
namespace Rows

/-- THE TIED CARD OF 'bandplanlaw18.PropagatePlays'. -/
def propagatePlaysCard : Claim7 := { stood := { row := propagatePlaysRow, standIns := [], harness := (true, "ed25325b022fce59473472119dcb78c713d26e592f86d6d11b12a1567c3d16d6"), looks := false }, kinds := [], alts := [], laidByText := true, laidKinds := [.data], laidTests := true, laidLooks := .later }
def PropagatePlaysCardSaid : Prop := Claim7.holds Tryz.pinned (.plain (OpenSpec.ofChange propagatePlaysSpec)) propagatePlaysCard

/-- THE SECOND FORM's CARD OF 'bandplanlaw18.PropagatePlays'. -/
def propagatePlaysUptoCard : Claim7 := { stood := { row := propagatePlaysUptoRow, standIns := [], harness := (true, "ed25325b022fce59473472119dcb78c713d26e592f86d6d11b12a1567c3d16d6"), looks := false }, kinds := [], alts := [], laidByText := true, laidKinds := [.data], laidTests := true, laidLooks := .later }
def PropagatePlaysUptoCardSaid : Prop := Claim7.holds Tryz.pinned (.plain (OpenSpec.upto propagatePlaysSpec)) propagatePlaysUptoCard
end Rows
end Go.Proofs.YtljgejbmimapdaaGreatDoor
