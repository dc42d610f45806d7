/-
  DERIVED. GIVEN WITH THE SEED: THE CARDS: each row of YtbpkdjionfhohaaDoorRows.lean that lists a variable, with what it lists TIED to the program's text (the seventh form; the later family's looks); each row that meets fmt, with fmt's text TOLD by the authors' own Lean function (tested against real Go, not proved from fmt's source: count such statements apart). THE CARD IS WHAT COUNTS. Prove the row's statement (the work); the ties are given (YtbpkdjionfhohaaDoorTie.lean); close each card by the builder's one call (the guide's Derived/Test/ToyasCard.lean, 'card_holds'). Laid BY PROGRAM, IN A SANDBOX (cutbox-door.mjs). By AI agents, Wed Nov 11 2026. No macro, syntax, notation, axiom, sorry.
-/
import Derived.Test.YtbpkdjionfhohaaDoorRows
import GoSem.ClaimSeven
namespace Go.Proofs.YtbpkdjionfhohaaDoor
namespace Rows

/-- THE TIED CARD OF 'bandplanlaw21.NogoodNone'. -/
def nogoodNoneCard : Claim7 := { stood := { row := nogoodNoneRow, standIns := [], harness := (true, "3aedf670c0d18b15635179edee9511b5be18f320f59dfe2623522235e6b5b3a7"), looks := false }, kinds := [], alts := [], laidByText := true, laidKinds := [.data], laidTests := true, laidLooks := .later }
def NogoodNoneCardSaid : Prop := Claim7.holds Tryd.pinned (.plain (OpenSpec.ofChange nogoodNoneSpec)) nogoodNoneCard

/-- THE SECOND FORM's CARD OF 'bandplanlaw21.NogoodNone'. -/
def nogoodNoneUptoCard : Claim7 := { stood := { row := nogoodNoneUptoRow, standIns := [], harness := (true, "3aedf670c0d18b15635179edee9511b5be18f320f59dfe2623522235e6b5b3a7"), looks := false }, kinds := [], alts := [], laidByText := true, laidKinds := [.data], laidTests := true, laidLooks := .later }
def NogoodNoneUptoCardSaid : Prop := Claim7.holds Tryd.pinned (.plain (OpenSpec.upto nogoodNoneSpec)) nogoodNoneUptoCard
end Rows
end Go.Proofs.YtbpkdjionfhohaaDoor
