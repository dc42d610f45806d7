/-
  No cell of these rows narrows 'for every input' (looked for: loops, veiled, ifaces, maps, wideKeys, modest, calm, conditions, laid).
  DERIVED. THE GIVEN ROWS OF THIS SEAT. 5 by the template 'for every input the law returns true; each argument reads behind the call as it read before'; 0 by the template 'total and deterministic' (their statements: YtphpmjnpjnmdmaaTotals.lean).
  GIVEN WITH THE SEED: the statements are not yours to turn. If you find one false, say at which input.
  Laid BY PROGRAM, IN A SANDBOX (cutbox-rows.mjs): the forced cells as the released guide's own fill.sh prints them over the translation c9d925ca7b69002d… (all of the seat's roots in one cut). By AI agents, Wed Nov 11 2026. No macro, syntax, notation, axiom, sorry.
-/
import Derived.Test.YtphpmjnpjnmdmaaChecked
import GoSem.Claim
import GoSem.ClaimJoined
import GoSem.ClaimMapViews
import Derived.JoinedTies
import Derived.KernelRfl
namespace Go.Proofs.Ytphpmjnpjnmdmaa
/- THE CELL 'sum', in the pinned program and in every row, IS THE sha256 OF THE DUMP (.gsa) THAT YtphpmjnpjnmdmaaProg.lean LOADS. Nothing in Lean hashes anything: it is a label: what it is worth is what the hold of that sum in a sandbox is worth. -/
noncomputable def Try.pinned : Pinned := { name := "ytphpmjnpjnmdmaa", sum := "c9d925ca7b69002d88e7d48e052cf9b53d6d168c4a38e2a2697542cd45025832", checked := Try.checked }
namespace Rows
def none {H : Type} : Left H := { results := [], args := [] }

/-- 'bandplanlaw46.TowerValid': WHATEVER THE INPUT: true; the input reads as it did. -/
def towerValidSpec : ChangeSpec := { name := "towerValid", fn := fun _ => fun
  | [d1, d2, d3] => { results := [.lit (.bool true)], args := [d1, d2, d3] }
  | _ => none }
def towerValidRow : OpenClaim := { program := "ytphpmjnpjnmdmaa", sum := "c9d925ca7b69002d88e7d48e052cf9b53d6d168c4a38e2a2697542cd45025832", func := "bandplan/bandplanlaw46.TowerValid", spec := "towerValid", unfollowed := true, recurses := true, plainKeys := false, apart := false }
def TowerValidSaid : Prop := towerValidRow.holds Try.pinned (OpenSpec.ofChange towerValidSpec)

/-- ITS FALSE NEIGHBOUR: 'it returns false'. Refute it at one input. -/
def towerValidWrong : ChangeSpec := { name := "towerValid", fn := fun _ => fun
  | [d1, d2, d3] => { results := [.lit (.bool false)], args := [d1, d2, d3] }
  | _ => none }
def TowerValidWrongFalsely : Prop := towerValidRow.holds Try.pinned (OpenSpec.ofChange towerValidWrong)

/-- 'bandplanlaw46.TowerFits': WHATEVER THE INPUT: true; the input reads as it did. -/
def towerFitsSpec : ChangeSpec := { name := "towerFits", fn := fun _ => fun
  | [d1, d2, d3, d4] => { results := [.lit (.bool true)], args := [d1, d2, d3, d4] }
  | _ => none }
def towerFitsRow : OpenClaim := { program := "ytphpmjnpjnmdmaa", sum := "c9d925ca7b69002d88e7d48e052cf9b53d6d168c4a38e2a2697542cd45025832", func := "bandplan/bandplanlaw46.TowerFits", spec := "towerFits", unfollowed := true, recurses := true, plainKeys := false, apart := false }
def TowerFitsSaid : Prop := towerFitsRow.holds Try.pinned (OpenSpec.ofChange towerFitsSpec)

/-- ITS FALSE NEIGHBOUR: 'it returns false'. Refute it at one input. -/
def towerFitsWrong : ChangeSpec := { name := "towerFits", fn := fun _ => fun
  | [d1, d2, d3, d4] => { results := [.lit (.bool false)], args := [d1, d2, d3, d4] }
  | _ => none }
def TowerFitsWrongFalsely : Prop := towerFitsRow.holds Try.pinned (OpenSpec.ofChange towerFitsWrong)

/-- 'bandplanlaw46.TowerWorks': WHATEVER THE INPUT: true; the input reads as it did. -/
def towerWorksSpec : ChangeSpec := { name := "towerWorks", fn := fun _ => fun
  | [d1, d2, d3, d4] => { results := [.lit (.bool true)], args := [d1, d2, d3, d4] }
  | _ => none }
def towerWorksRow : OpenClaim := { program := "ytphpmjnpjnmdmaa", sum := "c9d925ca7b69002d88e7d48e052cf9b53d6d168c4a38e2a2697542cd45025832", func := "bandplan/bandplanlaw46.TowerWorks", spec := "towerWorks", unfollowed := true, recurses := true, plainKeys := false, apart := false }
def TowerWorksSaid : Prop := towerWorksRow.holds Try.pinned (OpenSpec.ofChange towerWorksSpec)

/-- ITS FALSE NEIGHBOUR: 'it returns false'. Refute it at one input. -/
def towerWorksWrong : ChangeSpec := { name := "towerWorks", fn := fun _ => fun
  | [d1, d2, d3, d4] => { results := [.lit (.bool false)], args := [d1, d2, d3, d4] }
  | _ => none }
def TowerWorksWrongFalsely : Prop := towerWorksRow.holds Try.pinned (OpenSpec.ofChange towerWorksWrong)

/-- 'bandplanlaw46.TowerHolds': WHATEVER THE INPUT: true; the input reads as it did. -/
def towerHoldsSpec : ChangeSpec := { name := "towerHolds", fn := fun _ => fun
  | [d1, d2, d3] => { results := [.lit (.bool true)], args := [d1, d2, d3] }
  | _ => none }
def towerHoldsRow : OpenClaim := { program := "ytphpmjnpjnmdmaa", sum := "c9d925ca7b69002d88e7d48e052cf9b53d6d168c4a38e2a2697542cd45025832", func := "bandplan/bandplanlaw46.TowerHolds", spec := "towerHolds", unfollowed := true, recurses := true, plainKeys := false, apart := false }
def TowerHoldsSaid : Prop := towerHoldsRow.holds Try.pinned (OpenSpec.ofChange towerHoldsSpec)

/-- ITS FALSE NEIGHBOUR: 'it returns false'. Refute it at one input. -/
def towerHoldsWrong : ChangeSpec := { name := "towerHolds", fn := fun _ => fun
  | [d1, d2, d3] => { results := [.lit (.bool false)], args := [d1, d2, d3] }
  | _ => none }
def TowerHoldsWrongFalsely : Prop := towerHoldsRow.holds Try.pinned (OpenSpec.ofChange towerHoldsWrong)

/-- 'bandplanlaw46.TowerBusy': WHATEVER THE INPUT: true; the input reads as it did. -/
def towerBusySpec : ChangeSpec := { name := "towerBusy", fn := fun _ => fun
  | [d1, d2, d3, d4] => { results := [.lit (.bool true)], args := [d1, d2, d3, d4] }
  | _ => none }
def towerBusyRow : OpenClaim := { program := "ytphpmjnpjnmdmaa", sum := "c9d925ca7b69002d88e7d48e052cf9b53d6d168c4a38e2a2697542cd45025832", func := "bandplan/bandplanlaw46.TowerBusy", spec := "towerBusy", unfollowed := true, recurses := true, plainKeys := false, apart := false }
def TowerBusySaid : Prop := towerBusyRow.holds Try.pinned (OpenSpec.ofChange towerBusySpec)

/-- ITS FALSE NEIGHBOUR: 'it returns false'. Refute it at one input. -/
def towerBusyWrong : ChangeSpec := { name := "towerBusy", fn := fun _ => fun
  | [d1, d2, d3, d4] => { results := [.lit (.bool false)], args := [d1, d2, d3, d4] }
  | _ => none }
def TowerBusyWrongFalsely : Prop := towerBusyRow.holds Try.pinned (OpenSpec.ofChange towerBusyWrong)

/- THE SECOND FORM. 'bulk': how many values and letters a reading holds, each counted each time it is reached (what is shared counts as often as it is met; a slice's spare places count too). A statement '..UptoSaid' is the law's where the arguments, and the package variables that the reading takes, are together of bulk at most 1048576: NARROWER than '..Said'. Prove '..Said' where nothing that the law and all that it calls make is longer than what came in: it says more and counts as full. Else prove '..UptoSaid'. A law counts once. -/
mutual
def uptoBulk {H : Type} : DataW H → Nat
  | .lit (.string bytes) => bytes.length + 1
  | .lit _ => 1
  | .nil => 1
  | .ptr d => uptoBulk d + 1
  | .slice elems spare => uptoBulkAll elems + uptoBulkAll spare + 1
  | .agg parts => uptoBulkAll parts + 1
  | .iface _ d => uptoBulk d + 1
  | .map entries => uptoBulkEntries entries + 1
  | .held _ => 1
def uptoBulkAll {H : Type} : List (DataW H) → Nat
  | [] => 0
  | d :: r => uptoBulk d + uptoBulkAll r
def uptoBulkEntries {H : Type} : List (Lit × DataW H) → Nat
  | [] => 0
  | x :: r => uptoBulkEntry x + uptoBulkEntries r
def uptoBulkEntry {H : Type} : Lit × DataW H → Nat
  | (.string bytes, d) => bytes.length + uptoBulk d + 1
  | (_, d) => uptoBulk d + 1
 end
def uptoSmall : (H : Type) → List (DataW H) → Bool := fun _ ds => decide (uptoBulkAll ds ≤ 1048576)
def OpenSpec.upto (s : _root_.Go.ChangeSpec) : _root_.Go.OpenSpec := { _root_.Go.OpenSpec.ofChange s with cond := some uptoSmall }

/-- 'bandplanlaw46.TowerValid', WHERE WHAT IT READS IS OF BULK AT MOST 1048576: true; the input reads as it did. -/
def towerValidUptoRow : OpenClaim := { program := "ytphpmjnpjnmdmaa", sum := "c9d925ca7b69002d88e7d48e052cf9b53d6d168c4a38e2a2697542cd45025832", func := "bandplan/bandplanlaw46.TowerValid", spec := "towerValid", unfollowed := true, recurses := true, plainKeys := false, apart := false, narrowed := true }
def TowerValidUptoSaid : Prop := towerValidUptoRow.holds Try.pinned (OpenSpec.upto towerValidSpec)

/-- 'bandplanlaw46.TowerFits', WHERE WHAT IT READS IS OF BULK AT MOST 1048576: true; the input reads as it did. -/
def towerFitsUptoRow : OpenClaim := { program := "ytphpmjnpjnmdmaa", sum := "c9d925ca7b69002d88e7d48e052cf9b53d6d168c4a38e2a2697542cd45025832", func := "bandplan/bandplanlaw46.TowerFits", spec := "towerFits", unfollowed := true, recurses := true, plainKeys := false, apart := false, narrowed := true }
def TowerFitsUptoSaid : Prop := towerFitsUptoRow.holds Try.pinned (OpenSpec.upto towerFitsSpec)

/-- 'bandplanlaw46.TowerWorks', WHERE WHAT IT READS IS OF BULK AT MOST 1048576: true; the input reads as it did. -/
def towerWorksUptoRow : OpenClaim := { program := "ytphpmjnpjnmdmaa", sum := "c9d925ca7b69002d88e7d48e052cf9b53d6d168c4a38e2a2697542cd45025832", func := "bandplan/bandplanlaw46.TowerWorks", spec := "towerWorks", unfollowed := true, recurses := true, plainKeys := false, apart := false, narrowed := true }
def TowerWorksUptoSaid : Prop := towerWorksUptoRow.holds Try.pinned (OpenSpec.upto towerWorksSpec)

/-- 'bandplanlaw46.TowerHolds', WHERE WHAT IT READS IS OF BULK AT MOST 1048576: true; the input reads as it did. -/
def towerHoldsUptoRow : OpenClaim := { program := "ytphpmjnpjnmdmaa", sum := "c9d925ca7b69002d88e7d48e052cf9b53d6d168c4a38e2a2697542cd45025832", func := "bandplan/bandplanlaw46.TowerHolds", spec := "towerHolds", unfollowed := true, recurses := true, plainKeys := false, apart := false, narrowed := true }
def TowerHoldsUptoSaid : Prop := towerHoldsUptoRow.holds Try.pinned (OpenSpec.upto towerHoldsSpec)

/-- 'bandplanlaw46.TowerBusy', WHERE WHAT IT READS IS OF BULK AT MOST 1048576: true; the input reads as it did. -/
def towerBusyUptoRow : OpenClaim := { program := "ytphpmjnpjnmdmaa", sum := "c9d925ca7b69002d88e7d48e052cf9b53d6d168c4a38e2a2697542cd45025832", func := "bandplan/bandplanlaw46.TowerBusy", spec := "towerBusy", unfollowed := true, recurses := true, plainKeys := false, apart := false, narrowed := true }
def TowerBusyUptoSaid : Prop := towerBusyUptoRow.holds Try.pinned (OpenSpec.upto towerBusySpec)

end Rows
end Go.Proofs.Ytphpmjnpjnmdmaa
