/-
  No cell of these rows narrows 'for every input' (looked for: loops, veiled, ifaces, maps, wideKeys, modest, calm, conditions, laid).
  DERIVED. THE GIVEN ROWS OF THIS SEAT. 4 by the template 'for every input the law returns true; each argument reads behind the call as it read before'; 0 by the template 'total and deterministic' (their statements: YtnhdlloidbomdaaGreatTotals.lean).
  GIVEN WITH THE SEED: the statements are not yours to turn. If you find one false, say at which input.
  Laid BY PROGRAM, IN A SANDBOX (cutbox-rows.mjs): the forced cells as the released guide's own fill.sh prints them over the translation 5312f93607329115… (all of the seat's roots in one cut). By AI agents, Wed Nov 11 2026. No macro, syntax, notation, axiom, sorry.
-/
import Derived.Test.YtnhdlloidbomdaaGreatChecked
import GoSem.Claim
import GoSem.ClaimJoined
import GoSem.ClaimMapViews
import Derived.JoinedTies
import Derived.KernelRfl
namespace Go.Proofs.YtnhdlloidbomdaaGreat
/- THE CELL 'sum', in the pinned program and in every row, IS THE sha256 OF THE DUMP (.gsa) THAT YtnhdlloidbomdaaGreatProg.lean LOADS. Nothing in Lean hashes anything: it is a label: what it is worth is what the hold of that sum in a sandbox is worth. -/
noncomputable def Tryz.pinned : Pinned := { name := "ytnhdlloidbomdaagreat", sum := "5312f9360732911564c8ed266c723bfc47c70a8ca8a2b98fd076a982636a168c", checked := Tryz.checked }
namespace Rows
def none {H : Type} : Left H := { results := [], args := [] }

/-- 'bandplanlaw20.LocalCosts': WHATEVER THE INPUT: true; the input reads as it did. -/
def localCostsSpec : ChangeSpec := { name := "localCosts", fn := fun _ => fun
  | [d1, d2] => { results := [.lit (.bool true)], args := [d1, d2] }
  | _ => none }
def localCostsRow : OpenClaim := { program := "ytnhdlloidbomdaagreat", sum := "5312f9360732911564c8ed266c723bfc47c70a8ca8a2b98fd076a982636a168c", func := "bandplan/bandplanlaw20.LocalCosts", spec := "localCosts", unfollowed := true, recurses := true, apart := false }
def LocalCostsSaid : Prop := localCostsRow.holds Tryz.pinned (OpenSpec.ofChange localCostsSpec)

/-- ITS FALSE NEIGHBOUR: 'it returns false'. Refute it at one input. -/
def localCostsWrong : ChangeSpec := { name := "localCosts", fn := fun _ => fun
  | [d1, d2] => { results := [.lit (.bool false)], args := [d1, d2] }
  | _ => none }
def LocalCostsWrongFalsely : Prop := localCostsRow.holds Tryz.pinned (OpenSpec.ofChange localCostsWrong)

/-- 'bandplanlaw20.LocalStarts': WHATEVER THE INPUT: true; the input reads as it did. -/
def localStartsSpec : ChangeSpec := { name := "localStarts", fn := fun _ => fun
  | [d1, d2] => { results := [.lit (.bool true)], args := [d1, d2] }
  | _ => none }
def localStartsRow : OpenClaim := { program := "ytnhdlloidbomdaagreat", sum := "5312f9360732911564c8ed266c723bfc47c70a8ca8a2b98fd076a982636a168c", func := "bandplan/bandplanlaw20.LocalStarts", spec := "localStarts", unfollowed := true, recurses := true, apart := false }
def LocalStartsSaid : Prop := localStartsRow.holds Tryz.pinned (OpenSpec.ofChange localStartsSpec)

/-- ITS FALSE NEIGHBOUR: 'it returns false'. Refute it at one input. -/
def localStartsWrong : ChangeSpec := { name := "localStarts", fn := fun _ => fun
  | [d1, d2] => { results := [.lit (.bool false)], args := [d1, d2] }
  | _ => none }
def LocalStartsWrongFalsely : Prop := localStartsRow.holds Tryz.pinned (OpenSpec.ofChange localStartsWrong)

/-- 'bandplanlaw20.LocalSolves': WHATEVER THE INPUT: true; the input reads as it did. -/
def localSolvesSpec : ChangeSpec := { name := "localSolves", fn := fun _ => fun
  | [d1, d2, d3, d4] => { results := [.lit (.bool true)], args := [d1, d2, d3, d4] }
  | _ => none }
def localSolvesRow : OpenClaim := { program := "ytnhdlloidbomdaagreat", sum := "5312f9360732911564c8ed266c723bfc47c70a8ca8a2b98fd076a982636a168c", func := "bandplan/bandplanlaw20.LocalSolves", spec := "localSolves", unfollowed := true, recurses := true, apart := false }
def LocalSolvesSaid : Prop := localSolvesRow.holds Tryz.pinned (OpenSpec.ofChange localSolvesSpec)

/-- ITS FALSE NEIGHBOUR: 'it returns false'. Refute it at one input. -/
def localSolvesWrong : ChangeSpec := { name := "localSolves", fn := fun _ => fun
  | [d1, d2, d3, d4] => { results := [.lit (.bool false)], args := [d1, d2, d3, d4] }
  | _ => none }
def LocalSolvesWrongFalsely : Prop := localSolvesRow.holds Tryz.pinned (OpenSpec.ofChange localSolvesWrong)

/-- 'bandplanlaw20.LocalHolds': WHATEVER THE INPUT: true; the input reads as it did. -/
def localHoldsSpec : ChangeSpec := { name := "localHolds", fn := fun _ => fun
  | [d1, d2, d3, d4, d5] => { results := [.lit (.bool true)], args := [d1, d2, d3, d4, d5] }
  | _ => none }
def localHoldsRow : OpenClaim := { program := "ytnhdlloidbomdaagreat", sum := "5312f9360732911564c8ed266c723bfc47c70a8ca8a2b98fd076a982636a168c", func := "bandplan/bandplanlaw20.LocalHolds", spec := "localHolds", unfollowed := true, recurses := true, apart := false }
def LocalHoldsSaid : Prop := localHoldsRow.holds Tryz.pinned (OpenSpec.ofChange localHoldsSpec)

/-- ITS FALSE NEIGHBOUR: 'it returns false'. Refute it at one input. -/
def localHoldsWrong : ChangeSpec := { name := "localHolds", fn := fun _ => fun
  | [d1, d2, d3, d4, d5] => { results := [.lit (.bool false)], args := [d1, d2, d3, d4, d5] }
  | _ => none }
def LocalHoldsWrongFalsely : Prop := localHoldsRow.holds Tryz.pinned (OpenSpec.ofChange localHoldsWrong)

/- THE SECOND FORM. 'bulk': how many values and letters a reading holds, each counted each time it is reached (what is shared counts as often as it is met; a slice's spare places count too). A statement '..UptoSaid' is the law's where the arguments, and the package variables that the reading takes, are together of bulk at most 1048576: NARROWER than '..Said'. Prove '..Said' where nothing that the law and all that it calls make is longer than what came in: it says more and counts as full. Else prove '..UptoSaid'. A law counts once. -/
mutual
def uptoBulk {H : Type} : DataW H → Nat
  | .lit (.string bytes) => bytes.length + 1
  | .lit _ => 1
  | .nil => 1
  | .ptr d => uptoBulk d + 1
  | .slice elems spare => uptoBulkAll elems + uptoBulkAll spare + 1
  | .agg parts => uptoBulkAll parts + 1
  | .iface _ d => uptoBulk d + 1
  | .map entries => uptoBulkEntries entries + 1
  | .held _ => 1
def uptoBulkAll {H : Type} : List (DataW H) → Nat
  | [] => 0
  | d :: r => uptoBulk d + uptoBulkAll r
def uptoBulkEntries {H : Type} : List (Lit × DataW H) → Nat
  | [] => 0
  | x :: r => uptoBulkEntry x + uptoBulkEntries r
def uptoBulkEntry {H : Type} : Lit × DataW H → Nat
  | (.string bytes, d) => bytes.length + uptoBulk d + 1
  | (_, d) => uptoBulk d + 1
 end
def uptoSmall : (H : Type) → List (DataW H) → Bool := fun _ ds => decide (uptoBulkAll ds ≤ 1048576)
def OpenSpec.upto (s : _root_.Go.ChangeSpec) : _root_.Go.OpenSpec := { _root_.Go.OpenSpec.ofChange s with cond := some uptoSmall }

/-- 'bandplanlaw20.LocalCosts', WHERE WHAT IT READS IS OF BULK AT MOST 1048576: true; the input reads as it did. -/
def localCostsUptoRow : OpenClaim := { program := "ytnhdlloidbomdaagreat", sum := "5312f9360732911564c8ed266c723bfc47c70a8ca8a2b98fd076a982636a168c", func := "bandplan/bandplanlaw20.LocalCosts", spec := "localCosts", unfollowed := true, recurses := true, apart := false, narrowed := true }
def LocalCostsUptoSaid : Prop := localCostsUptoRow.holds Tryz.pinned (OpenSpec.upto localCostsSpec)

/-- 'bandplanlaw20.LocalStarts', WHERE WHAT IT READS IS OF BULK AT MOST 1048576: true; the input reads as it did. -/
def localStartsUptoRow : OpenClaim := { program := "ytnhdlloidbomdaagreat", sum := "5312f9360732911564c8ed266c723bfc47c70a8ca8a2b98fd076a982636a168c", func := "bandplan/bandplanlaw20.LocalStarts", spec := "localStarts", unfollowed := true, recurses := true, apart := false, narrowed := true }
def LocalStartsUptoSaid : Prop := localStartsUptoRow.holds Tryz.pinned (OpenSpec.upto localStartsSpec)

/-- 'bandplanlaw20.LocalSolves', WHERE WHAT IT READS IS OF BULK AT MOST 1048576: true; the input reads as it did. -/
def localSolvesUptoRow : OpenClaim := { program := "ytnhdlloidbomdaagreat", sum := "5312f9360732911564c8ed266c723bfc47c70a8ca8a2b98fd076a982636a168c", func := "bandplan/bandplanlaw20.LocalSolves", spec := "localSolves", unfollowed := true, recurses := true, apart := false, narrowed := true }
def LocalSolvesUptoSaid : Prop := localSolvesUptoRow.holds Tryz.pinned (OpenSpec.upto localSolvesSpec)

/-- 'bandplanlaw20.LocalHolds', WHERE WHAT IT READS IS OF BULK AT MOST 1048576: true; the input reads as it did. -/
def localHoldsUptoRow : OpenClaim := { program := "ytnhdlloidbomdaagreat", sum := "5312f9360732911564c8ed266c723bfc47c70a8ca8a2b98fd076a982636a168c", func := "bandplan/bandplanlaw20.LocalHolds", spec := "localHolds", unfollowed := true, recurses := true, apart := false, narrowed := true }
def LocalHoldsUptoSaid : Prop := localHoldsUptoRow.holds Tryz.pinned (OpenSpec.upto localHoldsSpec)

end Rows
end Go.Proofs.YtnhdlloidbomdaaGreat
