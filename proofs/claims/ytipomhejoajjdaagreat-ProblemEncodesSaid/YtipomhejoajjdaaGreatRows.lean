/-
  No cell of these rows narrows 'for every input' (looked for: loops, veiled, ifaces, maps, wideKeys, modest, calm, conditions, laid).
  DERIVED. THE GIVEN ROWS OF THIS SEAT. 6 by the template 'for every input the law returns true; each argument reads behind the call as it read before'; 0 by the template 'total and deterministic' (their statements: YtipomhejoajjdaaGreatTotals.lean).
  GIVEN WITH THE SEED: the statements are not yours to turn. If you find one false, say at which input.
  Laid BY PROGRAM, IN A SANDBOX (cutbox-rows.mjs): the forced cells as the released guide's own fill.sh prints them over the translation 117d5039fa1b4b7e… (all of the seat's roots in one cut). By AI agents, Wed Nov 11 2026. No macro, syntax, notation, axiom, sorry.
-/
import Derived.Test.YtipomhejoajjdaaGreatChecked
import GoSem.Claim
import GoSem.ClaimJoined
import GoSem.ClaimMapViews
import Derived.JoinedTies
import Derived.KernelRfl
namespace Go.Proofs.YtipomhejoajjdaaGreat
/- THE CELL 'sum', in the pinned program and in every row, IS THE sha256 OF THE DUMP (.gsa) THAT YtipomhejoajjdaaGreatProg.lean LOADS. Nothing in Lean hashes anything: it is a label: what it is worth is what the hold of that sum in a sandbox is worth. -/
noncomputable def Tryz.pinned : Pinned := { name := "ytipomhejoajjdaagreat", sum := "117d5039fa1b4b7ea4f7e3d874d28801a7c6c26336e2c14af2a7cf6a89b1258b", checked := Tryz.checked }
namespace Rows
def none {H : Type} : Left H := { results := [], args := [] }

/-- 'bandplanlaw17.ProblemChecks': WHATEVER THE INPUT: true; the input reads as it did. -/
def problemChecksSpec : ChangeSpec := { name := "problemChecks", fn := fun _ => fun
  | [d1, d2] => { results := [.lit (.bool true)], args := [d1, d2] }
  | _ => none }
def problemChecksRow : OpenClaim := { program := "ytipomhejoajjdaagreat", sum := "117d5039fa1b4b7ea4f7e3d874d28801a7c6c26336e2c14af2a7cf6a89b1258b", func := "bandplan/bandplanlaw17.ProblemChecks", spec := "problemChecks", unfollowed := true, recurses := true, apart := false }
def ProblemChecksSaid : Prop := problemChecksRow.holds Tryz.pinned (OpenSpec.ofChange problemChecksSpec)

/-- ITS FALSE NEIGHBOUR: 'it returns false'. Refute it at one input. -/
def problemChecksWrong : ChangeSpec := { name := "problemChecks", fn := fun _ => fun
  | [d1, d2] => { results := [.lit (.bool false)], args := [d1, d2] }
  | _ => none }
def ProblemChecksWrongFalsely : Prop := problemChecksRow.holds Tryz.pinned (OpenSpec.ofChange problemChecksWrong)

/-- 'bandplanlaw17.ProblemRestricts': WHATEVER THE INPUT: true; the input reads as it did. -/
def problemRestrictsSpec : ChangeSpec := { name := "problemRestricts", fn := fun _ => fun
  | [d1, d2, d3] => { results := [.lit (.bool true)], args := [d1, d2, d3] }
  | _ => none }
def problemRestrictsRow : OpenClaim := { program := "ytipomhejoajjdaagreat", sum := "117d5039fa1b4b7ea4f7e3d874d28801a7c6c26336e2c14af2a7cf6a89b1258b", func := "bandplan/bandplanlaw17.ProblemRestricts", spec := "problemRestricts", unfollowed := true, recurses := true, apart := false }
def ProblemRestrictsSaid : Prop := problemRestrictsRow.holds Tryz.pinned (OpenSpec.ofChange problemRestrictsSpec)

/-- ITS FALSE NEIGHBOUR: 'it returns false'. Refute it at one input. -/
def problemRestrictsWrong : ChangeSpec := { name := "problemRestricts", fn := fun _ => fun
  | [d1, d2, d3] => { results := [.lit (.bool false)], args := [d1, d2, d3] }
  | _ => none }
def ProblemRestrictsWrongFalsely : Prop := problemRestrictsRow.holds Tryz.pinned (OpenSpec.ofChange problemRestrictsWrong)

/-- 'bandplanlaw17.ProblemValid': WHATEVER THE INPUT: true; the input reads as it did. -/
def problemValidSpec : ChangeSpec := { name := "problemValid", fn := fun _ => fun
  | [d1, d2, d3] => { results := [.lit (.bool true)], args := [d1, d2, d3] }
  | _ => none }
def problemValidRow : OpenClaim := { program := "ytipomhejoajjdaagreat", sum := "117d5039fa1b4b7ea4f7e3d874d28801a7c6c26336e2c14af2a7cf6a89b1258b", func := "bandplan/bandplanlaw17.ProblemValid", spec := "problemValid", unfollowed := true, recurses := true, apart := false }
def ProblemValidSaid : Prop := problemValidRow.holds Tryz.pinned (OpenSpec.ofChange problemValidSpec)

/-- ITS FALSE NEIGHBOUR: 'it returns false'. Refute it at one input. -/
def problemValidWrong : ChangeSpec := { name := "problemValid", fn := fun _ => fun
  | [d1, d2, d3] => { results := [.lit (.bool false)], args := [d1, d2, d3] }
  | _ => none }
def ProblemValidWrongFalsely : Prop := problemValidRow.holds Tryz.pinned (OpenSpec.ofChange problemValidWrong)

/-- 'bandplanlaw17.ProblemEncodes': WHATEVER THE INPUT: true; the input reads as it did. -/
def problemEncodesSpec : ChangeSpec := { name := "problemEncodes", fn := fun _ => fun
  | [d1, d2] => { results := [.lit (.bool true)], args := [d1, d2] }
  | _ => none }
def problemEncodesRow : OpenClaim := { program := "ytipomhejoajjdaagreat", sum := "117d5039fa1b4b7ea4f7e3d874d28801a7c6c26336e2c14af2a7cf6a89b1258b", func := "bandplan/bandplanlaw17.ProblemEncodes", spec := "problemEncodes", unfollowed := true, recurses := true, apart := false }
def ProblemEncodesSaid : Prop := problemEncodesRow.holds Tryz.pinned (OpenSpec.ofChange problemEncodesSpec)

/-- ITS FALSE NEIGHBOUR: 'it returns false'. Refute it at one input. -/
def problemEncodesWrong : ChangeSpec := { name := "problemEncodes", fn := fun _ => fun
  | [d1, d2] => { results := [.lit (.bool false)], args := [d1, d2] }
  | _ => none }
def ProblemEncodesWrongFalsely : Prop := problemEncodesRow.holds Tryz.pinned (OpenSpec.ofChange problemEncodesWrong)

/-- 'bandplanlaw17.ProblemLimits': WHATEVER THE INPUT: true; the input reads as it did. -/
def problemLimitsSpec : ChangeSpec := { name := "problemLimits", fn := fun _ => fun
  | [] => { results := [.lit (.bool true)], args := [] }
  | _ => none }
def problemLimitsRow : OpenClaim := { program := "ytipomhejoajjdaagreat", sum := "117d5039fa1b4b7ea4f7e3d874d28801a7c6c26336e2c14af2a7cf6a89b1258b", func := "bandplan/bandplanlaw17.ProblemLimits", spec := "problemLimits", unfollowed := true, recurses := true, apart := false }
def ProblemLimitsSaid : Prop := problemLimitsRow.holds Tryz.pinned (OpenSpec.ofChange problemLimitsSpec)

/-- ITS FALSE NEIGHBOUR: 'it returns false'. Refute it at one input. -/
def problemLimitsWrong : ChangeSpec := { name := "problemLimits", fn := fun _ => fun
  | [] => { results := [.lit (.bool false)], args := [] }
  | _ => none }
def ProblemLimitsWrongFalsely : Prop := problemLimitsRow.holds Tryz.pinned (OpenSpec.ofChange problemLimitsWrong)

/-- 'bandplanlaw17.ProblemHolds': WHATEVER THE INPUT: true; the input reads as it did. -/
def problemHoldsSpec : ChangeSpec := { name := "problemHolds", fn := fun _ => fun
  | [d1, d2, d3, d4, d5] => { results := [.lit (.bool true)], args := [d1, d2, d3, d4, d5] }
  | _ => none }
def problemHoldsRow : OpenClaim := { program := "ytipomhejoajjdaagreat", sum := "117d5039fa1b4b7ea4f7e3d874d28801a7c6c26336e2c14af2a7cf6a89b1258b", func := "bandplan/bandplanlaw17.ProblemHolds", spec := "problemHolds", unfollowed := true, recurses := true, apart := false }
def ProblemHoldsSaid : Prop := problemHoldsRow.holds Tryz.pinned (OpenSpec.ofChange problemHoldsSpec)

/-- ITS FALSE NEIGHBOUR: 'it returns false'. Refute it at one input. -/
def problemHoldsWrong : ChangeSpec := { name := "problemHolds", fn := fun _ => fun
  | [d1, d2, d3, d4, d5] => { results := [.lit (.bool false)], args := [d1, d2, d3, d4, d5] }
  | _ => none }
def ProblemHoldsWrongFalsely : Prop := problemHoldsRow.holds Tryz.pinned (OpenSpec.ofChange problemHoldsWrong)

/- THE SECOND FORM. 'bulk': how many values and letters a reading holds, each counted each time it is reached (what is shared counts as often as it is met; a slice's spare places count too). A statement '..UptoSaid' is the law's where the arguments, and the package variables that the reading takes, are together of bulk at most 1048576: NARROWER than '..Said'. Prove '..Said' where nothing that the law and all that it calls make is longer than what came in: it says more and counts as full. Else prove '..UptoSaid'. A law counts once. -/
mutual
def uptoBulk {H : Type} : DataW H → Nat
  | .lit (.string bytes) => bytes.length + 1
  | .lit _ => 1
  | .nil => 1
  | .ptr d => uptoBulk d + 1
  | .slice elems spare => uptoBulkAll elems + uptoBulkAll spare + 1
  | .agg parts => uptoBulkAll parts + 1
  | .iface _ d => uptoBulk d + 1
  | .map entries => uptoBulkEntries entries + 1
  | .held _ => 1
def uptoBulkAll {H : Type} : List (DataW H) → Nat
  | [] => 0
  | d :: r => uptoBulk d + uptoBulkAll r
def uptoBulkEntries {H : Type} : List (Lit × DataW H) → Nat
  | [] => 0
  | x :: r => uptoBulkEntry x + uptoBulkEntries r
def uptoBulkEntry {H : Type} : Lit × DataW H → Nat
  | (.string bytes, d) => bytes.length + uptoBulk d + 1
  | (_, d) => uptoBulk d + 1
 end
def uptoSmall : (H : Type) → List (DataW H) → Bool := fun _ ds => decide (uptoBulkAll ds ≤ 1048576)
def OpenSpec.upto (s : _root_.Go.ChangeSpec) : _root_.Go.OpenSpec := { _root_.Go.OpenSpec.ofChange s with cond := some uptoSmall }

/-- 'bandplanlaw17.ProblemChecks', WHERE WHAT IT READS IS OF BULK AT MOST 1048576: true; the input reads as it did. -/
def problemChecksUptoRow : OpenClaim := { program := "ytipomhejoajjdaagreat", sum := "117d5039fa1b4b7ea4f7e3d874d28801a7c6c26336e2c14af2a7cf6a89b1258b", func := "bandplan/bandplanlaw17.ProblemChecks", spec := "problemChecks", unfollowed := true, recurses := true, apart := false, narrowed := true }
def ProblemChecksUptoSaid : Prop := problemChecksUptoRow.holds Tryz.pinned (OpenSpec.upto problemChecksSpec)

/-- 'bandplanlaw17.ProblemRestricts', WHERE WHAT IT READS IS OF BULK AT MOST 1048576: true; the input reads as it did. -/
def problemRestrictsUptoRow : OpenClaim := { program := "ytipomhejoajjdaagreat", sum := "117d5039fa1b4b7ea4f7e3d874d28801a7c6c26336e2c14af2a7cf6a89b1258b", func := "bandplan/bandplanlaw17.ProblemRestricts", spec := "problemRestricts", unfollowed := true, recurses := true, apart := false, narrowed := true }
def ProblemRestrictsUptoSaid : Prop := problemRestrictsUptoRow.holds Tryz.pinned (OpenSpec.upto problemRestrictsSpec)

/-- 'bandplanlaw17.ProblemValid', WHERE WHAT IT READS IS OF BULK AT MOST 1048576: true; the input reads as it did. -/
def problemValidUptoRow : OpenClaim := { program := "ytipomhejoajjdaagreat", sum := "117d5039fa1b4b7ea4f7e3d874d28801a7c6c26336e2c14af2a7cf6a89b1258b", func := "bandplan/bandplanlaw17.ProblemValid", spec := "problemValid", unfollowed := true, recurses := true, apart := false, narrowed := true }
def ProblemValidUptoSaid : Prop := problemValidUptoRow.holds Tryz.pinned (OpenSpec.upto problemValidSpec)

/-- 'bandplanlaw17.ProblemEncodes', WHERE WHAT IT READS IS OF BULK AT MOST 1048576: true; the input reads as it did. -/
def problemEncodesUptoRow : OpenClaim := { program := "ytipomhejoajjdaagreat", sum := "117d5039fa1b4b7ea4f7e3d874d28801a7c6c26336e2c14af2a7cf6a89b1258b", func := "bandplan/bandplanlaw17.ProblemEncodes", spec := "problemEncodes", unfollowed := true, recurses := true, apart := false, narrowed := true }
def ProblemEncodesUptoSaid : Prop := problemEncodesUptoRow.holds Tryz.pinned (OpenSpec.upto problemEncodesSpec)

/-- 'bandplanlaw17.ProblemLimits', WHERE WHAT IT READS IS OF BULK AT MOST 1048576: true; the input reads as it did. -/
def problemLimitsUptoRow : OpenClaim := { program := "ytipomhejoajjdaagreat", sum := "117d5039fa1b4b7ea4f7e3d874d28801a7c6c26336e2c14af2a7cf6a89b1258b", func := "bandplan/bandplanlaw17.ProblemLimits", spec := "problemLimits", unfollowed := true, recurses := true, apart := false, narrowed := true }
def ProblemLimitsUptoSaid : Prop := problemLimitsUptoRow.holds Tryz.pinned (OpenSpec.upto problemLimitsSpec)

/-- 'bandplanlaw17.ProblemHolds', WHERE WHAT IT READS IS OF BULK AT MOST 1048576: true; the input reads as it did. -/
def problemHoldsUptoRow : OpenClaim := { program := "ytipomhejoajjdaagreat", sum := "117d5039fa1b4b7ea4f7e3d874d28801a7c6c26336e2c14af2a7cf6a89b1258b", func := "bandplan/bandplanlaw17.ProblemHolds", spec := "problemHolds", unfollowed := true, recurses := true, apart := false, narrowed := true }
def ProblemHoldsUptoSaid : Prop := problemHoldsUptoRow.holds Tryz.pinned (OpenSpec.upto problemHoldsSpec)

end Rows
end Go.Proofs.YtipomhejoajjdaaGreat
