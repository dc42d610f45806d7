/-
  NARROWER THAN 'FOR EVERY INPUT', by the rows' own cells (each row's printed sentence says how): PropagateRuns: laid · PropagateOrders: laid · PropagateShifts: laid · PropagateHolds: laid · PropagateGrows: laid · PropagateNone: laid.
  DERIVED. THE GIVEN ROWS OF THIS SEAT. 6 by the template 'for every input the law returns true; each argument reads behind the call as it read before'; 0 by the template 'total and deterministic' (their statements: YtljgejbmimapdaaDoorTotals.lean).
  GIVEN WITH THE SEED: the statements are not yours to turn. If you find one false, say at which input.
  Laid BY PROGRAM, IN A SANDBOX (cutbox-rows.mjs): the forced cells as the released guide's own fill.sh prints them over the translation 864c58a050bb027a… (all of the seat's roots in one cut). By AI agents, Wed Nov 11 2026. No macro, syntax, notation, axiom, sorry.
-/
import Derived.Test.YtljgejbmimapdaaDoorChecked
import GoSem.Claim
import GoSem.ClaimJoined
import GoSem.ClaimMapViews
import Derived.JoinedTies
import Derived.KernelRfl
namespace Go.Proofs.YtljgejbmimapdaaDoor
/- THE CELL 'sum', in the pinned program and in every row, IS THE sha256 OF THE DUMP (.gsa) THAT YtljgejbmimapdaaDoorProg.lean LOADS. Nothing in Lean hashes anything: it is a label: what it is worth is what the hold of that sum in a sandbox is worth. -/
noncomputable def Tryd.pinned : Pinned := { name := "ytljgejbmimapdaadoor", sum := "864c58a050bb027a60c4763478a2194e14e08c19eba9e4f2b334085a5b2c4d3c", checked := Tryd.checked }
namespace Rows
def none {H : Type} : Left H := { results := [], args := [] }

/- WHAT THE LISTED PACKAGE-LEVEL VARIABLES READ AS WHEN THE CALL BEGINS. Each datum BY PROGRAM (the guide's laid-datum.mjs) off the statement by which the dump's own 'gosem.cut.vars' lays the variable. In a bare row this is a premise. The card (YtljgejbmimapdaaDoorCards.lean) ties it to the program's text. -/
def laid_math_bits_deBruijn64tab {H : Type} : DataW H := .agg [.lit (.int .u8 0), .lit (.int .u8 1), .lit (.int .u8 56), .lit (.int .u8 2), .lit (.int .u8 57), .lit (.int .u8 49), .lit (.int .u8 28), .lit (.int .u8 3), .lit (.int .u8 61), .lit (.int .u8 58), .lit (.int .u8 42), .lit (.int .u8 50), .lit (.int .u8 38), .lit (.int .u8 29), .lit (.int .u8 17), .lit (.int .u8 4), .lit (.int .u8 62), .lit (.int .u8 47), .lit (.int .u8 59), .lit (.int .u8 36), .lit (.int .u8 45), .lit (.int .u8 43), .lit (.int .u8 51), .lit (.int .u8 22), .lit (.int .u8 53), .lit (.int .u8 39), .lit (.int .u8 33), .lit (.int .u8 30), .lit (.int .u8 24), .lit (.int .u8 18), .lit (.int .u8 12), .lit (.int .u8 5), .lit (.int .u8 63), .lit (.int .u8 55), .lit (.int .u8 48), .lit (.int .u8 27), .lit (.int .u8 60), .lit (.int .u8 41), .lit (.int .u8 37), .lit (.int .u8 16), .lit (.int .u8 46), .lit (.int .u8 35), .lit (.int .u8 44), .lit (.int .u8 21), .lit (.int .u8 52), .lit (.int .u8 32), .lit (.int .u8 23), .lit (.int .u8 11), .lit (.int .u8 54), .lit (.int .u8 26), .lit (.int .u8 40), .lit (.int .u8 15), .lit (.int .u8 34), .lit (.int .u8 20), .lit (.int .u8 31), .lit (.int .u8 10), .lit (.int .u8 25), .lit (.int .u8 14), .lit (.int .u8 19), .lit (.int .u8 9), .lit (.int .u8 13), .lit (.int .u8 8), .lit (.int .u8 7), .lit (.int .u8 6)]

/-- 'bandplanlaw18.PropagateRuns': WHATEVER THE INPUT: true; the input reads as it did. -/
def propagateRunsSpec : ChangeSpec := { name := "propagateRuns", fn := fun _ => fun
  | [d1, d2] => { results := [.lit (.bool true)], args := [d1, d2] }
  | _ => none }
def propagateRunsRow : OpenClaim := { program := "ytljgejbmimapdaadoor", sum := "864c58a050bb027a60c4763478a2194e14e08c19eba9e4f2b334085a5b2c4d3c", func := "bandplan/bandplanlaw18.PropagateRuns", spec := "propagateRuns", unfollowed := true, recurses := true, named := ["math/bits.deBruijn64tab"], apart := false, laid := [("math/bits.deBruijn64tab", laid_math_bits_deBruijn64tab)] }
def PropagateRunsSaid : Prop := propagateRunsRow.holds Tryd.pinned (OpenSpec.ofChange propagateRunsSpec)

/-- ITS FALSE NEIGHBOUR: 'it returns false'. Refute it at one input. -/
def propagateRunsWrong : ChangeSpec := { name := "propagateRuns", fn := fun _ => fun
  | [d1, d2] => { results := [.lit (.bool false)], args := [d1, d2] }
  | _ => none }
def PropagateRunsWrongFalsely : Prop := propagateRunsRow.holds Tryd.pinned (OpenSpec.ofChange propagateRunsWrong)

/-- 'bandplanlaw18.PropagateOrders': WHATEVER THE INPUT: true; the input reads as it did. -/
def propagateOrdersSpec : ChangeSpec := { name := "propagateOrders", fn := fun _ => fun
  | [d1, d2, d3] => { results := [.lit (.bool true)], args := [d1, d2, d3] }
  | _ => none }
def propagateOrdersRow : OpenClaim := { program := "ytljgejbmimapdaadoor", sum := "864c58a050bb027a60c4763478a2194e14e08c19eba9e4f2b334085a5b2c4d3c", func := "bandplan/bandplanlaw18.PropagateOrders", spec := "propagateOrders", unfollowed := true, recurses := true, named := ["math/bits.deBruijn64tab"], apart := false, laid := [("math/bits.deBruijn64tab", laid_math_bits_deBruijn64tab)] }
def PropagateOrdersSaid : Prop := propagateOrdersRow.holds Tryd.pinned (OpenSpec.ofChange propagateOrdersSpec)

/-- ITS FALSE NEIGHBOUR: 'it returns false'. Refute it at one input. -/
def propagateOrdersWrong : ChangeSpec := { name := "propagateOrders", fn := fun _ => fun
  | [d1, d2, d3] => { results := [.lit (.bool false)], args := [d1, d2, d3] }
  | _ => none }
def PropagateOrdersWrongFalsely : Prop := propagateOrdersRow.holds Tryd.pinned (OpenSpec.ofChange propagateOrdersWrong)

/-- 'bandplanlaw18.PropagateShifts': WHATEVER THE INPUT: true; the input reads as it did. -/
def propagateShiftsSpec : ChangeSpec := { name := "propagateShifts", fn := fun _ => fun
  | [d1, d2, d3] => { results := [.lit (.bool true)], args := [d1, d2, d3] }
  | _ => none }
def propagateShiftsRow : OpenClaim := { program := "ytljgejbmimapdaadoor", sum := "864c58a050bb027a60c4763478a2194e14e08c19eba9e4f2b334085a5b2c4d3c", func := "bandplan/bandplanlaw18.PropagateShifts", spec := "propagateShifts", unfollowed := true, recurses := true, named := ["math/bits.deBruijn64tab"], apart := false, laid := [("math/bits.deBruijn64tab", laid_math_bits_deBruijn64tab)] }
def PropagateShiftsSaid : Prop := propagateShiftsRow.holds Tryd.pinned (OpenSpec.ofChange propagateShiftsSpec)

/-- ITS FALSE NEIGHBOUR: 'it returns false'. Refute it at one input. -/
def propagateShiftsWrong : ChangeSpec := { name := "propagateShifts", fn := fun _ => fun
  | [d1, d2, d3] => { results := [.lit (.bool false)], args := [d1, d2, d3] }
  | _ => none }
def PropagateShiftsWrongFalsely : Prop := propagateShiftsRow.holds Tryd.pinned (OpenSpec.ofChange propagateShiftsWrong)

/-- 'bandplanlaw18.PropagateHolds': WHATEVER THE INPUT: true; the input reads as it did. -/
def propagateHoldsSpec : ChangeSpec := { name := "propagateHolds", fn := fun _ => fun
  | [d1, d2, d3] => { results := [.lit (.bool true)], args := [d1, d2, d3] }
  | _ => none }
def propagateHoldsRow : OpenClaim := { program := "ytljgejbmimapdaadoor", sum := "864c58a050bb027a60c4763478a2194e14e08c19eba9e4f2b334085a5b2c4d3c", func := "bandplan/bandplanlaw18.PropagateHolds", spec := "propagateHolds", unfollowed := true, recurses := true, named := ["math/bits.deBruijn64tab"], apart := false, laid := [("math/bits.deBruijn64tab", laid_math_bits_deBruijn64tab)] }
def PropagateHoldsSaid : Prop := propagateHoldsRow.holds Tryd.pinned (OpenSpec.ofChange propagateHoldsSpec)

/-- ITS FALSE NEIGHBOUR: 'it returns false'. Refute it at one input. -/
def propagateHoldsWrong : ChangeSpec := { name := "propagateHolds", fn := fun _ => fun
  | [d1, d2, d3] => { results := [.lit (.bool false)], args := [d1, d2, d3] }
  | _ => none }
def PropagateHoldsWrongFalsely : Prop := propagateHoldsRow.holds Tryd.pinned (OpenSpec.ofChange propagateHoldsWrong)

/-- 'bandplanlaw18.PropagateGrows': WHATEVER THE INPUT: true; the input reads as it did. -/
def propagateGrowsSpec : ChangeSpec := { name := "propagateGrows", fn := fun _ => fun
  | [d1, d2, d3, d4] => { results := [.lit (.bool true)], args := [d1, d2, d3, d4] }
  | _ => none }
def propagateGrowsRow : OpenClaim := { program := "ytljgejbmimapdaadoor", sum := "864c58a050bb027a60c4763478a2194e14e08c19eba9e4f2b334085a5b2c4d3c", func := "bandplan/bandplanlaw18.PropagateGrows", spec := "propagateGrows", unfollowed := true, recurses := true, named := ["math/bits.deBruijn64tab"], apart := false, laid := [("math/bits.deBruijn64tab", laid_math_bits_deBruijn64tab)] }
def PropagateGrowsSaid : Prop := propagateGrowsRow.holds Tryd.pinned (OpenSpec.ofChange propagateGrowsSpec)

/-- ITS FALSE NEIGHBOUR: 'it returns false'. Refute it at one input. -/
def propagateGrowsWrong : ChangeSpec := { name := "propagateGrows", fn := fun _ => fun
  | [d1, d2, d3, d4] => { results := [.lit (.bool false)], args := [d1, d2, d3, d4] }
  | _ => none }
def PropagateGrowsWrongFalsely : Prop := propagateGrowsRow.holds Tryd.pinned (OpenSpec.ofChange propagateGrowsWrong)

/-- 'bandplanlaw18.PropagateNone': WHATEVER THE INPUT: true; the input reads as it did. -/
def propagateNoneSpec : ChangeSpec := { name := "propagateNone", fn := fun _ => fun
  | [d1, d2] => { results := [.lit (.bool true)], args := [d1, d2] }
  | _ => none }
def propagateNoneRow : OpenClaim := { program := "ytljgejbmimapdaadoor", sum := "864c58a050bb027a60c4763478a2194e14e08c19eba9e4f2b334085a5b2c4d3c", func := "bandplan/bandplanlaw18.PropagateNone", spec := "propagateNone", unfollowed := true, recurses := true, named := ["math/bits.deBruijn64tab"], apart := false, laid := [("math/bits.deBruijn64tab", laid_math_bits_deBruijn64tab)] }
def PropagateNoneSaid : Prop := propagateNoneRow.holds Tryd.pinned (OpenSpec.ofChange propagateNoneSpec)

/-- ITS FALSE NEIGHBOUR: 'it returns false'. Refute it at one input. -/
def propagateNoneWrong : ChangeSpec := { name := "propagateNone", fn := fun _ => fun
  | [d1, d2] => { results := [.lit (.bool false)], args := [d1, d2] }
  | _ => none }
def PropagateNoneWrongFalsely : Prop := propagateNoneRow.holds Tryd.pinned (OpenSpec.ofChange propagateNoneWrong)

/- THE SECOND FORM. 'bulk': how many values and letters a reading holds, each counted each time it is reached (what is shared counts as often as it is met; a slice's spare places count too). A statement '..UptoSaid' is the law's where the arguments, and the package variables that the reading takes, are together of bulk at most 1048576: NARROWER than '..Said'. Prove '..Said' where nothing that the law and all that it calls make is longer than what came in: it says more and counts as full. Else prove '..UptoSaid'. A law counts once. -/
mutual
def uptoBulk {H : Type} : DataW H → Nat
  | .lit (.string bytes) => bytes.length + 1
  | .lit _ => 1
  | .nil => 1
  | .ptr d => uptoBulk d + 1
  | .slice elems spare => uptoBulkAll elems + uptoBulkAll spare + 1
  | .agg parts => uptoBulkAll parts + 1
  | .iface _ d => uptoBulk d + 1
  | .map entries => uptoBulkEntries entries + 1
  | .held _ => 1
def uptoBulkAll {H : Type} : List (DataW H) → Nat
  | [] => 0
  | d :: r => uptoBulk d + uptoBulkAll r
def uptoBulkEntries {H : Type} : List (Lit × DataW H) → Nat
  | [] => 0
  | x :: r => uptoBulkEntry x + uptoBulkEntries r
def uptoBulkEntry {H : Type} : Lit × DataW H → Nat
  | (.string bytes, d) => bytes.length + uptoBulk d + 1
  | (_, d) => uptoBulk d + 1
 end
def uptoSmall : (H : Type) → List (DataW H) → Bool := fun _ ds => decide (uptoBulkAll ds ≤ 1048576)
def OpenSpec.upto (s : _root_.Go.ChangeSpec) : _root_.Go.OpenSpec := { _root_.Go.OpenSpec.ofChange s with cond := some uptoSmall }

/-- 'bandplanlaw18.PropagateRuns', WHERE WHAT IT READS IS OF BULK AT MOST 1048576: true; the input reads as it did. -/
def propagateRunsUptoRow : OpenClaim := { program := "ytljgejbmimapdaadoor", sum := "864c58a050bb027a60c4763478a2194e14e08c19eba9e4f2b334085a5b2c4d3c", func := "bandplan/bandplanlaw18.PropagateRuns", spec := "propagateRuns", unfollowed := true, recurses := true, named := ["math/bits.deBruijn64tab"], apart := false, laid := [("math/bits.deBruijn64tab", laid_math_bits_deBruijn64tab)], narrowed := true }
def PropagateRunsUptoSaid : Prop := propagateRunsUptoRow.holds Tryd.pinned (OpenSpec.upto propagateRunsSpec)

/-- 'bandplanlaw18.PropagateOrders', WHERE WHAT IT READS IS OF BULK AT MOST 1048576: true; the input reads as it did. -/
def propagateOrdersUptoRow : OpenClaim := { program := "ytljgejbmimapdaadoor", sum := "864c58a050bb027a60c4763478a2194e14e08c19eba9e4f2b334085a5b2c4d3c", func := "bandplan/bandplanlaw18.PropagateOrders", spec := "propagateOrders", unfollowed := true, recurses := true, named := ["math/bits.deBruijn64tab"], apart := false, laid := [("math/bits.deBruijn64tab", laid_math_bits_deBruijn64tab)], narrowed := true }
def PropagateOrdersUptoSaid : Prop := propagateOrdersUptoRow.holds Tryd.pinned (OpenSpec.upto propagateOrdersSpec)

/-- 'bandplanlaw18.PropagateShifts', WHERE WHAT IT READS IS OF BULK AT MOST 1048576: true; the input reads as it did. -/
def propagateShiftsUptoRow : OpenClaim := { program := "ytljgejbmimapdaadoor", sum := "864c58a050bb027a60c4763478a2194e14e08c19eba9e4f2b334085a5b2c4d3c", func := "bandplan/bandplanlaw18.PropagateShifts", spec := "propagateShifts", unfollowed := true, recurses := true, named := ["math/bits.deBruijn64tab"], apart := false, laid := [("math/bits.deBruijn64tab", laid_math_bits_deBruijn64tab)], narrowed := true }
def PropagateShiftsUptoSaid : Prop := propagateShiftsUptoRow.holds Tryd.pinned (OpenSpec.upto propagateShiftsSpec)

/-- 'bandplanlaw18.PropagateHolds', WHERE WHAT IT READS IS OF BULK AT MOST 1048576: true; the input reads as it did. -/
def propagateHoldsUptoRow : OpenClaim := { program := "ytljgejbmimapdaadoor", sum := "864c58a050bb027a60c4763478a2194e14e08c19eba9e4f2b334085a5b2c4d3c", func := "bandplan/bandplanlaw18.PropagateHolds", spec := "propagateHolds", unfollowed := true, recurses := true, named := ["math/bits.deBruijn64tab"], apart := false, laid := [("math/bits.deBruijn64tab", laid_math_bits_deBruijn64tab)], narrowed := true }
def PropagateHoldsUptoSaid : Prop := propagateHoldsUptoRow.holds Tryd.pinned (OpenSpec.upto propagateHoldsSpec)

/-- 'bandplanlaw18.PropagateGrows', WHERE WHAT IT READS IS OF BULK AT MOST 1048576: true; the input reads as it did. -/
def propagateGrowsUptoRow : OpenClaim := { program := "ytljgejbmimapdaadoor", sum := "864c58a050bb027a60c4763478a2194e14e08c19eba9e4f2b334085a5b2c4d3c", func := "bandplan/bandplanlaw18.PropagateGrows", spec := "propagateGrows", unfollowed := true, recurses := true, named := ["math/bits.deBruijn64tab"], apart := false, laid := [("math/bits.deBruijn64tab", laid_math_bits_deBruijn64tab)], narrowed := true }
def PropagateGrowsUptoSaid : Prop := propagateGrowsUptoRow.holds Tryd.pinned (OpenSpec.upto propagateGrowsSpec)

/-- 'bandplanlaw18.PropagateNone', WHERE WHAT IT READS IS OF BULK AT MOST 1048576: true; the input reads as it did. -/
def propagateNoneUptoRow : OpenClaim := { program := "ytljgejbmimapdaadoor", sum := "864c58a050bb027a60c4763478a2194e14e08c19eba9e4f2b334085a5b2c4d3c", func := "bandplan/bandplanlaw18.PropagateNone", spec := "propagateNone", unfollowed := true, recurses := true, named := ["math/bits.deBruijn64tab"], apart := false, laid := [("math/bits.deBruijn64tab", laid_math_bits_deBruijn64tab)], narrowed := true }
def PropagateNoneUptoSaid : Prop := propagateNoneUptoRow.holds Tryd.pinned (OpenSpec.upto propagateNoneSpec)

end Rows
end Go.Proofs.YtljgejbmimapdaaDoor
