/-
  No cell of these rows narrows 'for every input' (looked for: loops, veiled, ifaces, maps, wideKeys, modest, calm, conditions, laid).
  DERIVED. THE GIVEN ROWS OF THIS SEAT. 3 by the template 'for every input the law returns true; each argument reads behind the call as it read before'; 0 by the template 'total and deterministic' (their statements: YtlaafmiejkebgaaGreatTotals.lean).
  GIVEN WITH THE SEED: the statements are not yours to turn. If you find one false, say at which input.
  Laid BY PROGRAM, IN A SANDBOX (cutbox-rows.mjs): the forced cells as the released guide's own fill.sh prints them over the translation 8bfceafb2e5d9227… (all of the seat's roots in one cut). By AI agents, Wed Nov 11 2026. No macro, syntax, notation, axiom, sorry.
-/
import Derived.Test.YtlaafmiejkebgaaGreatChecked
import GoSem.Claim
import GoSem.ClaimJoined
import GoSem.ClaimMapViews
import Derived.JoinedTies
import Derived.KernelRfl
namespace Go.Proofs.YtlaafmiejkebgaaGreat
/- THE CELL 'sum', in the pinned program and in every row, IS THE sha256 OF THE DUMP (.gsa) THAT YtlaafmiejkebgaaGreatProg.lean LOADS. Nothing in Lean hashes anything: it is a label: what it is worth is what the hold of that sum in a sandbox is worth. -/
noncomputable def Tryz.pinned : Pinned := { name := "ytlaafmiejkebgaagreat", sum := "8bfceafb2e5d92278927dd712b6c53eccedcd5d261b0d4215b66260aa21b0266", checked := Tryz.checked }
namespace Rows
def none {H : Type} : Left H := { results := [], args := [] }

/-- 'bandplanlaw50.BidderBids': WHATEVER THE INPUT: true; the input reads as it did. -/
def bidderBidsSpec : ChangeSpec := { name := "bidderBids", fn := fun _ => fun
  | [d1, d2, d3, d4, d5] => { results := [.lit (.bool true)], args := [d1, d2, d3, d4, d5] }
  | _ => none }
def bidderBidsRow : OpenClaim := { program := "ytlaafmiejkebgaagreat", sum := "8bfceafb2e5d92278927dd712b6c53eccedcd5d261b0d4215b66260aa21b0266", func := "bandplan/bandplanlaw50.BidderBids", spec := "bidderBids", unfollowed := true, recurses := true, plainKeys := false, apart := false }
def BidderBidsSaid : Prop := bidderBidsRow.holds Tryz.pinned (OpenSpec.ofChange bidderBidsSpec)

/-- ITS FALSE NEIGHBOUR: 'it returns false'. Refute it at one input. -/
def bidderBidsWrong : ChangeSpec := { name := "bidderBids", fn := fun _ => fun
  | [d1, d2, d3, d4, d5] => { results := [.lit (.bool false)], args := [d1, d2, d3, d4, d5] }
  | _ => none }
def BidderBidsWrongFalsely : Prop := bidderBidsRow.holds Tryz.pinned (OpenSpec.ofChange bidderBidsWrong)

/-- 'bandplanlaw50.BidderDraws': WHATEVER THE INPUT: true; the input reads as it did. -/
def bidderDrawsSpec : ChangeSpec := { name := "bidderDraws", fn := fun _ => fun
  | [d1, d2, d3, d4, d5] => { results := [.lit (.bool true)], args := [d1, d2, d3, d4, d5] }
  | _ => none }
def bidderDrawsRow : OpenClaim := { program := "ytlaafmiejkebgaagreat", sum := "8bfceafb2e5d92278927dd712b6c53eccedcd5d261b0d4215b66260aa21b0266", func := "bandplan/bandplanlaw50.BidderDraws", spec := "bidderDraws", unfollowed := true, recurses := true, plainKeys := false, apart := false }
def BidderDrawsSaid : Prop := bidderDrawsRow.holds Tryz.pinned (OpenSpec.ofChange bidderDrawsSpec)

/-- ITS FALSE NEIGHBOUR: 'it returns false'. Refute it at one input. -/
def bidderDrawsWrong : ChangeSpec := { name := "bidderDraws", fn := fun _ => fun
  | [d1, d2, d3, d4, d5] => { results := [.lit (.bool false)], args := [d1, d2, d3, d4, d5] }
  | _ => none }
def BidderDrawsWrongFalsely : Prop := bidderDrawsRow.holds Tryz.pinned (OpenSpec.ofChange bidderDrawsWrong)

/-- 'bandplanlaw50.BidderHolds': WHATEVER THE INPUT: true; the input reads as it did. -/
def bidderHoldsSpec : ChangeSpec := { name := "bidderHolds", fn := fun _ => fun
  | [d1, d2, d3, d4, d5, d6, d7, d8, d9, d10, d11, d12] => { results := [.lit (.bool true)], args := [d1, d2, d3, d4, d5, d6, d7, d8, d9, d10, d11, d12] }
  | _ => none }
def bidderHoldsRow : OpenClaim := { program := "ytlaafmiejkebgaagreat", sum := "8bfceafb2e5d92278927dd712b6c53eccedcd5d261b0d4215b66260aa21b0266", func := "bandplan/bandplanlaw50.BidderHolds", spec := "bidderHolds", unfollowed := true, recurses := true, plainKeys := false, apart := false }
def BidderHoldsSaid : Prop := bidderHoldsRow.holds Tryz.pinned (OpenSpec.ofChange bidderHoldsSpec)

/-- ITS FALSE NEIGHBOUR: 'it returns false'. Refute it at one input. -/
def bidderHoldsWrong : ChangeSpec := { name := "bidderHolds", fn := fun _ => fun
  | [d1, d2, d3, d4, d5, d6, d7, d8, d9, d10, d11, d12] => { results := [.lit (.bool false)], args := [d1, d2, d3, d4, d5, d6, d7, d8, d9, d10, d11, d12] }
  | _ => none }
def BidderHoldsWrongFalsely : Prop := bidderHoldsRow.holds Tryz.pinned (OpenSpec.ofChange bidderHoldsWrong)

/- THE SECOND FORM. 'bulk': how many values and letters a reading holds, each counted each time it is reached (what is shared counts as often as it is met; a slice's spare places count too). A statement '..UptoSaid' is the law's where the arguments, and the package variables that the reading takes, are together of bulk at most 1048576: NARROWER than '..Said'. Prove '..Said' where nothing that the law and all that it calls make is longer than what came in: it says more and counts as full. Else prove '..UptoSaid'. A law counts once. -/
mutual
def uptoBulk {H : Type} : DataW H → Nat
  | .lit (.string bytes) => bytes.length + 1
  | .lit _ => 1
  | .nil => 1
  | .ptr d => uptoBulk d + 1
  | .slice elems spare => uptoBulkAll elems + uptoBulkAll spare + 1
  | .agg parts => uptoBulkAll parts + 1
  | .iface _ d => uptoBulk d + 1
  | .map entries => uptoBulkEntries entries + 1
  | .held _ => 1
def uptoBulkAll {H : Type} : List (DataW H) → Nat
  | [] => 0
  | d :: r => uptoBulk d + uptoBulkAll r
def uptoBulkEntries {H : Type} : List (Lit × DataW H) → Nat
  | [] => 0
  | x :: r => uptoBulkEntry x + uptoBulkEntries r
def uptoBulkEntry {H : Type} : Lit × DataW H → Nat
  | (.string bytes, d) => bytes.length + uptoBulk d + 1
  | (_, d) => uptoBulk d + 1
 end
def uptoSmall : (H : Type) → List (DataW H) → Bool := fun _ ds => decide (uptoBulkAll ds ≤ 1048576)
def OpenSpec.upto (s : _root_.Go.ChangeSpec) : _root_.Go.OpenSpec := { _root_.Go.OpenSpec.ofChange s with cond := some uptoSmall }

/-- 'bandplanlaw50.BidderBids', WHERE WHAT IT READS IS OF BULK AT MOST 1048576: true; the input reads as it did. -/
def bidderBidsUptoRow : OpenClaim := { program := "ytlaafmiejkebgaagreat", sum := "8bfceafb2e5d92278927dd712b6c53eccedcd5d261b0d4215b66260aa21b0266", func := "bandplan/bandplanlaw50.BidderBids", spec := "bidderBids", unfollowed := true, recurses := true, plainKeys := false, apart := false, narrowed := true }
def BidderBidsUptoSaid : Prop := bidderBidsUptoRow.holds Tryz.pinned (OpenSpec.upto bidderBidsSpec)

/-- 'bandplanlaw50.BidderDraws', WHERE WHAT IT READS IS OF BULK AT MOST 1048576: true; the input reads as it did. -/
def bidderDrawsUptoRow : OpenClaim := { program := "ytlaafmiejkebgaagreat", sum := "8bfceafb2e5d92278927dd712b6c53eccedcd5d261b0d4215b66260aa21b0266", func := "bandplan/bandplanlaw50.BidderDraws", spec := "bidderDraws", unfollowed := true, recurses := true, plainKeys := false, apart := false, narrowed := true }
def BidderDrawsUptoSaid : Prop := bidderDrawsUptoRow.holds Tryz.pinned (OpenSpec.upto bidderDrawsSpec)

/-- 'bandplanlaw50.BidderHolds', WHERE WHAT IT READS IS OF BULK AT MOST 1048576: true; the input reads as it did. -/
def bidderHoldsUptoRow : OpenClaim := { program := "ytlaafmiejkebgaagreat", sum := "8bfceafb2e5d92278927dd712b6c53eccedcd5d261b0d4215b66260aa21b0266", func := "bandplan/bandplanlaw50.BidderHolds", spec := "bidderHolds", unfollowed := true, recurses := true, plainKeys := false, apart := false, narrowed := true }
def BidderHoldsUptoSaid : Prop := bidderHoldsUptoRow.holds Tryz.pinned (OpenSpec.upto bidderHoldsSpec)

end Rows
end Go.Proofs.YtlaafmiejkebgaaGreat
