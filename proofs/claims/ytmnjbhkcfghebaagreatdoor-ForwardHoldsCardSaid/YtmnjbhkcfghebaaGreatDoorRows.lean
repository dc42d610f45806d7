/-
  NARROWER THAN 'FOR EVERY INPUT', by the rows' own cells (each row's printed sentence says how): ForwardValid: laid · ForwardHolds: laid · ForwardNew: laid · ForwardRound: laid · ForwardCopy: laid · ClosingOf: laid · ForwardEncode: laid · ForwardDecode: laid.
  DERIVED. THE GIVEN ROWS OF THIS SEAT. 8 by the template 'for every input the law returns true; each argument reads behind the call as it read before'; 0 by the template 'total and deterministic' (their statements: YtmnjbhkcfghebaaGreatDoorTotals.lean).
  GIVEN WITH THE SEED: the statements are not yours to turn. If you find one false, say at which input.
  Laid BY PROGRAM, IN A SANDBOX (cutbox-rows.mjs): the forced cells as the released guide's own fill.sh prints them over the translation d8faa2fa7956668e… (all of the seat's roots in one cut). By AI agents, Wed Nov 11 2026. No macro, syntax, notation, axiom, sorry.
-/
import Derived.Test.YtmnjbhkcfghebaaGreatDoorChecked
import GoSem.Claim
import GoSem.ClaimJoined
import GoSem.ClaimMapViews
import Derived.JoinedTies
import Derived.KernelRfl
namespace Go.Proofs.YtmnjbhkcfghebaaGreatDoor
/- THE CELL 'sum', in the pinned program and in every row, IS THE sha256 OF THE DUMP (.gsa) THAT YtmnjbhkcfghebaaGreatDoorProg.lean LOADS. Nothing in Lean hashes anything: it is a label: what it is worth is what the hold of that sum in a sandbox is worth. -/
noncomputable def Tryz.pinned : Pinned := { name := "ytmnjbhkcfghebaagreatdoor", sum := "d8faa2fa7956668e387e3a48a3f6a6bb31e1de8f276dcec46e6e63e2602c4007", checked := Tryz.checked }
namespace Rows
def none {H : Type} : Left H := { results := [], args := [] }

/- WHAT THE LISTED PACKAGE-LEVEL VARIABLES READ AS WHEN THE CALL BEGINS. Each datum BY PROGRAM (the guide's laid-datum.mjs) off the statement by which the dump's own 'gosem.cut.vars' lays the variable. In a bare row this is a premise. The card (YtmnjbhkcfghebaaGreatDoorCards.lean) ties it to the program's text. -/
def laid_bandplan_blake_order {H : Type} : DataW H := .agg [.agg [.lit (.int .u8 0), .lit (.int .u8 1), .lit (.int .u8 2), .lit (.int .u8 3), .lit (.int .u8 4), .lit (.int .u8 5), .lit (.int .u8 6), .lit (.int .u8 7), .lit (.int .u8 8), .lit (.int .u8 9), .lit (.int .u8 10), .lit (.int .u8 11), .lit (.int .u8 12), .lit (.int .u8 13), .lit (.int .u8 14), .lit (.int .u8 15)], .agg [.lit (.int .u8 14), .lit (.int .u8 10), .lit (.int .u8 4), .lit (.int .u8 8), .lit (.int .u8 9), .lit (.int .u8 15), .lit (.int .u8 13), .lit (.int .u8 6), .lit (.int .u8 1), .lit (.int .u8 12), .lit (.int .u8 0), .lit (.int .u8 2), .lit (.int .u8 11), .lit (.int .u8 7), .lit (.int .u8 5), .lit (.int .u8 3)], .agg [.lit (.int .u8 11), .lit (.int .u8 8), .lit (.int .u8 12), .lit (.int .u8 0), .lit (.int .u8 5), .lit (.int .u8 2), .lit (.int .u8 15), .lit (.int .u8 13), .lit (.int .u8 10), .lit (.int .u8 14), .lit (.int .u8 3), .lit (.int .u8 6), .lit (.int .u8 7), .lit (.int .u8 1), .lit (.int .u8 9), .lit (.int .u8 4)], .agg [.lit (.int .u8 7), .lit (.int .u8 9), .lit (.int .u8 3), .lit (.int .u8 1), .lit (.int .u8 13), .lit (.int .u8 12), .lit (.int .u8 11), .lit (.int .u8 14), .lit (.int .u8 2), .lit (.int .u8 6), .lit (.int .u8 5), .lit (.int .u8 10), .lit (.int .u8 4), .lit (.int .u8 0), .lit (.int .u8 15), .lit (.int .u8 8)], .agg [.lit (.int .u8 9), .lit (.int .u8 0), .lit (.int .u8 5), .lit (.int .u8 7), .lit (.int .u8 2), .lit (.int .u8 4), .lit (.int .u8 10), .lit (.int .u8 15), .lit (.int .u8 14), .lit (.int .u8 1), .lit (.int .u8 11), .lit (.int .u8 12), .lit (.int .u8 6), .lit (.int .u8 8), .lit (.int .u8 3), .lit (.int .u8 13)], .agg [.lit (.int .u8 2), .lit (.int .u8 12), .lit (.int .u8 6), .lit (.int .u8 10), .lit (.int .u8 0), .lit (.int .u8 11), .lit (.int .u8 8), .lit (.int .u8 3), .lit (.int .u8 4), .lit (.int .u8 13), .lit (.int .u8 7), .lit (.int .u8 5), .lit (.int .u8 15), .lit (.int .u8 14), .lit (.int .u8 1), .lit (.int .u8 9)], .agg [.lit (.int .u8 12), .lit (.int .u8 5), .lit (.int .u8 1), .lit (.int .u8 15), .lit (.int .u8 14), .lit (.int .u8 13), .lit (.int .u8 4), .lit (.int .u8 10), .lit (.int .u8 0), .lit (.int .u8 7), .lit (.int .u8 6), .lit (.int .u8 3), .lit (.int .u8 9), .lit (.int .u8 2), .lit (.int .u8 8), .lit (.int .u8 11)], .agg [.lit (.int .u8 13), .lit (.int .u8 11), .lit (.int .u8 7), .lit (.int .u8 14), .lit (.int .u8 12), .lit (.int .u8 1), .lit (.int .u8 3), .lit (.int .u8 9), .lit (.int .u8 5), .lit (.int .u8 0), .lit (.int .u8 15), .lit (.int .u8 4), .lit (.int .u8 8), .lit (.int .u8 6), .lit (.int .u8 2), .lit (.int .u8 10)], .agg [.lit (.int .u8 6), .lit (.int .u8 15), .lit (.int .u8 14), .lit (.int .u8 9), .lit (.int .u8 11), .lit (.int .u8 3), .lit (.int .u8 0), .lit (.int .u8 8), .lit (.int .u8 12), .lit (.int .u8 2), .lit (.int .u8 13), .lit (.int .u8 7), .lit (.int .u8 1), .lit (.int .u8 4), .lit (.int .u8 10), .lit (.int .u8 5)], .agg [.lit (.int .u8 10), .lit (.int .u8 2), .lit (.int .u8 8), .lit (.int .u8 4), .lit (.int .u8 7), .lit (.int .u8 6), .lit (.int .u8 1), .lit (.int .u8 5), .lit (.int .u8 15), .lit (.int .u8 11), .lit (.int .u8 9), .lit (.int .u8 14), .lit (.int .u8 3), .lit (.int .u8 12), .lit (.int .u8 13), .lit (.int .u8 0)]]
def laid_bandplan_blake_initial {H : Type} : DataW H := .agg [.lit (.int .u32 1779033703), .lit (.int .u32 3144134277), .lit (.int .u32 1013904242), .lit (.int .u32 2773480762), .lit (.int .u32 1359893119), .lit (.int .u32 2600822924), .lit (.int .u32 528734635), .lit (.int .u32 1541459225)]

/-- 'bandplanlaw36.ForwardValid': WHATEVER THE INPUT: true; the input reads as it did. -/
def forwardValidSpec : ChangeSpec := { name := "forwardValid", fn := fun _ => fun
  | [d1, d2] => { results := [.lit (.bool true)], args := [d1, d2] }
  | _ => none }
def forwardValidRow : OpenClaim := { program := "ytmnjbhkcfghebaagreatdoor", sum := "d8faa2fa7956668e387e3a48a3f6a6bb31e1de8f276dcec46e6e63e2602c4007", func := "bandplan/bandplanlaw36.ForwardValid", spec := "forwardValid", inPlace := ["internal/bytealg.Compare"], unfollowed := true, recurses := true, named := ["bandplan/blake.initial", "bandplan/blake.order"], apart := false, laid := [("bandplan/blake.order", laid_bandplan_blake_order), ("bandplan/blake.initial", laid_bandplan_blake_initial)] }
def ForwardValidSaid : Prop := forwardValidRow.holds Tryz.pinned (OpenSpec.ofChange forwardValidSpec)

/-- ITS FALSE NEIGHBOUR: 'it returns false'. Refute it at one input. -/
def forwardValidWrong : ChangeSpec := { name := "forwardValid", fn := fun _ => fun
  | [d1, d2] => { results := [.lit (.bool false)], args := [d1, d2] }
  | _ => none }
def ForwardValidWrongFalsely : Prop := forwardValidRow.holds Tryz.pinned (OpenSpec.ofChange forwardValidWrong)

/-- 'bandplanlaw36.ForwardHolds': WHATEVER THE INPUT: true; the input reads as it did. -/
def forwardHoldsSpec : ChangeSpec := { name := "forwardHolds", fn := fun _ => fun
  | [d1, d2, d3, d4, d5] => { results := [.lit (.bool true)], args := [d1, d2, d3, d4, d5] }
  | _ => none }
def forwardHoldsRow : OpenClaim := { program := "ytmnjbhkcfghebaagreatdoor", sum := "d8faa2fa7956668e387e3a48a3f6a6bb31e1de8f276dcec46e6e63e2602c4007", func := "bandplan/bandplanlaw36.ForwardHolds", spec := "forwardHolds", inPlace := ["internal/bytealg.Compare"], unfollowed := true, recurses := true, named := ["bandplan/blake.initial", "bandplan/blake.order"], apart := false, laid := [("bandplan/blake.order", laid_bandplan_blake_order), ("bandplan/blake.initial", laid_bandplan_blake_initial)] }
def ForwardHoldsSaid : Prop := forwardHoldsRow.holds Tryz.pinned (OpenSpec.ofChange forwardHoldsSpec)

/-- ITS FALSE NEIGHBOUR: 'it returns false'. Refute it at one input. -/
def forwardHoldsWrong : ChangeSpec := { name := "forwardHolds", fn := fun _ => fun
  | [d1, d2, d3, d4, d5] => { results := [.lit (.bool false)], args := [d1, d2, d3, d4, d5] }
  | _ => none }
def ForwardHoldsWrongFalsely : Prop := forwardHoldsRow.holds Tryz.pinned (OpenSpec.ofChange forwardHoldsWrong)

/-- 'bandplanlaw36.ForwardNew': WHATEVER THE INPUT: true; the input reads as it did. -/
def forwardNewSpec : ChangeSpec := { name := "forwardNew", fn := fun _ => fun
  | [d1, d2, d3, d4] => { results := [.lit (.bool true)], args := [d1, d2, d3, d4] }
  | _ => none }
def forwardNewRow : OpenClaim := { program := "ytmnjbhkcfghebaagreatdoor", sum := "d8faa2fa7956668e387e3a48a3f6a6bb31e1de8f276dcec46e6e63e2602c4007", func := "bandplan/bandplanlaw36.ForwardNew", spec := "forwardNew", inPlace := ["internal/bytealg.Compare"], unfollowed := true, recurses := true, named := ["bandplan/blake.initial", "bandplan/blake.order"], apart := false, laid := [("bandplan/blake.order", laid_bandplan_blake_order), ("bandplan/blake.initial", laid_bandplan_blake_initial)] }
def ForwardNewSaid : Prop := forwardNewRow.holds Tryz.pinned (OpenSpec.ofChange forwardNewSpec)

/-- ITS FALSE NEIGHBOUR: 'it returns false'. Refute it at one input. -/
def forwardNewWrong : ChangeSpec := { name := "forwardNew", fn := fun _ => fun
  | [d1, d2, d3, d4] => { results := [.lit (.bool false)], args := [d1, d2, d3, d4] }
  | _ => none }
def ForwardNewWrongFalsely : Prop := forwardNewRow.holds Tryz.pinned (OpenSpec.ofChange forwardNewWrong)

/-- 'bandplanlaw36.ForwardRound': WHATEVER THE INPUT: true; the input reads as it did. -/
def forwardRoundSpec : ChangeSpec := { name := "forwardRound", fn := fun _ => fun
  | [d1, d2, d3, d4, d5] => { results := [.lit (.bool true)], args := [d1, d2, d3, d4, d5] }
  | _ => none }
def forwardRoundRow : OpenClaim := { program := "ytmnjbhkcfghebaagreatdoor", sum := "d8faa2fa7956668e387e3a48a3f6a6bb31e1de8f276dcec46e6e63e2602c4007", func := "bandplan/bandplanlaw36.ForwardRound", spec := "forwardRound", inPlace := ["internal/bytealg.Compare"], unfollowed := true, recurses := true, named := ["bandplan/blake.initial", "bandplan/blake.order"], apart := false, laid := [("bandplan/blake.order", laid_bandplan_blake_order), ("bandplan/blake.initial", laid_bandplan_blake_initial)] }
def ForwardRoundSaid : Prop := forwardRoundRow.holds Tryz.pinned (OpenSpec.ofChange forwardRoundSpec)

/-- ITS FALSE NEIGHBOUR: 'it returns false'. Refute it at one input. -/
def forwardRoundWrong : ChangeSpec := { name := "forwardRound", fn := fun _ => fun
  | [d1, d2, d3, d4, d5] => { results := [.lit (.bool false)], args := [d1, d2, d3, d4, d5] }
  | _ => none }
def ForwardRoundWrongFalsely : Prop := forwardRoundRow.holds Tryz.pinned (OpenSpec.ofChange forwardRoundWrong)

/-- 'bandplanlaw36.ForwardCopy': WHATEVER THE INPUT: true; the input reads as it did. -/
def forwardCopySpec : ChangeSpec := { name := "forwardCopy", fn := fun _ => fun
  | [d1, d2, d3, d4, d5, d6] => { results := [.lit (.bool true)], args := [d1, d2, d3, d4, d5, d6] }
  | _ => none }
def forwardCopyRow : OpenClaim := { program := "ytmnjbhkcfghebaagreatdoor", sum := "d8faa2fa7956668e387e3a48a3f6a6bb31e1de8f276dcec46e6e63e2602c4007", func := "bandplan/bandplanlaw36.ForwardCopy", spec := "forwardCopy", inPlace := ["internal/bytealg.Compare"], unfollowed := true, recurses := true, named := ["bandplan/blake.initial", "bandplan/blake.order"], apart := false, laid := [("bandplan/blake.order", laid_bandplan_blake_order), ("bandplan/blake.initial", laid_bandplan_blake_initial)] }
def ForwardCopySaid : Prop := forwardCopyRow.holds Tryz.pinned (OpenSpec.ofChange forwardCopySpec)

/-- ITS FALSE NEIGHBOUR: 'it returns false'. Refute it at one input. -/
def forwardCopyWrong : ChangeSpec := { name := "forwardCopy", fn := fun _ => fun
  | [d1, d2, d3, d4, d5, d6] => { results := [.lit (.bool false)], args := [d1, d2, d3, d4, d5, d6] }
  | _ => none }
def ForwardCopyWrongFalsely : Prop := forwardCopyRow.holds Tryz.pinned (OpenSpec.ofChange forwardCopyWrong)

/-- 'bandplanlaw37.ClosingOf': WHATEVER THE INPUT: true; the input reads as it did. -/
def closingOfSpec : ChangeSpec := { name := "closingOf", fn := fun _ => fun
  | [d1, d2, d3, d4, d5, d6] => { results := [.lit (.bool true)], args := [d1, d2, d3, d4, d5, d6] }
  | _ => none }
def closingOfRow : OpenClaim := { program := "ytmnjbhkcfghebaagreatdoor", sum := "d8faa2fa7956668e387e3a48a3f6a6bb31e1de8f276dcec46e6e63e2602c4007", func := "bandplan/bandplanlaw37.ClosingOf", spec := "closingOf", inPlace := ["internal/bytealg.Compare"], unfollowed := true, recurses := true, named := ["bandplan/blake.initial", "bandplan/blake.order"], apart := false, laid := [("bandplan/blake.order", laid_bandplan_blake_order), ("bandplan/blake.initial", laid_bandplan_blake_initial)] }
def ClosingOfSaid : Prop := closingOfRow.holds Tryz.pinned (OpenSpec.ofChange closingOfSpec)

/-- ITS FALSE NEIGHBOUR: 'it returns false'. Refute it at one input. -/
def closingOfWrong : ChangeSpec := { name := "closingOf", fn := fun _ => fun
  | [d1, d2, d3, d4, d5, d6] => { results := [.lit (.bool false)], args := [d1, d2, d3, d4, d5, d6] }
  | _ => none }
def ClosingOfWrongFalsely : Prop := closingOfRow.holds Tryz.pinned (OpenSpec.ofChange closingOfWrong)

/-- 'bandplanlaw36.ForwardEncode': WHATEVER THE INPUT: true; the input reads as it did. -/
def forwardEncodeSpec : ChangeSpec := { name := "forwardEncode", fn := fun _ => fun
  | [d] => { results := [.lit (.bool true)], args := [d] }
  | _ => none }
def forwardEncodeRow : OpenClaim := { program := "ytmnjbhkcfghebaagreatdoor", sum := "d8faa2fa7956668e387e3a48a3f6a6bb31e1de8f276dcec46e6e63e2602c4007", func := "bandplan/bandplanlaw36.ForwardEncode", spec := "forwardEncode", inPlace := ["internal/bytealg.Compare"], unfollowed := true, recurses := true, named := ["bandplan/blake.initial", "bandplan/blake.order"], apart := false, laid := [("bandplan/blake.order", laid_bandplan_blake_order), ("bandplan/blake.initial", laid_bandplan_blake_initial)] }
def ForwardEncodeSaid : Prop := forwardEncodeRow.holds Tryz.pinned (OpenSpec.ofChange forwardEncodeSpec)

/-- ITS FALSE NEIGHBOUR: 'it returns false'. Refute it at one input. -/
def forwardEncodeWrong : ChangeSpec := { name := "forwardEncode", fn := fun _ => fun
  | [d] => { results := [.lit (.bool false)], args := [d] }
  | _ => none }
def ForwardEncodeWrongFalsely : Prop := forwardEncodeRow.holds Tryz.pinned (OpenSpec.ofChange forwardEncodeWrong)

/-- 'bandplanlaw36.ForwardDecode': WHATEVER THE INPUT: true; the input reads as it did. -/
def forwardDecodeSpec : ChangeSpec := { name := "forwardDecode", fn := fun _ => fun
  | [d] => { results := [.lit (.bool true)], args := [d] }
  | _ => none }
def forwardDecodeRow : OpenClaim := { program := "ytmnjbhkcfghebaagreatdoor", sum := "d8faa2fa7956668e387e3a48a3f6a6bb31e1de8f276dcec46e6e63e2602c4007", func := "bandplan/bandplanlaw36.ForwardDecode", spec := "forwardDecode", inPlace := ["internal/bytealg.Compare"], unfollowed := true, recurses := true, named := ["bandplan/blake.initial", "bandplan/blake.order"], apart := false, laid := [("bandplan/blake.order", laid_bandplan_blake_order), ("bandplan/blake.initial", laid_bandplan_blake_initial)] }
def ForwardDecodeSaid : Prop := forwardDecodeRow.holds Tryz.pinned (OpenSpec.ofChange forwardDecodeSpec)

/-- ITS FALSE NEIGHBOUR: 'it returns false'. Refute it at one input. -/
def forwardDecodeWrong : ChangeSpec := { name := "forwardDecode", fn := fun _ => fun
  | [d] => { results := [.lit (.bool false)], args := [d] }
  | _ => none }
def ForwardDecodeWrongFalsely : Prop := forwardDecodeRow.holds Tryz.pinned (OpenSpec.ofChange forwardDecodeWrong)

/- THE SECOND FORM. 'bulk': how many values and letters a reading holds, each counted each time it is reached (what is shared counts as often as it is met; a slice's spare places count too). A statement '..UptoSaid' is the law's where the arguments, and the package variables that the reading takes, are together of bulk at most 1048576: NARROWER than '..Said'. Prove '..Said' where nothing that the law and all that it calls make is longer than what came in: it says more and counts as full. Else prove '..UptoSaid'. A law counts once. -/
mutual
def uptoBulk {H : Type} : DataW H → Nat
  | .lit (.string bytes) => bytes.length + 1
  | .lit _ => 1
  | .nil => 1
  | .ptr d => uptoBulk d + 1
  | .slice elems spare => uptoBulkAll elems + uptoBulkAll spare + 1
  | .agg parts => uptoBulkAll parts + 1
  | .iface _ d => uptoBulk d + 1
  | .map entries => uptoBulkEntries entries + 1
  | .held _ => 1
def uptoBulkAll {H : Type} : List (DataW H) → Nat
  | [] => 0
  | d :: r => uptoBulk d + uptoBulkAll r
def uptoBulkEntries {H : Type} : List (Lit × DataW H) → Nat
  | [] => 0
  | x :: r => uptoBulkEntry x + uptoBulkEntries r
def uptoBulkEntry {H : Type} : Lit × DataW H → Nat
  | (.string bytes, d) => bytes.length + uptoBulk d + 1
  | (_, d) => uptoBulk d + 1
 end
def uptoSmall : (H : Type) → List (DataW H) → Bool := fun _ ds => decide (uptoBulkAll ds ≤ 1048576)
def OpenSpec.upto (s : _root_.Go.ChangeSpec) : _root_.Go.OpenSpec := { _root_.Go.OpenSpec.ofChange s with cond := some uptoSmall }

/-- 'bandplanlaw36.ForwardValid', WHERE WHAT IT READS IS OF BULK AT MOST 1048576: true; the input reads as it did. -/
def forwardValidUptoRow : OpenClaim := { program := "ytmnjbhkcfghebaagreatdoor", sum := "d8faa2fa7956668e387e3a48a3f6a6bb31e1de8f276dcec46e6e63e2602c4007", func := "bandplan/bandplanlaw36.ForwardValid", spec := "forwardValid", inPlace := ["internal/bytealg.Compare"], unfollowed := true, recurses := true, named := ["bandplan/blake.initial", "bandplan/blake.order"], apart := false, laid := [("bandplan/blake.order", laid_bandplan_blake_order), ("bandplan/blake.initial", laid_bandplan_blake_initial)], narrowed := true }
def ForwardValidUptoSaid : Prop := forwardValidUptoRow.holds Tryz.pinned (OpenSpec.upto forwardValidSpec)

/-- 'bandplanlaw36.ForwardHolds', WHERE WHAT IT READS IS OF BULK AT MOST 1048576: true; the input reads as it did. -/
def forwardHoldsUptoRow : OpenClaim := { program := "ytmnjbhkcfghebaagreatdoor", sum := "d8faa2fa7956668e387e3a48a3f6a6bb31e1de8f276dcec46e6e63e2602c4007", func := "bandplan/bandplanlaw36.ForwardHolds", spec := "forwardHolds", inPlace := ["internal/bytealg.Compare"], unfollowed := true, recurses := true, named := ["bandplan/blake.initial", "bandplan/blake.order"], apart := false, laid := [("bandplan/blake.order", laid_bandplan_blake_order), ("bandplan/blake.initial", laid_bandplan_blake_initial)], narrowed := true }
def ForwardHoldsUptoSaid : Prop := forwardHoldsUptoRow.holds Tryz.pinned (OpenSpec.upto forwardHoldsSpec)

/-- 'bandplanlaw36.ForwardNew', WHERE WHAT IT READS IS OF BULK AT MOST 1048576: true; the input reads as it did. -/
def forwardNewUptoRow : OpenClaim := { program := "ytmnjbhkcfghebaagreatdoor", sum := "d8faa2fa7956668e387e3a48a3f6a6bb31e1de8f276dcec46e6e63e2602c4007", func := "bandplan/bandplanlaw36.ForwardNew", spec := "forwardNew", inPlace := ["internal/bytealg.Compare"], unfollowed := true, recurses := true, named := ["bandplan/blake.initial", "bandplan/blake.order"], apart := false, laid := [("bandplan/blake.order", laid_bandplan_blake_order), ("bandplan/blake.initial", laid_bandplan_blake_initial)], narrowed := true }
def ForwardNewUptoSaid : Prop := forwardNewUptoRow.holds Tryz.pinned (OpenSpec.upto forwardNewSpec)

/-- 'bandplanlaw36.ForwardRound', WHERE WHAT IT READS IS OF BULK AT MOST 1048576: true; the input reads as it did. -/
def forwardRoundUptoRow : OpenClaim := { program := "ytmnjbhkcfghebaagreatdoor", sum := "d8faa2fa7956668e387e3a48a3f6a6bb31e1de8f276dcec46e6e63e2602c4007", func := "bandplan/bandplanlaw36.ForwardRound", spec := "forwardRound", inPlace := ["internal/bytealg.Compare"], unfollowed := true, recurses := true, named := ["bandplan/blake.initial", "bandplan/blake.order"], apart := false, laid := [("bandplan/blake.order", laid_bandplan_blake_order), ("bandplan/blake.initial", laid_bandplan_blake_initial)], narrowed := true }
def ForwardRoundUptoSaid : Prop := forwardRoundUptoRow.holds Tryz.pinned (OpenSpec.upto forwardRoundSpec)

/-- 'bandplanlaw36.ForwardCopy', WHERE WHAT IT READS IS OF BULK AT MOST 1048576: true; the input reads as it did. -/
def forwardCopyUptoRow : OpenClaim := { program := "ytmnjbhkcfghebaagreatdoor", sum := "d8faa2fa7956668e387e3a48a3f6a6bb31e1de8f276dcec46e6e63e2602c4007", func := "bandplan/bandplanlaw36.ForwardCopy", spec := "forwardCopy", inPlace := ["internal/bytealg.Compare"], unfollowed := true, recurses := true, named := ["bandplan/blake.initial", "bandplan/blake.order"], apart := false, laid := [("bandplan/blake.order", laid_bandplan_blake_order), ("bandplan/blake.initial", laid_bandplan_blake_initial)], narrowed := true }
def ForwardCopyUptoSaid : Prop := forwardCopyUptoRow.holds Tryz.pinned (OpenSpec.upto forwardCopySpec)

/-- 'bandplanlaw37.ClosingOf', WHERE WHAT IT READS IS OF BULK AT MOST 1048576: true; the input reads as it did. -/
def closingOfUptoRow : OpenClaim := { program := "ytmnjbhkcfghebaagreatdoor", sum := "d8faa2fa7956668e387e3a48a3f6a6bb31e1de8f276dcec46e6e63e2602c4007", func := "bandplan/bandplanlaw37.ClosingOf", spec := "closingOf", inPlace := ["internal/bytealg.Compare"], unfollowed := true, recurses := true, named := ["bandplan/blake.initial", "bandplan/blake.order"], apart := false, laid := [("bandplan/blake.order", laid_bandplan_blake_order), ("bandplan/blake.initial", laid_bandplan_blake_initial)], narrowed := true }
def ClosingOfUptoSaid : Prop := closingOfUptoRow.holds Tryz.pinned (OpenSpec.upto closingOfSpec)

/-- 'bandplanlaw36.ForwardEncode', WHERE WHAT IT READS IS OF BULK AT MOST 1048576: true; the input reads as it did. -/
def forwardEncodeUptoRow : OpenClaim := { program := "ytmnjbhkcfghebaagreatdoor", sum := "d8faa2fa7956668e387e3a48a3f6a6bb31e1de8f276dcec46e6e63e2602c4007", func := "bandplan/bandplanlaw36.ForwardEncode", spec := "forwardEncode", inPlace := ["internal/bytealg.Compare"], unfollowed := true, recurses := true, named := ["bandplan/blake.initial", "bandplan/blake.order"], apart := false, laid := [("bandplan/blake.order", laid_bandplan_blake_order), ("bandplan/blake.initial", laid_bandplan_blake_initial)], narrowed := true }
def ForwardEncodeUptoSaid : Prop := forwardEncodeUptoRow.holds Tryz.pinned (OpenSpec.upto forwardEncodeSpec)

/-- 'bandplanlaw36.ForwardDecode', WHERE WHAT IT READS IS OF BULK AT MOST 1048576: true; the input reads as it did. -/
def forwardDecodeUptoRow : OpenClaim := { program := "ytmnjbhkcfghebaagreatdoor", sum := "d8faa2fa7956668e387e3a48a3f6a6bb31e1de8f276dcec46e6e63e2602c4007", func := "bandplan/bandplanlaw36.ForwardDecode", spec := "forwardDecode", inPlace := ["internal/bytealg.Compare"], unfollowed := true, recurses := true, named := ["bandplan/blake.initial", "bandplan/blake.order"], apart := false, laid := [("bandplan/blake.order", laid_bandplan_blake_order), ("bandplan/blake.initial", laid_bandplan_blake_initial)], narrowed := true }
def ForwardDecodeUptoSaid : Prop := forwardDecodeUptoRow.holds Tryz.pinned (OpenSpec.upto forwardDecodeSpec)

end Rows
end Go.Proofs.YtmnjbhkcfghebaaGreatDoor
