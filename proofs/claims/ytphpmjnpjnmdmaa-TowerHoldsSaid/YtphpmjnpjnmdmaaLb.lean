/- TowerHolds, both cases. -/
import Derived.Test.YtphpmjnpjnmdmaaL4
namespace Go.Proofs.Ytphpmjnpjnmdmaa
open Go.RowKit
theorem towerHolds_ret (xs : List Mv) (ts cs : List Si) (v vt vc : Value) (w : World) (h : MovesAt w v xs) (ht : SitesAt w vt ts) (hcr : SitesAt w vc cs) (hl : xs.length ≤ 9223372036854775807) (hlt : ts.length ≤ 9223372036854775807) (hlc : cs.length ≤ 9223372036854775807) : Calls Try.prog 6 #[v, vt, vc] w fun e w' => e = .returned (.bool true) ∧ Below w.heap.size w w' := by
  by_cases hco : codeOf xs ts cs true = 0
  · exact towerHolds_ok xs ts cs v vt vc w h ht hcr hl hlt hlc hco
  · exact towerHolds_bad xs ts cs v vt vc w h ht hcr hl hlt hlc hco
end Go.Proofs.Ytphpmjnpjnmdmaa
