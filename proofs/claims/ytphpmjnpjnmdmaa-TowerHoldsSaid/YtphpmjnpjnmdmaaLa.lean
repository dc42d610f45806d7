/- The laws' arguments. -/
import Derived.Test.YtphpmjnpjnmdmaaK8
import Derived.Test.YtphpmjnpjnmdmaaOp
set_option maxRecDepth 100000
set_option maxHeartbeats 4000000
set_option linter.unusedSimpArgs false
set_option linter.unusedVariables false
set_option linter.unusedSectionVars false
namespace Go.Proofs.Ytphpmjnpjnmdmaa
open Go.RowKit Go.ChangeShapes Go.WideShapes
def toMv (x : List Int) : Mv := ⟨x.getD 0 0, x.getD 1 0, x.getD 2 0, x.getD 3 0, x.getD 4 0, x.getD 5 0⟩
theorem toMv_cells : ∀ x : List Int, x.length = 6 → (toMv x).cells = x.map (.int .i64)
  | [_, _, _, _, _, _], _ => rfl
def toSi (x : List Int) : Si := ⟨x.getD 0 0, x.getD 1 0⟩
theorem toSi_cells : ∀ x : List Int, x.length = 2 → (toSi x).cells = x.map (.int .i64)
  | [_, _], _ => rfl
def toWk (x : List Int) : Wk := ⟨x.getD 0 0, x.getD 1 0, x.getD 2 0⟩
theorem toWk_cells : ∀ x : List Int, x.length = 3 → (toWk x).cells = x.map (.int .i64)
  | [_, _, _], _ => rfl
section
variable {H : Type} {enc : TypeId × Value → H} {w : World} {base : Nat} {spare : Nat → Bool} {held : Bool} {v : Value} {d : DataW H} {ps : List MemPlace} {r : Reach} {b0 : Nat}
theorem arg_moves (hval : Value.okWide Try.prog w r b0 22 v) (h : DataW.Trod enc Try.prog w base spare held 22 v d ps) : ∃ xs : List Mv, xs.length ≤ 9223372036854775807 ∧ MovesAt w v xs := by
  obtain ⟨xs, h1, h2, h3⟩ := open_recs (k := 6) Try.underlying22 Try.underlying27 (by kernel_rfl) (by decide) (by
    intro j hj
    match j, hj with
    | 0, _ => exact ⟨_, rfl, rfl, by kernel_rfl, Try.underlying3⟩
    | 1, _ => exact ⟨_, rfl, rfl, by kernel_rfl, Try.underlying3⟩
    | 2, _ => exact ⟨_, rfl, rfl, by kernel_rfl, Try.underlying3⟩
    | 3, _ => exact ⟨_, rfl, rfl, by kernel_rfl, Try.underlying3⟩
    | 4, _ => exact ⟨_, rfl, rfl, by kernel_rfl, Try.underlying3⟩
    | 5, _ => exact ⟨_, rfl, rfl, by kernel_rfl, Try.underlying3⟩) hval h
  exact ⟨xs.map toMv, by simpa using h2, h3.map toMv fun x hx => toMv_cells x (h1 x hx)⟩
theorem arg_sites (hval : Value.okWide Try.prog w r b0 23 v) (h : DataW.Trod enc Try.prog w base spare held 23 v d ps) : ∃ xs : List Si, xs.length ≤ 9223372036854775807 ∧ SitesAt w v xs := by
  obtain ⟨xs, h1, h2, h3⟩ := open_recs (k := 2) Try.underlying23 Try.underlying63 (by kernel_rfl) (by decide) (by
    intro j hj
    match j, hj with
    | 0, _ => exact ⟨_, rfl, rfl, by kernel_rfl, Try.underlying3⟩
    | 1, _ => exact ⟨_, rfl, rfl, by kernel_rfl, Try.underlying3⟩) hval h
  exact ⟨xs.map toSi, by simpa using h2, h3.map toSi fun x hx => toSi_cells x (h1 x hx)⟩
theorem arg_works (hval : Value.okWide Try.prog w r b0 38 v) (h : DataW.Trod enc Try.prog w base spare held 38 v d ps) : ∃ xs : List Wk, xs.length ≤ 9223372036854775807 ∧ WorksAt w v xs := by
  obtain ⟨xs, h1, h2, h3⟩ := open_recs (k := 3) Try.underlying38 Try.underlying51 (by kernel_rfl) (by decide) (by
    intro j hj
    match j, hj with
    | 0, _ => exact ⟨_, rfl, rfl, by kernel_rfl, Try.underlying3⟩
    | 1, _ => exact ⟨_, rfl, rfl, by kernel_rfl, Try.underlying3⟩
    | 2, _ => exact ⟨_, rfl, rfl, by kernel_rfl, Try.underlying3⟩) hval h
  exact ⟨xs.map toWk, by simpa using h2, h3.map toWk fun x hx => toWk_cells x (h1 x hx)⟩
end
end Go.Proofs.Ytphpmjnpjnmdmaa
