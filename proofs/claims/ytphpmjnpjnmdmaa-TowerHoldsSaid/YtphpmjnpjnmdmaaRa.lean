/- Records of weeks at places. -/
import Derived.Test.YtphpmjnpjnmdmaaK4
set_option maxRecDepth 100000
set_option maxHeartbeats 4000000
set_option linter.unusedSimpArgs false
set_option linter.unusedVariables false
set_option linter.unusedSectionVars false
namespace Go.Proofs.Ytphpmjnpjnmdmaa
open Go.RowKit
def u8s (c : List Nat) : List Value := c.map fun (z : Nat) => .int .u8 (z : Int)
theorem u8s_snoc (c : List Nat) : u8s c ++ List.replicate 64 (.int .u8 0) = u8s (c ++ List.replicate 64 0) := by simp [u8s]
theorem u8s_set (c : List Nat) (k z : Nat) : (u8s c).set k (.int .u8 (z : Int)) = u8s (c.set k z) := by simp [u8s, List.map_set]
theorem u8s_len (c : List Nat) : (u8s c).length = c.length := by simp [u8s]
theorem u8s_get {c : List Nat} {k : Nat} (h : k < c.length) : (u8s c)[k]? = some (.int .u8 ((c.getD k 0 : Nat) : Int)) := by simp [u8s, h]
theorem getD_zeros (c : List Nat) (m j : Nat) : (c ++ List.replicate m 0).getD j 0 = c.getD j 0 := by
  simp only [List.getD_eq_getElem?_getD, List.getElem?_append]
  split
  · rfl
  · rename_i h
    rw [List.getElem?_eq_none (l := c) (by omega), List.getElem?_replicate]
    split <;> rfl
theorem getD_set (c : List Nat) (k j z : Nat) (h : k < c.length) : (c.set k z).getD j 0 = if j = k then z else c.getD j 0 := by
  simp only [List.getD_eq_getElem?_getD, List.getElem?_set]
  by_cases e : k = j
  · subst e; simp [h]
  · rw [if_neg e, if_neg (fun h => e h.symm)]
theorem rec_form {w : World} {v : Value} {nb : Nat} {c : List Nat} (h : (Ent.sl v 98 64 nb (u8s c)).ok w) : c.length = nb * 64 ∧ ∃ A cap, v = .slice A nb cap ∧ (0 < nb → ∃ g, A = some ⟨g, 0, none⟩ ∧ ∀ j, j < nb * 64 → w.cell? ⟨g, j, none⟩ = (u8s c)[j]?) := by
  have h' := Ent.sl_ok.1 h
  refine ⟨by rw [← u8s_len]; exact h'.1, ?_⟩
  rcases h'.2 with ⟨rfl, rfl⟩ | ⟨g, cap, cur, rfl, _⟩
  · exact ⟨none, 0, rfl, fun h => by omega⟩
  · exact ⟨_, cap, rfl, fun _ => ⟨g, rfl, fun j hj => World.ownsRow.cellAt h' j hj⟩⟩
theorem Hp.keepOk {B w : World} {hs : HS} (hw : Hp B (fun _ => False) hs w) {e : Ent} (h : e.ok B) : e.ok w := e.loc (fun g hg => hw.base g (e.lt h g hg) (fun h => h)) h
end Go.Proofs.Ytphpmjnpjnmdmaa
