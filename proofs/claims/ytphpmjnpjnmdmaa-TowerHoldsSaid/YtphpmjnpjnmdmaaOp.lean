/- Arguments that are slices of structs of ints. -/
import Derived.Test.YtphpmjnpjnmdmaaTh
import Derived.Deep.Slices
import Derived.ChangeArms
set_option linter.unusedVariables false
set_option linter.unusedSectionVars false
set_option linter.unusedSimpArgs false
namespace Go.Proofs.Ytphpmjnpjnmdmaa
open Go.RowKit Go.ChangeShapes Go.WideShapes Go.Deep
section
variable {H : Type} {enc : TypeId × Value → H} {P : Program} {w : World} {base : Nat} {spare : Nat → Bool} {held : Bool}
def zOf : Value → Int
  | .int _ z => z
  | _ => 0
theorem ints_cells {e : TypeId} {fs : Array Field} {k n : Nat} {cs : List Value} {y : DataW H × List MemPlace} (he : P.underlying e = some (.struct fs)) (hall : ∀ j, j < k → ∃ f, fs[j]? = some f ∧ f.offset = j ∧ P.cellsOf f.type = 1 ∧ P.underlying f.type = some (.int .i64)) (hlen : cs.length = k)
    (h : DataW.trod enc P w base spare held n e cs = some y) : cs = (cs.map zOf).map (.int .i64) := by
  obtain ⟨xs, m, _, _, _, hxl, hf⟩ := DataW.trod_struct he h
  apply List.ext_getElem (by simp)
  intro j h1 h2
  obtain ⟨f, hfj, ho, hc, hu⟩ := hall j (by omega)
  have g := hf j f hfj
  rw [ho, hc] at g
  have hj : j < xs.length := by rw [hxl]; exact (Array.getElem?_eq_some_iff.1 hfj).1
  rw [List.getElem?_eq_getElem hj, List.drop_eq_getElem_cons h1] at g
  obtain ⟨z, hz, _⟩ := DataW.trod_int hu g
  have hz' : cs[j] = .int .i64 z := List.head_eq_of_cons_eq (show cs[j] :: [] = [Value.int .i64 z] from hz)
  rw [List.getElem_map, List.getElem_map, hz']
  rfl
theorem SlOf.map {α β : Type} {v : Value} {enc : α → List Value} {enc' : β → List Value} {size : Nat} {xs : List α} (h : SlOf w v enc size xs) (g : α → β) (hg : ∀ x ∈ xs, enc' (g x) = enc x) : SlOf w v enc' size (xs.map g) := by
  obtain ⟨A, cap, rfl, hc⟩ := h
  refine ⟨A, cap, by simp, fun hl => ?_⟩
  obtain ⟨b, off, rfl, hcs⟩ := hc (by simpa using hl)
  refine ⟨b, off, rfl, fun i hi => ?_⟩
  have := hcs i (by simpa using hi)
  rw [List.getElem_map, hg _ (List.getElem_mem _)]
  exact this
theorem open_recs {t e : TypeId} {fs : Array Field} {k : Nat} {v : Value} {d : DataW H} {ps : List MemPlace} {r : Reach} {b0 : Nat} (ht : P.underlying t = some (.slice e)) (he : P.underlying e = some (.struct fs)) (hk : P.cellsOf e = k) (hpos : 0 < k) (hall : ∀ j, j < k → ∃ f, fs[j]? = some f ∧ f.offset = j ∧ P.cellsOf f.type = 1 ∧ P.underlying f.type = some (.int .i64))
    (hval : Value.okWide P w r b0 t v) (h : DataW.Trod enc P w base spare held t v d ps) : ∃ xs : List (List Int), (∀ x ∈ xs, x.length = k) ∧ xs.length ≤ 9223372036854775807 ∧ SlOf w v (fun x => x.map (.int .i64)) k xs := by
  obtain ⟨fuel, hf⟩ := h
  obtain ⟨A, L, C, rfl⟩ := okWide_slice ht hval
  rcases open_slice ht hf with ⟨h0, _⟩ | ⟨a, len, cap, m, n, D, Pl, hcs, hb, hl, hm, hmm, _, hx⟩
  · simp [Value.cells] at h0
    obtain ⟨rfl, rfl, rfl⟩ := h0
    exact ⟨[], by simp, by simp, none, 0, rfl, fun h => by simp at h⟩
  · simp [Value.cells] at hcs
    obtain ⟨rfl, rfl, rfl⟩ := hcs
    have hlm : L ≤ m := by rw [hmm]; split <;> omega
    have each : ∀ i, i < m → ∃ x : List Int, x.length = k ∧ ∀ j, j < k → w.cell? (a.add (i * k + j)) = (x.map (Value.int .i64))[j]? := fun i hi => by
      obtain ⟨cs', h1, h2⟩ := hx i hi
      rw [hk] at h1
      obtain ⟨_, hlen, hcell⟩ := World.cells?_some h1
      have e := ints_cells he hall hlen h2
      refine ⟨cs'.map zOf, by simpa using hlen, fun j hj => ?_⟩
      rw [← e, ← hcell j hj, add_add]
    obtain ⟨X, hX⟩ := choose_lt each
    refine ⟨(List.range L).map X, fun x hx => ?_, by unfold maxLen at hm; simp; omega, some a, C, by simp, fun hp => ?_⟩
    · simp at hx
      obtain ⟨i, hi, rfl⟩ := hx
      exact (hX i (by omega)).1
    · have hp' : 0 < L := by simpa using hp
      have c0 := (hX 0 (by omega)).2 0 hpos
      have hx0 := (hX 0 (by omega)).1
      rw [List.getElem?_eq_getElem (by simp; omega)] at c0
      have hs := World.cell?_spot c0
      simp [Addr.add] at hs
      obtain ⟨b, off, sp⟩ := a
      simp at hs
      subst hs
      refine ⟨b, off, rfl, fun i hi j hj => ?_⟩
      simp at hi hj
      have hxi := hX i (by omega)
      have := hxi.2 j (by omega)
      simp only [List.getElem_map, List.getElem_range]
      rw [← this]
      unfold Addr.add
      by_cases h0 : i * k + j = 0
      · rw [if_pos h0, show off + i * k + j = off by omega]
      · rw [if_neg h0, show off + i * k + j = off + (i * k + j) by omega]
end
end Go.Proofs.Ytphpmjnpjnmdmaa
