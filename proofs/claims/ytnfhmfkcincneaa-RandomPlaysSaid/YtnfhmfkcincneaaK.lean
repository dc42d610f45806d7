/- A shuffled list holds each number once; a row of bools. -/
import Derived.Test.YtnfhmfkcincneaaG
namespace Go.Proofs.Ytnfhmfkcincneaa
open Go.ChangeShapes Go.WideShapes Go.ChangeAt Go.RowKit Go.Deep

/-- Each number below n stands in the list at most once, and no other does. -/
structure Once (n : Nat) (l : List Int) : Prop where
  len : l.length = n
  bd : ∀ k, k < n → 0 ≤ l[k]?.getD 0 ∧ l[k]?.getD 0 < (n : Int)
  inj : ∀ a b, a < n → b < n → l[a]?.getD 0 = l[b]?.getD 0 → a = b
theorem swapL_get (l : List Int) (i j k : Nat) (hi : i < l.length) (hj : j < l.length) :
    (swapL l i j)[k]?.getD 0 = if k = j then l[i]?.getD 0 else if k = i then l[j]?.getD 0 else l[k]?.getD 0 := by
  unfold swapL
  simp only [List.getElem?_set, List.length_set, List.getD_eq_getElem?_getD]
  by_cases h1 : k = j
  · subst h1; simp [hj]
  · by_cases h2 : k = i
    · subst h2; simp [hi, h1, Ne.symm h1]
    · simp [h1, h2, Ne.symm h1, Ne.symm h2]
theorem Once.swap {n : Nat} {l : List Int} (h : Once n l) {i j : Nat} (hi : i < n) (hj : j < n) : Once n (swapL l i j) := by
  have hl := h.len
  have hg := fun k => swapL_get l i j k (by omega) (by omega)
  refine ⟨by rw [swapL_length, hl], fun k hk => ?_, fun a b ha hb hab => ?_⟩
  · rw [hg]
    by_cases h1 : k = j
    · rw [if_pos h1]; exact h.bd i hi
    · by_cases h2 : k = i
      · rw [if_neg h1, if_pos h2]; exact h.bd j hj
      · rw [if_neg h1, if_neg h2]; exact h.bd k hk
  · rw [hg, hg] at hab
    by_cases a1 : a = j
    · rw [if_pos a1] at hab
      by_cases b1 : b = j
      · omega
      · rw [if_neg b1] at hab
        by_cases b2 : b = i
        · rw [if_pos b2] at hab; have := h.inj _ _ hi hj hab; omega
        · rw [if_neg b2] at hab; have := h.inj _ _ hi hb hab; omega
    · rw [if_neg a1] at hab
      by_cases a2 : a = i
      · rw [if_pos a2] at hab
        by_cases b1 : b = j
        · rw [if_pos b1] at hab; have := h.inj _ _ hj hi hab; omega
        · rw [if_neg b1] at hab
          by_cases b2 : b = i
          · omega
          · rw [if_neg b2] at hab; have := h.inj _ _ hj hb hab; omega
      · rw [if_neg a2] at hab
        by_cases b1 : b = j
        · rw [if_pos b1] at hab; have := h.inj _ _ ha hi hab; omega
        · rw [if_neg b1] at hab
          by_cases b2 : b = i
          · rw [if_pos b2] at hab; have := h.inj _ _ ha hj hab; omega
          · rw [if_neg b2] at hab; exact h.inj _ _ ha hb hab
theorem Once.upTo (n : Nat) : Once n (upTo n) := by
  have hg : ∀ k, k < n → (Go.Proofs.Ytnfhmfkcincneaa.upTo n)[k]?.getD 0 = (k : Int) := fun k hk => by simp [Go.Proofs.Ytnfhmfkcincneaa.upTo, hk]
  refine ⟨upTo_length n, fun k hk => ?_, fun a b ha hb hab => ?_⟩
  · rw [hg k hk]; omega
  · rw [hg a ha, hg b hb] at hab; omega
theorem Once.go {n : Nat} : ∀ (k : Nat) (s : Int) (l : List Int), k < n → Once n l → Once n (shufGo k s l).2
  | 0, _, _, _, h => h
  | k + 1, s, l, hk, h => by
    unfold shufGo
    have hv := numV_bd (n := (k : Int) + 1 + 1) (by omega) s
    exact Once.go k _ _ (by omega) (h.swap (by omega) (by omega))
theorem shufL_once (n : Nat) (s : Int) : Once n (shufL n s) := by
  unfold shufL
  by_cases h : n = 0
  · subst h; exact Once.upTo 0
  · exact Once.go _ _ _ (by omega) (Once.upTo n)

/-- A row of n bools. -/
def bvs (f : Nat → Bool) (n : Nat) : Array Value := ((List.range n).map fun i => Value.bool (f i)).toArray
theorem bvs_get {f : Nat → Bool} {n i : Nat} (h : i < n) : (bvs f n)[i]? = some (.bool (f i)) := by simp [bvs, h]
theorem bvs_zeros (n : Nat) : madeCells #[Value.bool false] n = bvs (fun _ => false) n := by
  apply Array.ext
  · simp [madeCells, bvs]
  · intro i h1 h2
    simp [madeCells, bvs, Nat.mod_one]
theorem bvs_set (f : Nat → Bool) (n x : Nat) : (bvs f n).setIfInBounds x (.bool true) = bvs (fun y => f y || y == x) n := by
  apply Array.ext
  · simp [bvs]
  · intro i h1 h2
    simp only [bvs, List.setIfInBounds_toArray, List.getElem_toArray, List.getElem_set, List.getElem_map, List.getElem_range]
    by_cases h : x = i
    · subst h; simp
    · simp [h, Ne.symm h]
end Go.Proofs.Ytnfhmfkcincneaa
