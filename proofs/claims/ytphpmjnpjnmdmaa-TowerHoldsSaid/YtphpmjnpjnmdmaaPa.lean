/- Plain: sums over the places of moves; the greatest of some numbers. -/
import Derived.Test.YtphpmjnpjnmdmaaD
set_option maxRecDepth 100000
set_option maxHeartbeats 4000000
set_option linter.unusedSimpArgs false
set_option linter.unusedVariables false
set_option linter.unusedSectionVars false
namespace Go.Proofs.Ytphpmjnpjnmdmaa
def hp (xs : List Mv) (s : Nat) : Pl := plOf (nth xs (s / 2)) (s % 2)
/-- The sum of f over the first s half steps at a place. -/
def SS (xs : List Mv) (f : Mv → Int) : Nat → Pl → Int
  | 0, _ => 0
  | s + 1, q => SS xs f s q + if hp xs s = q then f (nth xs (s / 2)) else 0
def RT (xs : List Mv) (f : Mv → Int) : Nat → Int → Int
  | 0, _ => 0
  | n + 1, id => RT xs f n id + if (nth xs n).tw = id then f (nth xs n) else 0
def RC (xs : List Mv) (f : Mv → Int) : Nat → Int → Int
  | 0, _ => 0
  | n + 1, id => RC xs f n id + if (nth xs n).cr = id then f (nth xs n) else 0
def RP (xs : List Mv) (f : Mv → Int) (n : Nat) (q : Pl) : Int := if q.1 = true then RC xs f n q.2 else RT xs f n q.2
theorem hp_even (xs : List Mv) (k : Nat) : hp xs (2 * k) = plOf (nth xs k) 0 := by
  unfold hp; rw [show 2 * k / 2 = k from by omega, show 2 * k % 2 = 0 from by omega]
theorem hp_odd (xs : List Mv) (k : Nat) : hp xs (2 * k + 1) = plOf (nth xs k) 1 := by
  unfold hp; rw [show (2 * k + 1) / 2 = k from by omega, show (2 * k + 1) % 2 = 1 from by omega]
theorem hp_at (xs : List Mv) (k i : Nat) (hi : i < 2) : hp xs (2 * k + i) = plOf (nth xs k) i := by
  match i, hi with
  | 0, _ => exact hp_even xs k
  | 1, _ => exact hp_odd xs k
theorem plOf_zero (m : Mv) : plOf m 0 = (false, m.tw) := rfl
theorem plOf_one (m : Mv) : plOf m 1 = (true, m.cr) := rfl
theorem SS_RP (xs : List Mv) (f : Mv → Int) : ∀ (n : Nat) (q : Pl), SS xs f (2 * n) q = RP xs f n q
  | 0, q => by simp [SS, RP, RT, RC]
  | n + 1, q => by
    rw [show 2 * (n + 1) = 2 * n + 1 + 1 from by omega, SS, SS, SS_RP xs f n q, hp_even, hp_odd, plOf_zero, plOf_one, show (2 * n + 1) / 2 = n from by omega, show 2 * n / 2 = n from by omega]
    obtain ⟨b, id⟩ := q
    cases b
    · simp [RP, RT]
    · simp [RP, RC]
section
variable {xs : List Mv} {f : Mv → Int} (hf : ∀ j, j < xs.length → 0 ≤ f (nth xs j))
include hf
theorem SS_le : ∀ (n m : Nat), m ≤ n → n ≤ 2 * xs.length → ∀ q, SS xs f m q ≤ SS xs f n q
  | 0, m, h, _, q => by rw [show m = 0 from by omega]; exact Int.le_refl _
  | n + 1, m, h, hn, q => by
    rcases Nat.lt_or_ge n m with e | e
    · rw [show m = n + 1 from by omega]; exact Int.le_refl _
    · have h1 := SS_le n m e (by omega) q
      have h2 := hf (n / 2) (by omega)
      rw [SS]
      split <;> omega
theorem SS_last : ∀ (n : Nat), n ≤ 2 * xs.length → ∀ t, t < n → ∃ s, t ≤ s ∧ s < n ∧ hp xs s = hp xs t ∧ SS xs f (s + 1) (hp xs t) = SS xs f n (hp xs t)
  | 0, _, t, ht => by omega
  | n + 1, hn, t, ht => by
    by_cases e : hp xs n = hp xs t
    · exact ⟨n, by omega, by omega, e, rfl⟩
    · have htn : t < n := by
        rcases Nat.lt_or_ge t n with h | h
        · exact h
        · have : t = n := by omega
          subst this; exact absurd rfl e
      obtain ⟨s, h1, h2, h3, h4⟩ := SS_last n (by omega) t htn
      refine ⟨s, h1, by omega, h3, ?_⟩
      rw [h4]
      show _ = SS xs f n (hp xs t) + _
      rw [if_neg e]; omega
theorem SS_nonneg (n : Nat) (hn : n ≤ 2 * xs.length) (q : Pl) : 0 ≤ SS xs f n q := SS_le hf n 0 (by omega) hn q
/-- A bound at each step is a bound for the whole. -/
theorem SS_bound (c : Pl → Int) : (∀ s, s < 2 * xs.length → SS xs f (s + 1) (hp xs s) ≤ c (hp xs s)) ↔ (∀ s, s < 2 * xs.length → SS xs f (2 * xs.length) (hp xs s) ≤ c (hp xs s)) := by
  constructor
  · intro h s hs
    obtain ⟨t, h1, h2, h3, h4⟩ := SS_last hf (2 * xs.length) (by omega) s hs
    rw [← h4, ← h3]
    exact h t h2
  · intro h s hs
    exact Int.le_trans (SS_le hf _ _ (by omega) (by omega) _) (h s hs)
end
/-- The least number of weeks for so much work at a capacity. -/
def ceilD (a c : Int) : Int := (a + c - 1) / c
theorem ceilD_le {a b c : Int} (hc : 1 ≤ c) (h : a ≤ b) : ceilD a c ≤ ceilD b c := Int.ediv_le_ediv (by omega) (by omega)
theorem ceilD_spec {a c n : Int} (hc : 1 ≤ c) : ceilD a c ≤ n ↔ a ≤ n * c := by
  unfold ceilD
  constructor
  · intro h
    have h1 : (a + c - 1) / c < n + 1 := by omega
    have h2 := (Int.ediv_lt_iff_lt_mul (by omega)).1 h1
    rw [Int.add_mul] at h2
    omega
  · intro h
    have : (a + c - 1) / c < n + 1 := (Int.ediv_lt_iff_lt_mul (by omega)).2 (by rw [Int.add_mul]; omega)
    omega
/-- The greatest of 0 and the first n values of g. -/
def mx (g : Nat → Int) : Nat → Int
  | 0 => 0
  | n + 1 => max (mx g n) (g n)
theorem le_mx (g : Nat → Int) : ∀ n k, k < n → g k ≤ mx g n
  | 0, k, h => by omega
  | n + 1, k, h => by
    rw [mx]
    rcases Nat.lt_or_ge k n with e | e
    · have := le_mx g n k e; omega
    · obtain rfl : k = n := by omega
      omega
theorem mx_nonneg (g : Nat → Int) : ∀ n, 0 ≤ mx g n
  | 0 => Int.le_refl _
  | n + 1 => by have := mx_nonneg g n; rw [mx]; omega
theorem mx_le (g : Nat → Int) (b : Int) (hb : 0 ≤ b) : ∀ n, (∀ k, k < n → g k ≤ b) → mx g n ≤ b
  | 0, _ => hb
  | n + 1, h => by
    have h1 := mx_le g b hb n (fun k hk => h k (by omega))
    have h2 := h n (by omega)
    rw [mx]; omega
end Go.Proofs.Ytphpmjnpjnmdmaa
