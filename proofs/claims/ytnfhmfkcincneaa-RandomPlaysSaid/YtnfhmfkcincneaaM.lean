/- Plain facts on the mixing function of package random, and on the search for an acceptable word. No program. -/
import Derived.WalkKit
import Derived.Lib.Hide
namespace Go.Proofs.Ytnfhmfkcincneaa

def stepS (s : Int) : Int := IntKind.u64.wrap (s + 11400714819323198485)
def mixA (z : Int) : Int := IntKind.u64.wrap (bits .xor .u64 z (z / 1073741824) * 13787848793156543929)
def mixB (z : Int) : Int := IntKind.u64.wrap (bits .xor .u64 z (z / 134217728) * 10723151780598845931)
def mixC (z : Int) : Int := bits .xor .u64 z (z / 2147483648)
def wordOf (s : Int) : Int := mixC (mixB (mixA (stepS s)))

theorem stepS_eq (s : Int) : stepS s = (s + 11400714819323198485) % 18446744073709551616 := by
  simp [stepS, IntKind.wrap_u64]
theorem stepS_bd (s : Int) : 0 ≤ stepS s ∧ stepS s < 18446744073709551616 := by rw [stepS_eq]; omega
theorem wrap_bd (z : Int) : 0 ≤ IntKind.u64.wrap z ∧ IntKind.u64.wrap z < 18446744073709551616 := by
  rw [IntKind.wrap_u64]; omega
theorem bits_bd (op : BinOp) (a b : Int) : 0 ≤ bits op .u64 a b ∧ bits op .u64 a b < 18446744073709551616 := by
  unfold bits
  exact wrap_bd _
theorem wordOf_bd (s : Int) : 0 ≤ wordOf s ∧ wordOf s < 18446744073709551616 := by
  unfold wordOf mixC
  exact bits_bd _ _ _
theorem mix_zero : mixC (mixB (mixA 0)) = 0 := by decide +kernel
theorem word_zero {s : Int} (h : stepS s = 0) : wordOf s = 0 := by unfold wordOf; rw [h]; exact mix_zero

/-- How many steps more until the state is 0. -/
def mu (s : Int) : Nat := (((18446744073709551616 - stepS s) * 17428512612931826493) % 18446744073709551616).toNat
theorem mu_any (M g i k t : Int) (hM : 1 < M) (hg : g * i = 1 + M * k) (h0 : 0 < t) (h1 : t < M) :
    (((M - t) * i) % M).toNat = (((M - (t + g) % M) * i) % M).toNat + 1 := by
  obtain ⟨q, hq⟩ : ∃ q, (t + g) % M = t + g - M * q := ⟨_, Int.emod_def _ _⟩
  rw [hq]
  clear hq
  obtain ⟨d, hd⟩ : ∃ d, (M - t) * i % M = (M - t) * i - M * d := ⟨_, Int.emod_def _ _⟩
  have hlo := Int.emod_nonneg ((M - t) * i) (show M ≠ 0 by omega)
  have hhi := Int.emod_lt_of_pos ((M - t) * i) (show 0 < M by omega)
  generalize (M - t) * i % M = r at *
  have hy : (M - (t + g - M * q)) * i = (r - 1) + M * (d - k + q * i) := by grind
  rw [hy, Int.add_mul_emod_self_left]
  have hne : r ≠ 0 := by
    intro h
    rw [h] at hd
    have he : M - t = M * (d * g - (M - t) * k) := by grind
    generalize d * g - (M - t) * k = e at he
    by_cases h2 : e ≤ 0
    · have := Int.mul_nonneg (show 0 ≤ M by omega) (show 0 ≤ -e by omega)
      rw [Int.mul_neg] at this
      omega
    · have := Int.mul_le_mul_of_nonneg_left (show 1 ≤ e by omega) (show 0 ≤ M by omega)
      omega
  rw [Int.emod_eq_of_lt (by omega) (by omega)]
  omega
theorem mu_step (s : Int) (h : stepS s ≠ 0) : mu s = mu (stepS s) + 1 := by
  have h1 := stepS_bd s
  have h2 := stepS_eq (stepS s)
  unfold mu
  rw [h2]
  exact mu_any 18446744073709551616 11400714819323198485 17428512612931826493 10771413168148108919 _ (by omega) (by decide +kernel) (by omega) (by omega)

/-- Is this word refused? -/
def refused (ex w : Int) : Bool := decide (0 < ex) && decide (18446744073709551616 - ex ≤ w)
/-- The state and the word of the first word that is not refused; at most so many are. -/
def seek (ex : Int) : Nat → Int → Int × Int
  | 0, s => (stepS s, wordOf s)
  | n + 1, s => if refused ex (wordOf s) then seek ex n (stepS s) else (stepS s, wordOf s)
def found (ex s : Int) : Int × Int := seek ex (mu s) s
theorem refused_mu {ex s : Int} (hex : ex < 18446744073709551616) (h : refused ex (wordOf s) = true) : mu s = mu (stepS s) + 1 := by
  refine mu_step s fun h0 => ?_
  rw [word_zero h0] at h
  simp [refused] at h
  omega
theorem found_no {ex s : Int} (hex : ex < 18446744073709551616) (h : refused ex (wordOf s) = true) : found ex s = found ex (stepS s) := by
  unfold found
  rw [refused_mu hex h, seek, if_pos h]
theorem found_yes {ex s : Int} (h : refused ex (wordOf s) = false) : found ex s = (stepS s, wordOf s) := by
  unfold found
  cases hm : mu s with
  | zero => rfl
  | succ n => simp [seek, h]
theorem seek_bd (ex : Int) : ∀ (n : Nat) (s : Int), (0 ≤ (seek ex n s).1 ∧ (seek ex n s).1 < 18446744073709551616) ∧ (0 ≤ (seek ex n s).2 ∧ (seek ex n s).2 < 18446744073709551616)
  | 0, s => ⟨stepS_bd s, wordOf_bd s⟩
  | n + 1, s => by
    unfold seek
    split
    · exact seek_bd ex n _
    · exact ⟨stepS_bd s, wordOf_bd s⟩
theorem found_bd (ex s : Int) : (0 ≤ (found ex s).1 ∧ (found ex s).1 < 18446744073709551616) ∧ (0 ≤ (found ex s).2 ∧ (found ex s).2 < 18446744073709551616) := seek_bd ex _ s

/-- How many of the last words are refused, at a limit. -/
def excess (n : Int) : Int := 18446744073709551616 % n
theorem excess_bd {n : Int} (h : 1 ≤ n) : 0 ≤ excess n ∧ excess n < n := ⟨Int.emod_nonneg _ (by omega), Int.emod_lt_of_pos _ (by omega)⟩
theorem excess_neg (n : Int) : (18446744073709551616 - n) % n = excess n := by
  unfold excess
  rw [Int.sub_emod_right]
theorem excess_ref (n : Int) : (18446744073709551615 % n + 1) % n = excess n := by
  unfold excess
  rw [Int.emod_add_emod]; rfl
/-- The next number below a limit, and the state behind it. -/
def numV (n s : Int) : Int := (found (excess n) s).2 % n
def numS (n s : Int) : Int := (found (excess n) s).1
theorem numV_bd {n : Int} (h : 1 ≤ n) (s : Int) : 0 ≤ numV n s ∧ numV n s < n := ⟨Int.emod_nonneg _ (by omega), Int.emod_lt_of_pos _ (by omega)⟩
theorem numS_bd (n s : Int) : 0 ≤ numS n s ∧ numS n s < 18446744073709551616 := (found_bd _ s).1
end Go.Proofs.Ytnfhmfkcincneaa
