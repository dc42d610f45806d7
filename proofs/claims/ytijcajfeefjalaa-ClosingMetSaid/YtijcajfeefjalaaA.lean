/- Contracts of the functions of package closing and of its reference. -/
import Derived.Test.YtijcajfeefjalaaRows
import Derived.WalkKit
import Derived.ProofKit
import Derived.OpenShut
import Derived.Outline
import Derived.Handy
import Derived.Deep.QuietTactic
import Derived.BigQuiet
import Derived.Lib.Hide
namespace Go.Proofs.Ytijcajfeefjalaa
open Go.ChangeShapes Go.WideShapes Go.ChangeAt Go.RowKit

def inB (n l : Int) : Bool := decide (0 ≤ n ∧ n ≤ l)
set_option maxHeartbeats 400000
theorem within_any (n l : Int) (w : World) :
    Calls Try.prog 18 #[.int .i64 n, .int .i64 l] w fun e w' => e = .returned (.bool (inB n l)) ∧ w = w' := by
  go_enter Try.func18, Try.ntmps18
  go_wp2
  all_goals go_ret
  · have h : 0 ≤ n := by assumption
    exact ⟨by simp [inB, h], rfl⟩
  · have h : n < 0 := by assumption
    exact ⟨by simp [inB]; omega, rfl⟩

def termsB (f b : Int) : Bool := inB f 1125899906842624 && inB b 1000000000
theorem bcell {W w1 : World} (hb : Below W.heap.size W w1) : (∀ b o, b < W.heap.size → w1.cell? ⟨b, o, none⟩ = W.cell? ⟨b, o, none⟩) ∧ (∀ b o, b < W.heap.size → w1.frozen? ⟨b, o, none⟩ = W.frozen? ⟨b, o, none⟩) :=
  ⟨fun b o h => hb.cell (p := ⟨b, o, none⟩) h, fun b o h => hb.frozen (p := ⟨b, o, none⟩) h⟩
theorem ret_bool {a b : Bool} (h : a = b) : Ending.returned (.bool a) = .returned (.bool b) := by rw [h]
theorem ret_int2 {a b c d : Int} (h : a = b) (h' : c = d) : Ending.returned (.tuple #[.int .i64 a, .int .i64 c]) = .returned (.tuple #[.int .i64 b, .int .i64 d]) := by rw [h, h']

theorem validTerms_any (f b : Int) (w : World) :
    Calls Try.prog 9 #[.agg #[.int .i64 f, .int .i64 b]] w fun e w' => e = .returned (.bool (termsB f b)) ∧ Below w.heap.size w w' := by
  go_enter Try.func9, Try.ntmps9
  go_wp2_with (go_at_call 18; refine (within_any _ _ _).mono ?_; rintro e w' ⟨rfl, rfl⟩)
  all_goals go_ret
  all_goals exact ⟨ret_bool (by simp [termsB, *]), by go_grown⟩
theorem refTerms_any (f b : Int) (w : World) :
    Calls Try.prog 10 #[.agg #[.int .i64 f, .int .i64 b]] w fun e w' => e = .returned (.bool (termsB f b)) ∧ Below w.heap.size w w' := by
  go_enter Try.func10, Try.ntmps10
  go_wp2
  all_goals go_ret
  all_goals exact ⟨ret_bool (by simp only [termsB, inB]; rw [Bool.eq_iff_iff]; simp; omega), by go_grown⟩

def neededOk (f b c u : Int) : Bool := termsB f b && inB c 1125899906842624 && inB u 2457600000
def neededV (f b c u : Int) : Int := if neededOk f b c u then max (c + f) (b * u) else 0
def neededE (f b c u : Int) : Int := if neededOk f b c u then 0 else 2
theorem mul_bd {b u : Int} (h1 : 0 ≤ b) (h2 : b ≤ 1000000000) (h3 : 0 ≤ u) (h4 : u ≤ 2457600000) : 0 ≤ b * u ∧ b * u ≤ 2457600000000000000 :=
  ⟨Int.mul_nonneg h1 h3, by have := Int.mul_le_mul h2 h4 h3 (by omega); omega⟩
theorem inB_iff {n l : Int} : inB n l = true ↔ 0 ≤ n ∧ n ≤ l := by simp [inB]
theorem neededV_ok {f b c u : Int} (h : neededOk f b c u = true) : neededV f b c u = max (c + f) (b * u) := by simp [neededV, h]
theorem needed_no {f b c u : Int} (h : neededOk f b c u = false) : neededV f b c u = 0 ∧ neededE f b c u = 2 := by simp [neededV, neededE, h]
theorem needed_yes {f b c u : Int} (h : neededOk f b c u = true) : neededE f b c u = 0 := by simp [neededE, h]
theorem neededOk_bd {f b c u : Int} (h : neededOk f b c u = true) : (0 ≤ f ∧ f ≤ 1125899906842624) ∧ (0 ≤ b ∧ b ≤ 1000000000) ∧ (0 ≤ c ∧ c ≤ 1125899906842624) ∧ (0 ≤ u ∧ u ≤ 2457600000) := by
  simpa [neededOk, termsB, inB, and_assoc] using h
theorem needed_any (f b c u : Int) (w : World) :
    Calls Try.prog 7 #[.agg #[.int .i64 f, .int .i64 b], .int .i64 c, .int .i64 u] w fun e w' =>
      e = .returned (.tuple #[.int .i64 (neededV f b c u), .int .i64 (neededE f b c u)]) ∧ Below w.heap.size w w' := by
  cases hok : neededOk f b c u with
  | true =>
    have H := Lib.hid (neededV_ok hok)
    have H2 := Lib.hid (needed_yes hok)
    obtain ⟨h1, h2, h3, h4⟩ := neededOk_bd hok
    have h5 := mul_bd h2.1 h2.2 h4.1 h4.2
    have g1 : termsB f b = true := by simp [termsB, inB, h1, h2]
    have g2 : inB c 1125899906842624 = true := by simp [inB, h3]
    have g3 : inB u 2457600000 = true := by simp [inB, h4]
    clear hok
    go_enter Try.func7, Try.ntmps7
    go_wp2_with fail
    refine (validTerms_any _ _ _).mono ?_
    rintro e w1 ⟨rfl, hb⟩
    obtain ⟨hc, hf⟩ := bcell hb
    go_wp2_with (go_at_call 18; refine (within_any _ _ _).mono ?_; rintro e w' ⟨rfl, rfl⟩)
    all_goals go_ret2
    all_goals refine ⟨ret_int2 (by rw [H.out]; omega) (by rw [H2.out]), ((Below.refl _ _).alloc (Nat.le_refl _) _).trans (hb.mono (by simp))⟩
  | false =>
    obtain ⟨e1, e2⟩ := needed_no hok
    have H := Lib.hid e1
    have H2 := Lib.hid e2
    have hk : Hid (neededOk f b c u = false) := hok
    clear hok e1 e2
    go_enter Try.func7, Try.ntmps7
    go_wp2_with fail
    refine (validTerms_any _ _ _).mono ?_
    rintro e w1 ⟨rfl, hb⟩
    obtain ⟨hc, hf⟩ := bcell hb
    cases h1 : termsB f b <;> cases h2 : inB c 1125899906842624 <;> cases h3 : inB u 2457600000
    case true.true.true => exact absurd hk.out (by simp [neededOk, h1, h2, h3])
    all_goals go_wp2_with (go_at_call 18; refine (within_any _ _ _).mono ?_; rintro e w' ⟨rfl, rfl⟩)
    all_goals go_ret2
    all_goals exact ⟨ret_int2 (by rw [H.out]) (by rw [H2.out]), ((Below.refl _ _).alloc (Nat.le_refl _) _).trans (hb.mono (by simp))⟩
theorem refNeeded_any (f b c u : Int) (w : World) :
    Calls Try.prog 8 #[.agg #[.int .i64 f, .int .i64 b], .int .i64 c, .int .i64 u] w fun e w' =>
      e = .returned (.tuple #[.int .i64 (neededV f b c u), .int .i64 (neededE f b c u)]) ∧ Below w.heap.size w w' := by
  cases hok : neededOk f b c u with
  | true =>
    have H := Lib.hid (neededV_ok hok)
    have H2 := Lib.hid (needed_yes hok)
    obtain ⟨h1, h2, h3, h4⟩ := neededOk_bd hok
    have h5 := mul_bd h2.1 h2.2 h4.1 h4.2
    have g1 : termsB f b = true := by simp [termsB, inB, h1, h2]
    clear hok
    go_enter Try.func8, Try.ntmps8
    go_wp2_with fail
    refine (refTerms_any _ _ _).mono ?_
    rintro e w1 ⟨rfl, hb⟩
    obtain ⟨hc, hf⟩ := bcell hb
    go_wp2
    all_goals go_ret2
    all_goals exact ⟨ret_int2 (by rw [H.out]; omega) (by rw [H2.out]), ((Below.refl _ _).alloc (Nat.le_refl _) _).trans (hb.mono (by simp))⟩
  | false =>
    obtain ⟨e1, e2⟩ := needed_no hok
    have H := Lib.hid e1
    have H2 := Lib.hid e2
    have hk : Hid (neededOk f b c u = false) := hok
    clear hok e1 e2
    go_enter Try.func8, Try.ntmps8
    go_wp2_with fail
    refine (refTerms_any _ _ _).mono ?_
    rintro e w1 ⟨rfl, hb⟩
    obtain ⟨hc, hf⟩ := bcell hb
    cases h1 : termsB f b
    · go_wp2
      go_ret2
      exact ⟨ret_int2 (by rw [H.out]) (by rw [H2.out]), ((Below.refl _ _).alloc (Nat.le_refl _) _).trans (hb.mono (by simp))⟩
    · have hn : c < 0 ∨ 1125899906842624 < c ∨ u < 0 ∨ 2457600000 < u := by
        have := hk.out; simp [neededOk, h1, inB] at this; omega
      go_wp2
      all_goals go_ret2
      all_goals exact ⟨ret_int2 (by rw [H.out]) (by rw [H2.out]), ((Below.refl _ _).alloc (Nat.le_refl _) _).trans (hb.mono (by simp))⟩
end Go.Proofs.Ytijcajfeefjalaa
