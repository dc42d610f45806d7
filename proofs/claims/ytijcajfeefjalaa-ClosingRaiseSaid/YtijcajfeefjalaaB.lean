/- Contracts of Missing, Met and Raise, of the program and of its reference. -/
import Derived.Test.YtijcajfeefjalaaA
namespace Go.Proofs.Ytijcajfeefjalaa
open Go.ChangeShapes Go.WideShapes Go.ChangeAt Go.RowKit
set_option maxHeartbeats 400000
theorem neededV_bd (f b c u : Int) : 0 ≤ neededV f b c u ∧ neededV f b c u ≤ 2457600000000000000 := by
  cases h : neededOk f b c u with
  | true =>
    obtain ⟨h1, h2, h3, h4⟩ := neededOk_bd h
    have h5 := mul_bd h2.1 h2.2 h4.1 h4.2
    rw [neededV_ok h]; omega
  | false => rw [(needed_no h).1]; omega
theorem ret_bi {a b : Bool} {c d : Int} (h : a = b) (h' : c = d) : Ending.returned (.tuple #[.bool a, .int .i64 c]) = .returned (.tuple #[.bool b, .int .i64 d]) := by rw [h, h']
def missOk (f b c u p : Int) : Bool := neededOk f b c u && inB p 1125899906842624
def missV (f b c u p : Int) : Int := if missOk f b c u p then max (neededV f b c u - p) 0 else 0
def missE (f b c u p : Int) : Int := if missOk f b c u p then 0 else 2
def metB (f b c u p : Int) : Bool := missOk f b c u p && missV f b c u p == 0
def raiseFind (p n : Int) : Nat → Nat → Option Nat
  | 0, _ => none
  | fuel + 1, k => if n ≤ p * (100 + (k : Int)) / 100 then some k else raiseFind p n fuel (k + 1)
def raiseV (f b c u p : Int) : Int := if missOk f b c u p then ((raiseFind p (neededV f b c u) 1001 0).getD 0 : Nat) else 0
def raiseE (f b c u p : Int) : Int := if missOk f b c u p then (if (raiseFind p (neededV f b c u) 1001 0).isSome then 0 else 9) else 2
theorem inB_false {n l : Int} (h : inB n l = false) : n < 0 ∨ l < n := by simp [inB] at h; omega
theorem raise_mul (p : Int) (k : Nat) (h1 : 0 ≤ p) (h2 : p ≤ 1125899906842624) (h3 : k ≤ 1000) : 0 ≤ p * (100 + (k : Int)) ∧ p * (100 + (k : Int)) ≤ 1238489897526886400 :=
  ⟨Int.mul_nonneg h1 (by omega), by have := Int.mul_le_mul h2 (show (100 + (k : Int)) ≤ 1100 by omega) (by omega) (by omega); omega⟩
theorem raiseFind_yes {p n : Int} {k fuel : Nat} (h : n ≤ p * (100 + (k : Int)) / 100) : raiseFind p n (fuel + 1) k = some k := by simp [raiseFind, h]
theorem raiseFind_no {p n : Int} {k fuel : Nat} (h : ¬ n ≤ p * (100 + (k : Int)) / 100) : raiseFind p n (fuel + 1) k = raiseFind p n fuel (k + 1) := by simp [raiseFind, h]
theorem raise_fin {f b c u p : Int} (k : Nat) (hok : missOk f b c u p = true) (h : raiseFind p (neededV f b c u) 1001 0 = some k) : raiseV f b c u p = k ∧ raiseE f b c u p = 0 := by
  simp [raiseV, raiseE, hok, h]
theorem raise_fin9 {f b c u p : Int} (hok : missOk f b c u p = true) (h : raiseFind p (neededV f b c u) 1001 0 = none) : raiseV f b c u p = 0 ∧ raiseE f b c u p = 9 := by
  simp [raiseV, raiseE, hok, h]
theorem raise_fin2 {f b c u p : Int} (hok : missOk f b c u p = false) : raiseV f b c u p = 0 ∧ raiseE f b c u p = 2 := by
  simp [raiseV, raiseE, hok]

theorem progMissing (f b c u p : Int) (w : World) :
    Calls Try.prog 12 #[.agg #[.int .i64 f, .int .i64 b], .int .i64 c, .int .i64 u, .int .i64 p] w fun e w' =>
      e = .returned (.tuple #[.int .i64 (missV f b c u p), .int .i64 (missE f b c u p)]) ∧ Below w.heap.size w w' := by
  have hv : missOk f b c u p = true → missV f b c u p = max (neededV f b c u - p) 0 ∧ missE f b c u p = 0 := fun h => by simp [missV, missE, h]
  have hn : missOk f b c u p = false → missV f b c u p = 0 ∧ missE f b c u p = 2 := fun h => by simp [missV, missE, h]
  have hbd := neededV_bd f b c u
  have he0 : neededOk f b c u = true → neededE f b c u = 0 := needed_yes
  have he2 : neededOk f b c u = false → neededE f b c u = 2 := fun h => (needed_no h).2
  have HV := Lib.hid hv
  have HN := Lib.hid hn
  have H0 := Lib.hid he0
  have H2 := Lib.hid he2
  clear hv hn he0 he2
  go_enter Try.func12, Try.ntmps12
  go_wp2_with fail
  refine (needed_any _ _ _ _ _).mono ?_
  rintro e w1 ⟨rfl, hb⟩
  generalize neededV f b c u = n at *
  cases h1 : neededOk f b c u
  · rw [H2.out h1]
    go_wp2_with fail
    go_ret2
    exact ⟨ret_int2 (HN.out (by simp [missOk, h1])).1.symm (HN.out (by simp [missOk, h1])).2.symm, ((Below.refl _ _).alloc (Nat.le_refl _) _).trans (hb.mono (by simp))⟩
  · rw [H0.out h1]
    have K1 := Lib.hid h1
    clear h1
    cases h2 : inB p 1125899906842624
    · have h3 := inB_false h2
      go_wp2_with (go_at_call 18; refine (within_any _ _ _).mono ?_; rintro e w' ⟨rfl, rfl⟩)
      all_goals go_ret2
      all_goals exact ⟨ret_int2 (HN.out (by simp [missOk, K1.out, h2])).1.symm (HN.out (by simp [missOk, K1.out, h2])).2.symm, ((Below.refl _ _).alloc (Nat.le_refl _) _).trans (hb.mono (by simp))⟩
    · have h3 := inB_iff.1 h2
      go_wp2_with (go_at_call 18; refine (within_any _ _ _).mono ?_; rintro e w' ⟨rfl, rfl⟩)
      all_goals go_ret2
      all_goals exact ⟨ret_int2 (by rw [(HV.out (by simp [missOk, K1.out, h2])).1]; omega) (HV.out (by simp [missOk, K1.out, h2])).2.symm, ((Below.refl _ _).alloc (Nat.le_refl _) _).trans (hb.mono (by simp))⟩

theorem progMet (f b c u p : Int) (w : World) :
    Calls Try.prog 14 #[.agg #[.int .i64 f, .int .i64 b], .int .i64 c, .int .i64 u, .int .i64 p] w fun e w' =>
      e = .returned (.tuple #[.bool (metB f b c u p), .int .i64 (missE f b c u p)]) ∧ Below w.heap.size w w' := by
  have hv : missOk f b c u p = true → metB f b c u p = (missV f b c u p == 0) ∧ missE f b c u p = 0 := fun h => by simp [metB, missE, h]
  have hn : missOk f b c u p = false → metB f b c u p = false ∧ missE f b c u p = 2 := fun h => by simp [metB, missE, h]
  have HV := Lib.hid hv
  have HN := Lib.hid hn
  clear hv hn
  go_enter Try.func14, Try.ntmps14
  go_wp2_with fail
  refine (progMissing _ _ _ _ _ _).mono ?_
  rintro e w1 ⟨rfl, hb⟩
  cases h1 : missOk f b c u p
  · rw [(HN.out h1).2]
    go_wp2_with fail
    all_goals go_ret2
    all_goals exact ⟨ret_bi (HN.out h1).1.symm (HN.out h1).2.symm, ((Below.refl _ _).alloc (Nat.le_refl _) _).trans (hb.mono (by simp))⟩
  · rw [(HV.out h1).2]
    go_wp2_with fail
    all_goals go_ret2
    all_goals exact ⟨ret_bi (HV.out h1).1.symm (HV.out h1).2.symm, ((Below.refl _ _).alloc (Nat.le_refl _) _).trans (hb.mono (by simp))⟩

set_option maxRecDepth 10000 in
theorem progRaise (f b c u p : Int) (w : World) :
    Calls Try.prog 16 #[.agg #[.int .i64 f, .int .i64 b], .int .i64 c, .int .i64 u, .int .i64 p] w fun e w' =>
      e = .returned (.tuple #[.int .i64 (raiseV f b c u p), .int .i64 (raiseE f b c u p)]) ∧ Below w.heap.size w w' := by
  have hbd := neededV_bd f b c u
  have he0 : neededOk f b c u = true → neededE f b c u = 0 := needed_yes
  have he2 : neededOk f b c u = false → neededE f b c u = 2 := fun h => (needed_no h).2
  have hf1 := @raise_fin f b c u p
  have hf9 := @raise_fin9 f b c u p
  have hf2 := @raise_fin2 f b c u p
  have F1 := Lib.hid hf1
  have F9 := Lib.hid hf9
  have F2 := Lib.hid hf2
  have H0 := Lib.hid he0
  have H2 := Lib.hid he2
  clear he0 he2 hf1 hf9 hf2
  go_enter Try.func16, Try.ntmps16
  go_wp2_with fail
  refine (needed_any _ _ _ _ _).mono ?_
  rintro e w1 ⟨rfl, hb⟩
  generalize neededV f b c u = n at *
  cases h1 : neededOk f b c u
  · rw [H2.out h1]
    go_wp2_with fail
    go_ret2
    exact ⟨ret_int2 (F2.out (by simp [missOk, h1])).1.symm (F2.out (by simp [missOk, h1])).2.symm, ((Below.refl _ _).alloc (Nat.le_refl _) _).trans (hb.mono (by simp))⟩
  · rw [H0.out h1]
    have K1 := Lib.hid h1
    clear h1
    cases h2 : inB p 1125899906842624
    · have h3 := inB_false h2
      go_wp2_with (go_at_call 18; refine (within_any _ _ _).mono ?_; rintro e w' ⟨rfl, rfl⟩)
      all_goals go_ret2
      all_goals exact ⟨ret_int2 (F2.out (by simp [missOk, K1.out, h2])).1.symm (F2.out (by simp [missOk, K1.out, h2])).2.symm, ((Below.refl _ _).alloc (Nat.le_refl _) _).trans (hb.mono (by simp))⟩
    · have h3 := inB_iff.1 h2
      go_wp2_with (go_at_call 18; refine (within_any _ _ _).mono ?_; rintro e w' ⟨rfl, rfl⟩)
      have hok := Lib.hid (show missOk f b c u p = true by simp [missOk, K1.out, h2])
      go_loop [27] (fun i => ∃ k : Nat, k ≤ 1001 ∧ i = .int .i64 k ∧ Hid (raiseFind p n (1001 - k) k = raiseFind p n 1001 0)) (fun i => 1001 - (intOf i).toNat)
      case atStart => exact ⟨0, by omega, rfl, rfl⟩
      case round =>
        obtain ⟨k, hk, rfl, hr⟩ := hrel
        by_cases hlt : k < 1001
        · have hm := raise_mul p k h3.1 h3.2 (by omega)
          have hs : 1001 - k = (1000 - k) + 1 := by omega
          have HS := Lib.hid hs
          clear hs
          go_wp2
          · have hq : n ≤ p * (100 + (k : Int)) / 100 := by assumption
            go_ret2
            have hfd : raiseFind p n 1001 0 = some k := by rw [← hr.out, HS.out]; exact raiseFind_yes hq
            exact ⟨ret_int2 (F1.out k hok.out hfd).1.symm (F1.out k hok.out hfd).2.symm, ((Below.refl _ _).alloc (Nat.le_refl _) _).trans (hb.mono (by simp))⟩
          · have hq : ¬ n ≤ p * (100 + (k : Int)) / 100 := by omega
            go_round
            case rel =>
              refine ⟨k + 1, by omega, by go_num, ?_⟩
              have h0 := hr.out
              rw [HS.out, raiseFind_no hq] at h0
              have e : 1001 - (k + 1) = 1000 - k := by omega
              show raiseFind p n (1001 - (k + 1)) (k + 1) = _
              rw [e]; exact h0
            case measure => simp [intOf]; omega
        · obtain rfl : k = 1001 := by omega
          go_wp2
          go_ret2
          have hfd : raiseFind p n 1001 0 = none := by rw [← hr.out]; rfl
          exact ⟨ret_int2 (F9.out hok.out hfd).1.symm (F9.out hok.out hfd).2.symm, ((Below.refl _ _).alloc (Nat.le_refl _) _).trans (hb.mono (by simp))⟩

theorem refMissing (f b c u p : Int) (w : World) :
    Calls Try.prog 13 #[.agg #[.int .i64 f, .int .i64 b], .int .i64 c, .int .i64 u, .int .i64 p] w fun e w' =>
      e = .returned (.tuple #[.int .i64 (missV f b c u p), .int .i64 (missE f b c u p)]) ∧ Below w.heap.size w w' := by
  have hv : missOk f b c u p = true → missV f b c u p = max (neededV f b c u - p) 0 ∧ missE f b c u p = 0 := fun h => by simp [missV, missE, h]
  have hn : missOk f b c u p = false → missV f b c u p = 0 ∧ missE f b c u p = 2 := fun h => by simp [missV, missE, h]
  have hbd := neededV_bd f b c u
  have he0 : neededOk f b c u = true → neededE f b c u = 0 := needed_yes
  have he2 : neededOk f b c u = false → neededE f b c u = 2 := fun h => (needed_no h).2
  have HV := Lib.hid hv
  have HN := Lib.hid hn
  have H0 := Lib.hid he0
  have H2 := Lib.hid he2
  clear hv hn he0 he2
  go_enter Try.func13, Try.ntmps13
  go_wp2_with fail
  refine (refNeeded_any _ _ _ _ _).mono ?_
  rintro e w1 ⟨rfl, hb⟩
  generalize neededV f b c u = n at *
  cases h1 : neededOk f b c u
  · rw [H2.out h1]
    go_wp2_with fail
    go_ret2
    exact ⟨ret_int2 (HN.out (by simp [missOk, h1])).1.symm (HN.out (by simp [missOk, h1])).2.symm, ((Below.refl _ _).alloc (Nat.le_refl _) _).trans (hb.mono (by simp))⟩
  · rw [H0.out h1]
    have K1 := Lib.hid h1
    clear h1
    cases h2 : inB p 1125899906842624
    · have h3 := inB_false h2
      go_wp2
      all_goals go_ret2
      all_goals exact ⟨ret_int2 (HN.out (by simp [missOk, K1.out, h2])).1.symm (HN.out (by simp [missOk, K1.out, h2])).2.symm, ((Below.refl _ _).alloc (Nat.le_refl _) _).trans (hb.mono (by simp))⟩
    · have h3 := inB_iff.1 h2
      go_wp2
      all_goals go_ret2
      all_goals exact ⟨ret_int2 (by rw [(HV.out (by simp [missOk, K1.out, h2])).1]; omega) (HV.out (by simp [missOk, K1.out, h2])).2.symm, ((Below.refl _ _).alloc (Nat.le_refl _) _).trans (hb.mono (by simp))⟩

theorem refMet (f b c u p : Int) (w : World) :
    Calls Try.prog 15 #[.agg #[.int .i64 f, .int .i64 b], .int .i64 c, .int .i64 u, .int .i64 p] w fun e w' =>
      e = .returned (.tuple #[.bool (metB f b c u p), .int .i64 (missE f b c u p)]) ∧ Below w.heap.size w w' := by
  have hv : missOk f b c u p = true → metB f b c u p = (missV f b c u p == 0) ∧ missE f b c u p = 0 := fun h => by simp [metB, missE, h]
  have hn : missOk f b c u p = false → metB f b c u p = false ∧ missE f b c u p = 2 := fun h => by simp [metB, missE, h]
  have HV := Lib.hid hv
  have HN := Lib.hid hn
  clear hv hn
  go_enter Try.func15, Try.ntmps15
  go_wp2_with fail
  refine (refMissing _ _ _ _ _ _).mono ?_
  rintro e w1 ⟨rfl, hb⟩
  cases h1 : missOk f b c u p
  · rw [(HN.out h1).2]
    go_wp2_with fail
    all_goals go_ret2
    all_goals exact ⟨ret_bi (HN.out h1).1.symm (HN.out h1).2.symm, ((Below.refl _ _).alloc (Nat.le_refl _) _).trans (hb.mono (by simp))⟩
  · rw [(HV.out h1).2]
    go_wp2_with fail
    all_goals go_ret2
    all_goals exact ⟨ret_bi (HV.out h1).1.symm (HV.out h1).2.symm, ((Below.refl _ _).alloc (Nat.le_refl _) _).trans (hb.mono (by simp))⟩

theorem refRaise (f b c u p : Int) (w : World) :
    Calls Try.prog 17 #[.agg #[.int .i64 f, .int .i64 b], .int .i64 c, .int .i64 u, .int .i64 p] w fun e w' =>
      e = .returned (.tuple #[.int .i64 (raiseV f b c u p), .int .i64 (raiseE f b c u p)]) ∧ Below w.heap.size w w' := by
  have hbd := neededV_bd f b c u
  have he0 : neededOk f b c u = true → neededE f b c u = 0 := needed_yes
  have he2 : neededOk f b c u = false → neededE f b c u = 2 := fun h => (needed_no h).2
  have hf1 := @raise_fin f b c u p
  have hf9 := @raise_fin9 f b c u p
  have hf2 := @raise_fin2 f b c u p
  have F1 := Lib.hid hf1
  have F9 := Lib.hid hf9
  have F2 := Lib.hid hf2
  have H0 := Lib.hid he0
  have H2 := Lib.hid he2
  clear he0 he2 hf1 hf9 hf2
  go_enter Try.func17, Try.ntmps17
  go_wp2_with fail
  refine (refNeeded_any _ _ _ _ _).mono ?_
  rintro e w1 ⟨rfl, hb⟩
  generalize neededV f b c u = n at *
  cases h1 : neededOk f b c u
  · rw [H2.out h1]
    go_wp2_with fail
    go_ret2
    exact ⟨ret_int2 (F2.out (by simp [missOk, h1])).1.symm (F2.out (by simp [missOk, h1])).2.symm, ((Below.refl _ _).alloc (Nat.le_refl _) _).trans (hb.mono (by simp))⟩
  · rw [H0.out h1]
    have K1 := Lib.hid h1
    clear h1
    cases h2 : inB p 1125899906842624
    · have h3 := inB_false h2
      go_wp2
      all_goals go_ret2
      all_goals exact ⟨ret_int2 (F2.out (by simp [missOk, K1.out, h2])).1.symm (F2.out (by simp [missOk, K1.out, h2])).2.symm, ((Below.refl _ _).alloc (Nat.le_refl _) _).trans (hb.mono (by simp))⟩
    · have h3 := inB_iff.1 h2
      go_wp2
      have hok := Lib.hid (show missOk f b c u p = true by simp [missOk, K1.out, h2])
      go_loop [12] (fun i => ∃ k : Nat, k ≤ 1001 ∧ i = .int .i64 k ∧ Hid (raiseFind p n (1001 - k) k = raiseFind p n 1001 0)) (fun i => 1001 - (intOf i).toNat)
      case atStart => exact ⟨0, by omega, rfl, rfl⟩
      case round =>
        obtain ⟨k, hk, rfl, hr⟩ := hrel
        by_cases hlt : k < 1001
        · have hm := raise_mul p k h3.1 h3.2 (by omega)
          have hs : 1001 - k = (1000 - k) + 1 := by omega
          have HS := Lib.hid hs
          clear hs
          go_wp2
          · have hq : n ≤ p * (100 + (k : Int)) / 100 := by assumption
            go_ret2
            have hfd : raiseFind p n 1001 0 = some k := by rw [← hr.out, HS.out]; exact raiseFind_yes hq
            exact ⟨ret_int2 (F1.out k hok.out hfd).1.symm (F1.out k hok.out hfd).2.symm, ((Below.refl _ _).alloc (Nat.le_refl _) _).trans (hb.mono (by simp))⟩
          · have hq : ¬ n ≤ p * (100 + (k : Int)) / 100 := by omega
            go_round
            case rel =>
              refine ⟨k + 1, by omega, by go_num, ?_⟩
              have h0 := hr.out
              rw [HS.out, raiseFind_no hq] at h0
              have e : 1001 - (k + 1) = 1000 - k := by omega
              show raiseFind p n (1001 - (k + 1)) (k + 1) = _
              rw [e]; exact h0
            case measure => simp [intOf]; omega
        · obtain rfl : k = 1001 := by omega
          go_wp2
          go_ret2
          have hfd : raiseFind p n 1001 0 = none := by rw [← hr.out]; rfl
          exact ⟨ret_int2 (F9.out hok.out hfd).1.symm (F9.out hok.out hfd).2.symm, ((Below.refl _ _).alloc (Nat.le_refl _) _).trans (hb.mono (by simp))⟩
end Go.Proofs.Ytijcajfeefjalaa
