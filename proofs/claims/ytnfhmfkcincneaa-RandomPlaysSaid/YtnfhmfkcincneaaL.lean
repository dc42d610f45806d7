/- The walk of the law RandomAgain. -/
import Derived.Test.YtnfhmfkcincneaaK
namespace Go.Proofs.Ytnfhmfkcincneaa
open Go.ChangeShapes Go.WideShapes Go.ChangeAt Go.RowKit Go.Deep
set_option maxHeartbeats 2000000
set_option maxRecDepth 100000

theorem again_out (seed label limit n : Int) (w : World) (hn : n < 0 ∨ 200 < n) :
    Calls Try.prog 4 #[.int .i64 seed, .int .i64 label, .int .i64 limit, .int .i64 n] w fun e w' => e = .returned (.bool true) ∧ Below w.heap.size w w' := by
  go_enter Try.func4, Try.ntmps4
  go_wp2_with fail
  all_goals
    refine (known_any _).mono ?_
    rintro e w2 ⟨rfl, hb⟩
    go_wp2_with fail
    go_ret
    exact ⟨rfl, hb⟩

/-- Number at whatever limit: the value, the error, the state behind it. -/
def goodLim (n : Int) : Bool := decide (1 ≤ n ∧ n ≤ 4611686018427387904)
def nextV (n s : Int) : Int := if goodLim n then numV n s else 0
def nextE (n : Int) : Int := if goodLim n then 0 else 2
def nextS (n s : Int) : Int := if goodLim n then numS n s else s
theorem number_any (n : Int) (s : Int) (b : Nat) (w : World) (h : Src w b s) :
    Calls Try.prog 9 #[.pointer (some ⟨b, 0, none⟩), .int .i64 n] w fun e w' => e = .returned (.tuple #[.int .i64 (nextV n s), .int .i64 (nextE n)]) ∧ Src w' b (nextS n s) ∧ Only (· = b) w w' := by
  by_cases hg : 1 ≤ n ∧ n ≤ 4611686018427387904
  · have e : goodLim n = true := by simp [goodLim, hg]
    simp only [nextV, nextE, nextS, e, if_true]
    exact number_ok n s b w h hg.1 hg.2
  · have e : goodLim n = false := by simp only [goodLim, decide_eq_false_iff_not]; exact hg
    simp only [nextV, nextE, nextS, e, Bool.false_eq_true, if_false]
    exact (number_bad n s b w h (by omega)).mono fun e w' ⟨he, hw⟩ => by subst hw; exact ⟨he, h, Only.refl _ _⟩

theorem again_in (seed label limit : Int) (n : Nat) (w : World) (hn : n ≤ 200) :
    Calls Try.prog 4 #[.int .i64 seed, .int .i64 label, .int .i64 limit, .int .i64 (n : Int)] w fun e w' => e = .returned (.bool true) ∧ Below w.heap.size w w' := by
  have hd1 : decide ((n : Int) < 0) = false := by simp
  have hd2 : decide ((200 : Int) < (n : Int)) = false := by simp; omega
  go_enter Try.func4, Try.ntmps4
  go_wp2_with fail
  refine (new_src _ _).mono ?_
  rintro e w1 ⟨rfl, hA, hO⟩
  have U : Up w.heap.size w w1 := hO.mono (fun _ _ h => h.elim)
  have z1 := hA.lt
  clear hO hd1 hd2
  go_wp2_with fail
  refine (new_src _ _).mono ?_
  rintro e w2 ⟨rfl, hC, hO⟩
  replace U := U.next hO (fun j h => h.elim)
  replace hA := hA.kept hO (fun h => h)
  have z2 := hC.lt
  clear hO
  go_wp2_with fail
  generalize IntKind.u64.wrap seed = s at *
  refine (shuffle_ok n _ _ _ hA (by omega)).mono ?_
  rintro e w3 ⟨rfl, hA3, hL, hO⟩
  replace U := U.next hO (fun j h => by omega)
  replace hC := hC.kept hO (by omega)
  have z3 := hL.lt
  clear hO hA
  go_wp2_with fail
  refine (shuffle_ok n _ _ _ hC (by omega)).mono ?_
  rintro e w4 ⟨rfl, hC4, hM, hO⟩
  have z4 := hM.lt
  have z5 := hA3.lt
  replace U := U.next hO (fun j h => by omega)
  replace hA3 := hA3.kept hO (by omega)
  replace hL := hL.kept hO (by omega)
  clear hO hC
  have hon := shufL_once n s
  have hll := shufL_length n s
  generalize shufS n s = t at *
  generalize shufL n s = l at *
  have HL := Lib.hid hll
  clear hll
  have hLi := hL.ints
  have hMi := hM.ints
  rw [HL.out] at hLi hMi
  go_wp2_with fail
  refine (equal_same _ _ l _ hLi hMi (by have := HL.out; omega)).mono ?_
  rintro e w5 ⟨rfl, dn, rfl⟩
  clear hLi hMi hM
  replace hA3 := hA3.kept ((Only.refl (fun _ => False) _).drewN dn) (fun h => h)
  replace hC4 := hC4.kept ((Only.refl (fun _ => False) _).drewN dn) (fun h => h)
  replace hL := hL.kept ((Only.refl (fun _ => False) _).drewN dn) (fun h => h)
  replace U := U.next ((Only.refl (fun _ => False) _).drewN dn) (fun j h => h.elim)
  have z6 : w4.heap.size ≤ (w4.drewN dn).heap.size := Nat.le_refl _
  generalize w4.drewN dn = w5 at *
  have hmk := fun w => run_make_row' (P := Try.prog) 36 4 (.bool false) 1 Try.underlying36 (by kernel_rfl) rfl .i64 .i64 n (by omega) (by omega) w
  go_wp2_with fail
  clear hmk
  go_loopg [16] n (fun m i wr => ∃ (k : Nat) (f : Nat → Bool), k ≤ n ∧ m = n - k ∧ i = .int .i64 k ∧ Hid (∀ y, f y = true → ∃ j, j < k ∧ l[j]?.getD 0 = (y : Int)) ∧ Blk wr w5.heap.size 4 (bvs f n) ∧ Only (fun _ => False) w5 wr)
  case atStart =>
    refine ⟨0, fun _ => false, by omega, rfl, rfl, (fun y h => by cases h), ?_, (Only.refl _ _).alloc _⟩
    rw [← bvs_zeros]
    exact Blk.new w5 4 _
  case round =>
    obtain ⟨k, f, hk, rfl, rfl, hf, hB, hO⟩ := hrel
    by_cases hlt : k < n
    · have hbd := hon.bd k hlt
      have hcl := (hL.kept hO (fun h => h)).int (i := k) (by rw [HL.out]; exact hlt)
      simp only [List.getD_eq_getElem?_getD] at hcl
      obtain ⟨x, hx⟩ := Int.eq_ofNat_of_zero_le hbd.1
      have hfx : f x = false := by
        cases hc : f x with
        | false => rfl
        | true =>
          obtain ⟨j, hj, he⟩ := hf.out x hc
          have := hon.inj j k (by omega) hlt (he.trans hx.symm)
          omega
      rw [hx] at hbd hcl
      have HX := Lib.hid hx
      clear hx
      have hcx := hB.cell x
      rw [bvs_get (by omega), hfx] at hcx
      have hfz := hB.frozen x
      have HF := Lib.hid hfx
      clear hfx
      go_wp2_with fail
      go_roundg (n - (k + 1))
      case measure => omega
      case rel =>
        refine ⟨k + 1, fun y => f y || y == x, by omega, rfl, by go_num, ?_, ?_, hO.setCell (p := ⟨w5.heap.size, x, none⟩) (Or.inr (Nat.le_refl _)) _⟩
        · intro y hy
          rcases Bool.or_eq_true_iff.1 hy with h | h
          · obtain ⟨j, hj, he⟩ := hf.out y h
            exact ⟨j, by omega, he⟩
          · refine ⟨k, by omega, ?_⟩
            rw [HX.out, eq_of_beq h]
        · rw [← bvs_set]
          exact hB.set x (.bool true)
    · clear hf hB
      have hA6 := hA3.kept hO (fun h => h)
      have hC6 := hC4.kept hO (fun h => h)
      replace U := U.next hO (fun j h => h.elim)
      have z7 := hO.size
      clear hO hon hL
      go_wp2_with fail
      refine (number_any _ _ _ _ hA6).mono ?_
      rintro e w7 ⟨rfl, hA7, hO⟩
      have hC7 := hC6.kept hO (by omega)
      replace U := U.next hO (fun j h => by omega)
      go_wp2_with fail
      refine (number_any _ _ _ _ hC7).mono ?_
      rintro e w8 ⟨rfl, hC8, hO⟩
      have hA8 := hA7.kept hO (by omega)
      replace U := U.next hO (fun j h => by omega)
      clear hO hA6 hC6 hC7 hA7
      generalize nextS limit t = t2 at *
      go_wp2_with fail
      refine (fork_any _ _ _ _ hA8).mono ?_
      rintro e w9 ⟨rfl, hA9, hF, hO⟩
      have hC9 := hC8.kept hO (by omega)
      have zA := hA8.lt
      have zC := hC8.lt
      have z8 := U.size
      replace U := U.next hO (fun j h => by omega)
      have z9 := hF.lt
      clear hO hA8 hC8
      go_wp2_with fail
      refine (fork_any _ _ _ _ hC9).mono ?_
      rintro e w10 ⟨rfl, hC10, hG, hO⟩
      have hA10 := hA9.kept hO (by omega)
      have hF10 := hF.kept hO (by omega)
      replace U := U.next hO (fun j h => by omega)
      clear hO hA9 hC9 hF
      go_wp2_with fail
      refine (word_src _ _ _ hF10).mono ?_
      rintro e w11 ⟨rfl, hF11, hO⟩
      have hG11 := hG.kept hO (by omega)
      have hA11 := hA10.kept hO (by omega)
      have hC11 := hC10.kept hO (by omega)
      replace U := U.next hO (fun j h => by omega)
      go_wp2_with fail
      refine (word_src _ _ _ hG11).mono ?_
      rintro e w12 ⟨rfl, hG12, hO⟩
      have hA12 := hA11.kept hO (by omega)
      have hC12 := hC11.kept hO (by omega)
      replace U := U.next hO (fun j h => by omega)
      go_wp2_with fail
      refine (word_src _ _ _ hA12).mono ?_
      rintro e w13 ⟨rfl, hA13, hO⟩
      have hC13 := hC12.kept hO (by omega)
      replace U := U.next hO (fun j h => by omega)
      go_wp2_with fail
      refine (word_src _ _ _ hC13).mono ?_
      rintro e w14 ⟨rfl, hC14, hO⟩
      replace U := U.next hO (fun j h => by omega)
      go_wp2_with fail
      refine (known_any _).mono ?_
      rintro e w15 ⟨rfl, hb⟩
      go_wp2_with fail
      go_ret
      exact ⟨rfl, (U.below (Nat.le_refl _)).trans (hb.mono U.size)⟩
theorem again_walk (seed label limit n : Int) (w : World) :
    Calls Try.prog 4 #[.int .i64 seed, .int .i64 label, .int .i64 limit, .int .i64 n] w fun e w' => e = .returned (.bool true) ∧ Below w.heap.size w w' := by
  by_cases h : n < 0 ∨ 200 < n
  · exact again_out seed label limit n w h
  · obtain ⟨m, rfl⟩ := Int.eq_ofNat_of_zero_le (show 0 ≤ n by omega)
    exact again_in seed label limit m w (by omega)
end Go.Proofs.Ytnfhmfkcincneaa
