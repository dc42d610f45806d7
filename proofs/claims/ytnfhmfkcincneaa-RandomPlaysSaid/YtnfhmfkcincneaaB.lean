/- Contracts of the reference's Number and Fork, and of New, Fork and Copy. -/
import Derived.Test.YtnfhmfkcincneaaA
namespace Go.Proofs.Ytnfhmfkcincneaa
open Go.ChangeShapes Go.WideShapes Go.ChangeAt Go.RowKit
set_option maxHeartbeats 400000

theorem new_any (s : Int) (w : World) :
    Calls Try.prog 8 #[.int .i64 s] w fun e w' => e = .returned (.pointer (some ⟨w.heap.size, 0, none⟩)) ∧ w' = w.alloc (.cells #[.bool true, .int .u64 (IntKind.u64.wrap s)] 48) := by
  go_enter Try.func8, Try.ntmps8
  go_wp2
  go_ret
  exact ⟨rfl, rfl⟩
def forkS (l s : Int) : Int := bits .xor .u64 (wordOf s) (IntKind.u64.wrap l)
theorem refFork_any (s l : Int) (w : World) :
    Calls Try.prog 22 #[.int .u64 s, .int .i64 l] w fun e w' => e = .returned (.tuple #[.int .u64 (stepS s), .int .u64 (forkS l s)]) ∧ w = w' := by
  go_enter Try.func22, Try.ntmps22
  go_wp2_with (go_at_call 20; refine (next_any _ _).mono ?_; rintro e w' ⟨rfl, rfl⟩)
  go_ret2
  exact ⟨rfl, rfl⟩
theorem fork_any (s l : Int) (b : Nat) (w : World) (h : Src w b s) :
    Calls Try.prog 14 #[.pointer (some ⟨b, 0, none⟩), .int .i64 l] w fun e w' => e = .returned (.tuple #[.pointer (some ⟨w.heap.size, 0, none⟩), .int .i64 0]) ∧
      Src w' b (stepS s) ∧ Src w' w.heap.size (forkS l s) ∧ Only (· = b) w w' := by
  have h0 := h.c0
  go_enter Try.func14, Try.ntmps14
  go_wp2_with fail
  refine (valid_yes _ _ h0).mono ?_
  rintro e w' ⟨rfl, rfl⟩
  go_wp2_with fail
  refine (word_any s b w h).mono ?_
  rintro e w1 ⟨rfl, rfl⟩
  go_wp2_with fail
  go_ret2
  have hz : (w.setCell ⟨b, 1, none⟩ (.int .u64 (stepS s))).heap.size = w.heap.size := by simp
  refine ⟨by simp, ?_, ?_, ?_⟩
  · exact h.stored.kept ((Only.refl (fun _ => False) _).alloc _) (fun h => h)
  · have := Src.new (w.setCell ⟨b, 1, none⟩ (.int .u64 (stepS s))) (forkS l s)
    rw [hz] at this
    exact this
  · exact ((Only.refl (fun k => k = b) w).setCell (p := ⟨b, 1, none⟩) (Or.inl rfl) _).alloc _
theorem copy_any (s : Int) (b : Nat) (w : World) (h : Src w b s) :
    Calls Try.prog 18 #[.pointer (some ⟨b, 0, none⟩)] w fun e w' => e = .returned (.pointer (some ⟨w.heap.size, 0, none⟩)) ∧ w' = w.alloc (.cells #[.bool true, .int .u64 s] 48) := by
  have h0 := h.c0
  have h1 := h.c1
  go_enter Try.func18, Try.ntmps18
  go_wp2_with fail
  refine (valid_yes _ _ h0).mono ?_
  rintro e w' ⟨rfl, rfl⟩
  go_wp2_with fail
  go_ret
  exact ⟨rfl, rfl⟩

theorem refNumber_any (n : Int) (s : Int) (w : World) (h1 : 1 ≤ n) (h2 : n ≤ 4611686018427387904) :
    Calls Try.prog 10 #[.int .u64 s, .int .i64 n] w fun e w' => e = .returned (.tuple #[.int .u64 (numS n s), .int .i64 (numV n s)]) ∧ ∃ m, w' = w.drewN m := by
  have hx := excess_bd h1
  have hm1 := Int.emod_nonneg 18446744073709551615 (show n ≠ 0 by omega)
  have hm2 := Int.emod_lt_of_pos 18446744073709551615 (show 0 < n by omega)
  have hn : (IntKind.u64.wrap (18446744073709551615 % n + 1)).tmod n = excess n := by
    rw [← excess_ref n]
    have e : IntKind.u64.wrap (18446744073709551615 % n + 1) = 18446744073709551615 % n + 1 := by rw [IntKind.wrap_u64]; omega
    rw [e, Int.tmod_eq_emod_of_nonneg (by omega)]
  have HE := Lib.hid hn
  have hv : Hid (numV n s = (found (excess n) s).2 % n) := rfl
  have hs : Hid (numS n s = (found (excess n) s).1) := rfl
  clear hm1 hm2 hn
  go_enter Try.func10, Try.ntmps10
  go_wp2_with fail
  rw [HE.out]
  generalize excess n = ex at *
  clear HE
  go_loopg [0] (mu s + 1) (fun k v wr => ∃ t : Int, k = mu t + 1 ∧ v = .int .u64 t ∧ wr = w ∧ Hid (found ex t = found ex s))
  case atStart => exact ⟨s, rfl, rfl, rfl, rfl⟩
  case round =>
    obtain ⟨t, rfl, rfl, rfl, hft⟩ := hrel
    have hwb := wordOf_bd t
    go_wp2_with fail
    refine (next_any _ _).mono ?_
    rintro e w' ⟨rfl, rfl⟩
    by_cases hr : refused ex (wordOf t) = true
    · have hr' := hr
      simp only [refused, Bool.and_eq_true, decide_eq_true_eq] at hr'
      have hq : 18446744073709551615 - ex < wordOf t := by omega
      have hmu := Lib.hid (refused_mu (by omega) hr)
      have hfn := Lib.hid (found_no (by omega) hr)
      clear hr
      go_wp2_with fail
      go_roundg (mu (stepS t) + 1)
      case measure => have := hmu.out; omega
      case rel => exact ⟨stepS t, rfl, rfl, rfl, hfn.out.symm.trans hft.out⟩
    · have hr' : refused ex (wordOf t) = false := by simpa using hr
      have hfy := Lib.hid (found_yes hr')
      have hq : wordOf t ≤ 18446744073709551615 - ex := by
        simp only [refused, Bool.and_eq_false_iff, decide_eq_false_iff_not] at hr'
        omega
      clear hr hr'
      go_wp2_with fail
      go_quiet (fail)
      go_wp2_with fail
      go_ret2
      have hlo := Int.emod_nonneg (wordOf t) (show n ≠ 0 by omega)
      have hhi := Int.emod_lt_of_pos (wordOf t) (show 0 < n by omega)
      refine ⟨ret_ints ?_ ?_, _, rfl⟩
      · rw [hs.out, ← hft.out, hfy.out]
      · rw [IntWalk.wrap64_in _ ⟨by omega, by omega⟩, hv.out, ← hft.out, hfy.out]
end Go.Proofs.Ytnfhmfkcincneaa
