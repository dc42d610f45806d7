/- Contracts of package random: valid, Word, Number, Fork, Copy, New; and of the reference's Next, Number, Fork. -/
import Derived.Test.YtnfhmfkcincneaaH
import Derived.Test.YtnfhmfkcincneaaM
namespace Go.Proofs.Ytnfhmfkcincneaa
open Go.ChangeShapes Go.WideShapes Go.ChangeAt Go.RowKit
set_option maxHeartbeats 400000

/-- Block b is a source in a state. -/
structure Src (w : World) (b : Nat) (s : Int) : Prop where
  c0 : w.cell? ⟨b, 0, none⟩ = some (.bool true)
  c1 : w.cell? ⟨b, 1, none⟩ = some (.int .u64 s)
  fz : w.frozen? ⟨b, 1, none⟩ = false
theorem Src.lt {w : World} {b : Nat} {s : Int} (h : Src w b s) : b < w.heap.size := cell_lt h.c0
theorem Src.kept {S : Nat → Prop} {w w' : World} {b : Nat} {s : Int} (h : Src w b s) (ho : Only S w w') (hn : ¬ S b) : Src w' b s :=
  ⟨by rw [ho.cell (p := ⟨b, 0, none⟩) h.lt hn]; exact h.c0, by rw [ho.cell (p := ⟨b, 1, none⟩) h.lt hn]; exact h.c1, by rw [ho.frozen (p := ⟨b, 1, none⟩) h.lt hn]; exact h.fz⟩
theorem Src.stored {w : World} {b : Nat} {s t : Int} (h : Src w b s) : Src (w.setCell ⟨b, 1, none⟩ (.int .u64 t)) b t := by
  have h0 := h.c0
  have h1 := h.c1
  have h2 := h.fz
  exact ⟨by simp [go_sem, h0], by simp [go_sem, h1], by simp [go_sem, h2]⟩
theorem Src.new (w : World) (s : Int) : Src (w.alloc (.cells #[.bool true, .int .u64 s] 48)) w.heap.size s :=
  ⟨by simp [go_sem], by simp [go_sem], by simp [go_sem]⟩

theorem valid_yes (b : Nat) (w : World) (h0 : w.cell? ⟨b, 0, none⟩ = some (.bool true)) :
    Calls Try.prog 19 #[.pointer (some ⟨b, 0, none⟩)] w fun e w' => e = .returned (.bool true) ∧ w = w' := by
  go_enter Try.func19, Try.ntmps19
  go_wp2
  go_ret
  exact ⟨rfl, rfl⟩
theorem word_any (s : Int) (b : Nat) (w : World) (h : Src w b s) :
    Calls Try.prog 15 #[.pointer (some ⟨b, 0, none⟩)] w fun e w' => e = .returned (.int .u64 (wordOf s)) ∧ w' = w.setCell ⟨b, 1, none⟩ (.int .u64 (stepS s)) := by
  obtain ⟨h0, h1, hf⟩ := h
  go_enter Try.func15, Try.ntmps15
  go_wp2_with (go_at_call 19; refine (valid_yes _ _ (by assumption)).mono ?_; rintro e w' ⟨rfl, rfl⟩)
  go_ret
  exact ⟨rfl, rfl⟩
theorem word_src (s : Int) (b : Nat) (w : World) (h : Src w b s) :
    Calls Try.prog 15 #[.pointer (some ⟨b, 0, none⟩)] w fun e w' => e = .returned (.int .u64 (wordOf s)) ∧ Src w' b (stepS s) ∧ Only (· = b) w w' :=
  (word_any s b w h).mono fun e w' ⟨he, hw⟩ => by
    subst hw
    exact ⟨he, h.stored, (Only.refl (fun k => k = b) w).setCell (p := ⟨b, 1, none⟩) (Or.inl rfl) _⟩
theorem next_any (s : Int) (w : World) :
    Calls Try.prog 20 #[.int .u64 s] w fun e w' => e = .returned (.tuple #[.int .u64 (stepS s), .int .u64 (wordOf s)]) ∧ w = w' := by
  go_enter Try.func20, Try.ntmps20
  go_wp2
  go_ret2
  exact ⟨rfl, rfl⟩

theorem neg_u64 {n : Int} (h : 1 ≤ n) (h2 : n ≤ 18446744073709551616) : IntKind.u64.wrap (-n) = 18446744073709551616 - n := by
  rw [IntKind.wrap_u64]; omega

theorem number_bad (n : Int) (s : Int) (b : Nat) (w : World) (h : Src w b s) (hn : n < 1 ∨ 4611686018427387904 < n) :
    Calls Try.prog 9 #[.pointer (some ⟨b, 0, none⟩), .int .i64 n] w fun e w' => e = .returned (.tuple #[.int .i64 0, .int .i64 2]) ∧ w = w' := by
  have h0 := h.c0
  go_enter Try.func9, Try.ntmps9
  go_wp2_with (go_at_call 19; refine (valid_yes _ _ (by assumption)).mono ?_; rintro e w' ⟨rfl, rfl⟩)
  all_goals go_ret2
  all_goals exact ⟨rfl, rfl⟩

theorem number_ok (n : Int) (s : Int) (b : Nat) (w : World) (h : Src w b s) (h1 : 1 ≤ n) (h2 : n ≤ 4611686018427387904) :
    Calls Try.prog 9 #[.pointer (some ⟨b, 0, none⟩), .int .i64 n] w fun e w' => e = .returned (.tuple #[.int .i64 (numV n s), .int .i64 0]) ∧ Src w' b (numS n s) ∧ Only (· = b) w w' := by
  have h0 := h.c0
  have hx := excess_bd h1
  have hn : (IntKind.u64.wrap (-n)).tmod n = excess n := by
    have e := neg_u64 h1 (by omega)
    rw [e, Int.tmod_eq_emod_of_nonneg (by omega)]; exact excess_neg n
  have HE := Lib.hid hn
  have hv : Hid (numV n s = (found (excess n) s).2 % n) := rfl
  have hs : Hid (numS n s = (found (excess n) s).1) := rfl
  have hd1 : decide (n < 1) = false := by simp; omega
  have hd2 : decide (4611686018427387904 < n) = false := by simp; omega
  clear hn
  go_enter Try.func9, Try.ntmps9
  go_wp2_with fail
  refine (valid_yes _ _ h0).mono ?_
  rintro e w' ⟨rfl, rfl⟩
  go_wp2_with fail
  rw [HE.out]
  generalize excess n = ex at *
  refine (word_src s b w h).mono ?_
  rintro e w1 ⟨rfl, hs1, ho1⟩
  clear h0 HE hd1 hd2
  go_wp2_with fail
  go_loopg [8] (mu s) (fun k v wr => ∃ t : Int, k = mu t ∧ v = .int .u64 (wordOf t) ∧ Src wr b (stepS t) ∧ Only (· = b) w wr ∧ Hid (found ex t = found ex s))
  case atStart => exact ⟨s, rfl, rfl, hs1, ho1, rfl⟩
  case round =>
    obtain ⟨t, rfl, rfl, hst, hot, hft⟩ := hrel
    have hwb := wordOf_bd t
    have hex2 := neg_u64 (n := ex)
    have HX := Lib.hid hex2
    clear hex2
    by_cases hr : refused ex (wordOf t) = true
    · have hr' := hr
      simp only [refused, Bool.and_eq_true, decide_eq_true_eq] at hr'
      have hq : IntKind.u64.wrap (-ex) ≤ wordOf t := by rw [HX.out (by omega) (by omega)]; exact hr'.2
      have hmu := Lib.hid (refused_mu (by omega) hr)
      have hfn := Lib.hid (found_no (by omega) hr)
      clear hr
      go_wp2_with fail
      refine (word_src _ b _ hst).mono ?_
      rintro e w2 ⟨rfl, hs2, ho2⟩
      go_wp2_with fail
      go_roundg (mu (stepS t))
      case measure => have := hmu.out; omega
      case rel => exact ⟨stepS t, rfl, rfl, hs2, hot.trans ho2, hfn.out.symm.trans hft.out⟩
    · have hr' : refused ex (wordOf t) = false := by simpa using hr
      have hfy := Lib.hid (found_yes hr')
      have hor : ex ≤ 0 ∨ (0 < ex ∧ wordOf t < IntKind.u64.wrap (-ex)) := by
        simp only [refused, Bool.and_eq_false_iff, decide_eq_false_iff_not] at hr'
        by_cases h5 : 0 < ex
        · refine .inr ⟨h5, ?_⟩
          rw [HX.out (by omega) (by omega)]
          rcases hr' with h6 | h6
          · omega
          · omega
        · exact .inl (by omega)
      clear hr hr'
      rcases hor with h7 | ⟨h7, h8⟩
      all_goals
        go_wp2_with fail
        go_ret2
        refine ⟨ret_ints ?_ rfl, ?_, hot⟩
        · have hlo := Int.emod_nonneg (wordOf t) (show n ≠ 0 by omega)
          have hhi := Int.emod_lt_of_pos (wordOf t) (show 0 < n by omega)
          rw [IntWalk.wrap64_in _ ⟨by omega, by omega⟩, hv.out, ← hft.out, hfy.out]
        · rw [hs.out, ← hft.out, hfy.out]; exact hst
end Go.Proofs.Ytnfhmfkcincneaa
