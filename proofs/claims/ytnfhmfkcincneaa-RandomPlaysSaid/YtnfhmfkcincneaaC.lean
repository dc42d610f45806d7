/- The contract of Shuffle, of the program. -/
import Derived.Test.YtnfhmfkcincneaaB
import Derived.Test.YtnfhmfkcincneaaI
namespace Go.Proofs.Ytnfhmfkcincneaa
open Go.ChangeShapes Go.WideShapes Go.ChangeAt Go.RowKit Go.Deep
set_option maxHeartbeats 400000

/-- The exchanges at the indexes k, k - 1, .., 1. -/
def shufGo : Nat → Int → List Int → Int × List Int
  | 0, s, l => (s, l)
  | k + 1, s, l => shufGo k (numS ((k : Int) + 1 + 1) s) (swapL l (k + 1) (numV ((k : Int) + 1 + 1) s).toNat)
def upTo (n : Nat) : List Int := (List.range n).map Int.ofNat
def shufS (n : Nat) (s : Int) : Int := (shufGo (n - 1) s (upTo n)).1
def shufL (n : Nat) (s : Int) : List Int := (shufGo (n - 1) s (upTo n)).2
theorem upTo_length (n : Nat) : (upTo n).length = n := by simp [upTo]
theorem shufGo_length : ∀ (k : Nat) (s : Int) (l : List Int), (shufGo k s l).2.length = l.length
  | 0, _, _ => rfl
  | k + 1, s, l => by unfold shufGo; rw [shufGo_length]; exact swapL_length _ _ _
theorem shufL_length (n : Nat) (s : Int) : (shufL n s).length = n := by unfold shufL; rw [shufGo_length, upTo_length]

/-- k elements are laid, the others are 0. -/
def laidTo (n k : Nat) : List Int := upTo k ++ List.replicate (n - k) 0
theorem laidTo_length {n k : Nat} (h : k ≤ n) : (laidTo n k).length = n := by simp [laidTo, upTo_length]; omega
theorem laidTo_zero (n : Nat) : laidTo n 0 = List.replicate n 0 := by simp [laidTo, upTo]
theorem laidTo_full (n : Nat) : laidTo n n = upTo n := by simp [laidTo]
theorem laidTo_set {n k : Nat} (h : k < n) : (laidTo n k).set k (k : Int) = laidTo n (k + 1) := by
  obtain ⟨m, rfl⟩ : ∃ m, n = k + 1 + m := ⟨n - (k + 1), by omega⟩
  unfold laidTo upTo
  have e1 : k + 1 + m - k = m + 1 := by omega
  have e2 : k + 1 + m - (k + 1) = m := by omega
  rw [e1, e2, List.replicate_succ, List.range_succ, List.set_append_right _ _ (by simp)]
  simp

theorem shuffle_bad (n : Int) (s : Int) (b : Nat) (w : World) (h : Src w b s) (hn : n < 0 ∨ 4096 < n) :
    Calls Try.prog 12 #[.pointer (some ⟨b, 0, none⟩), .int .i64 n] w fun e w' => e = .returned (.tuple #[.slice none 0 0, .int .i64 2]) ∧ w = w' := by
  have h0 := h.c0
  go_enter Try.func12, Try.ntmps12
  go_wp2_with (go_at_call 19; refine (valid_yes _ _ (by assumption)).mono ?_; rintro e w' ⟨rfl, rfl⟩)
  all_goals go_ret2
  all_goals exact ⟨rfl, rfl⟩

theorem shuffle_ok (n : Nat) (s : Int) (b : Nat) (w : World) (h : Src w b s) (hn : n ≤ 4096) :
    Calls Try.prog 12 #[.pointer (some ⟨b, 0, none⟩), .int .i64 (n : Int)] w fun e w' =>
      e = .returned (.tuple #[.slice (some ⟨w.heap.size, 0, none⟩) n n, .int .i64 0]) ∧ Src w' b (shufS n s) ∧ Blk w' w.heap.size 3 (ivs (shufL n s)) ∧ Only (· = b) w w' := by
  have h0 := h.c0
  have hd1 : decide ((n : Int) < 0) = false := by simp
  have hd2 : decide ((4096 : Int) < (n : Int)) = false := by simp; omega
  have hmk := fun w => run_make_row' (P := Try.prog) 32 3 (.int .i64 0) 8 Try.underlying32 (by kernel_rfl) rfl .i64 .i64 n (by omega) (by omega) w
  go_enter Try.func12, Try.ntmps12
  go_wp2_with fail
  refine (valid_yes _ _ h0).mono ?_
  rintro e w' ⟨rfl, rfl⟩
  go_wp2_with fail
  clear hmk hd1 hd2
  go_loopg [24] n (fun m i wr => ∃ k : Nat, k ≤ n ∧ m = n - k ∧ i = .int .i64 k ∧ Blk wr w.heap.size 3 (ivs (laidTo n k)) ∧ Only (fun _ => False) w wr)
  case atStart =>
    refine ⟨0, by omega, rfl, rfl, ?_, (Only.refl _ _).alloc _⟩
    rw [laidTo_zero, ← ivs_zeros]
    exact Blk.new w 3 _
  case round =>
    obtain ⟨k, hk, rfl, rfl, hB, hO⟩ := hrel
    by_cases hlt : k < n
    · have hc := hB.int (i := k) (by rw [laidTo_length hk]; exact hlt)
      have hf := hB.frozen k
      go_wp2_with fail
      go_roundg (n - (k + 1))
      case measure => omega
      case rel =>
        refine ⟨k + 1, by omega, rfl, by go_num, ?_, hO.setCell (p := ⟨w.heap.size, k, none⟩) (Or.inr (Nat.le_refl _)) _⟩
        have := hB.set k (.int .i64 (k : Int))
        rw [ivs_set, laidTo_set hlt] at this
        exact this
    · obtain rfl : k = n := by omega
      rw [laidTo_full] at hB
      have hS := h.kept hO (fun h => h)
      have hbl := h.lt
      clear h h0
      go_wp2_with fail
      have hS0 : Hid (shufS k s = (shufGo (k - 1) s (upTo k)).1) := rfl
      have hL0 : Hid (shufL k s = (shufGo (k - 1) s (upTo k)).2) := rfl
      go_loopg [8] k (fun m i wr => ∃ (q : Nat) (t : Int) (l : List Int), q ≤ k ∧ m = q ∧ i = .int .i64 ((q : Int) - 1) ∧ Hid (l.length = k) ∧ Src wr b t ∧ Blk wr w.heap.size 3 (ivs l) ∧ Only (· = b) w wr ∧
        Hid (shufGo (q - 1) t l = shufGo (k - 1) s (upTo k)))
      case atStart => exact ⟨k, s, upTo k, Nat.le_refl _, rfl, rfl, upTo_length k, hS, hB, hO.mono (fun _ _ h => h.elim), rfl⟩
      case round =>
        clear hS hB hO
        obtain ⟨q, t, l, hq, rfl, rfl, hl, hS, hB, hO, hsh⟩ := hrel
        by_cases h2 : 2 ≤ gk
        · obtain ⟨m, rfl⟩ : ∃ m, gk = m + 2 := ⟨gk - 2, by omega⟩
          rw [show (((m + 2 : Nat) : Int) - 1) = ((m + 1 : Nat) : Int) by omega]
          go_wp2_with fail
          refine (number_ok _ t b _ hS (by omega) (by omega)).mono ?_
          rintro e w2 ⟨rfl, hS2, hO2⟩
          obtain ⟨hj0, hj1⟩ := numV_bd (n := (m : Int) + 1 + 1) (by omega) t
          obtain ⟨j, hj⟩ := Int.eq_ofNat_of_zero_le hj0
          rw [hj] at hj1 ⊢
          have HJ := Lib.hid hj
          clear hj hj0
          have hg : ¬ w.heap.size = b := by omega
          have hB2 := hB.kept hO2 hg
          have hl' := hl.out
          have hci := hB2.int (i := m + 1) (by omega)
          have hcj := hB2.int (i := j) (by omega)
          have hfi := hB2.frozen (m + 1)
          have hfj := hB2.frozen j
          obtain ⟨v', hy'⟩ := cell?_setCell_some (w := w2) (p := ⟨w.heap.size, m + 1, none⟩) (x := .int .i64 (l[j]?.getD 0)) (q := ⟨w.heap.size, j, none⟩) hcj
          go_wp2_with fail
          go_region
          go_wp2_with fail
          go_roundg (m + 1)
          case measure => omega
          case rel =>
            refine ⟨m + 1, numS ((m : Int) + 1 + 1) t, swapL l (m + 1) j, by omega, rfl, by congr 1; omega, ?_, ?_, ?_, ?_, ?_⟩
            · exact (swapL_length _ _ _).trans hl.out
            · exact (hS2.kept (((Only.refl (fun k => k = w.heap.size) w2).setCell (p := ⟨w.heap.size, m + 1, none⟩) (Or.inl rfl) _).setCell (p := ⟨w.heap.size, j, none⟩) (Or.inl rfl) _) (fun h => hg h.symm)).kept (Only.refl (fun _ => False) _).drew (fun h => h)
            · exact (hB2.swapped (m + 1) j).drew
            · exact (((hO.trans hO2).setCell (p := ⟨w.heap.size, m + 1, none⟩) (Or.inr (Nat.le_refl _)) _).setCell (p := ⟨w.heap.size, j, none⟩) (Or.inr (Nat.le_refl _)) _).drew
            · have h3 := hsh.out
              rw [show m + 2 - 1 = m + 1 by omega, shufGo, HJ.out] at h3
              exact h3
        · go_wp2_with fail
          go_ret2
          have e : gk - 1 = 0 := by omega
          rw [e] at hsh
          have hsh' := hsh.out
          simp only [shufGo] at hsh'
          refine ⟨rfl, ?_, ?_, hO⟩
          · rw [hS0.out, ← hsh']; exact hS
          · rw [hL0.out, ← hsh']; exact hB
end Go.Proofs.Ytnfhmfkcincneaa
