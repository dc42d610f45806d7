/- The walk of the law RandomShuffles. -/
import Derived.Test.YtnfhmfkcincneaaF
namespace Go.Proofs.Ytnfhmfkcincneaa
open Go.ChangeShapes Go.WideShapes Go.ChangeAt Go.RowKit Go.Deep
set_option maxHeartbeats 2000000

theorem shuffles_out (seed n : Int) (w : World) (hn : n < 0 ∨ 200 < n) :
    Calls Try.prog 5 #[.int .i64 seed, .int .i64 n] w fun e w' => e = .returned (.bool true) ∧ Below w.heap.size w w' := by
  go_enter Try.func5, Try.ntmps5
  go_wp2_with fail
  all_goals
    refine (known_any _).mono ?_
    rintro e w2 ⟨rfl, hb⟩
    go_wp2_with fail
    go_ret
    exact ⟨rfl, hb⟩

theorem shuffles_in (seed : Int) (n : Nat) (w : World) (hn : n ≤ 200) :
    Calls Try.prog 5 #[.int .i64 seed, .int .i64 (n : Int)] w fun e w' => e = .returned (.bool true) ∧ Below w.heap.size w w' := by
  have hd1 : decide ((n : Int) < 0) = false := by simp
  have hd2 : decide ((200 : Int) < (n : Int)) = false := by simp; omega
  have hS0 : ∀ s, Hid (shufS n s = (shufGo (n - 1) s (upTo n)).1) := fun _ => rfl
  have hL0 : ∀ s, Hid (shufL n s = (shufGo (n - 1) s (upTo n)).2) := fun _ => rfl
  go_enter Try.func5, Try.ntmps5
  go_wp2_with fail
  refine (new_src _ _).mono ?_
  rintro e w1 ⟨rfl, hA, hO⟩
  have U : Up w.heap.size w w1 := hO.mono (fun _ _ h => h.elim)
  have z1 := hA.lt
  clear hO hd1 hd2
  go_wp2_with fail
  refine (new_src _ _).mono ?_
  rintro e w2 ⟨rfl, hC, hO⟩
  replace U := U.next hO (fun j h => h.elim)
  replace hA := hA.kept hO (fun h => h)
  have z2 := hC.lt
  clear hO
  go_wp2_with fail
  generalize IntKind.u64.wrap seed = s at *
  refine (shuffle_ok n _ _ _ hA (by omega)).mono ?_
  rintro e w3 ⟨rfl, hA3, hL, hO⟩
  replace U := U.next hO (fun j h => by omega)
  replace hC := hC.kept hO (by omega)
  have z3 := hL.lt
  clear hO hA
  go_wp2_with fail
  go_loopg [9, 10] n (fun m v i wr => ∃ k : Nat, k ≤ n ∧ m = n - k ∧ i = .int .i64 k ∧ OwnI wr w3.heap.size v (upTo k) ∧ Only (fun _ => False) w3 wr)
  case atStart => exact ⟨0, by omega, rfl, rfl, OwnI.nil _ _, Only.refl _ _⟩
  case round =>
    obtain ⟨k, hk, rfl, rfl, hB, hO⟩ := hrel
    by_cases hlt : k < n
    · have hlen : (upTo k).length < 17000000000000 := by rw [upTo_length]; omega
      go_wp2_with (at_builtin; refine append_int rfl _ _ rfl (k : Int) hB rfl rfl hO.size hlen ?_; intro v' w' hB' hO')
      go_roundg (n - (k + 1))
      case measure => omega
      case rel =>
        refine ⟨k + 1, by omega, rfl, by go_num, by rw [upTo_succ]; exact hB', ?_⟩
        exact ⟨hO'.os.trans hO.os, hO'.tape.trans hO.tape, hO'.output.trans hO.output, Nat.le_trans hO.size hO'.size, fun j hj hn => (hO'.block j (Nat.lt_of_lt_of_le hj hO.size) (fun e => by have := (hB.lt j e).1; omega)).trans (hO.block j hj hn)⟩
    · obtain rfl : k = n := by omega
      have hC4 := hC.kept hO (fun h => h)
      clear hlt hk
      go_wp2_with fail
      go_loopg [11] k (fun m i wr => ∃ (q : Nat) (t : Int) (l : List Int), q ≤ k ∧ m = q ∧ i = .int .i64 ((q : Int) - 1) ∧ Hid (l.length = k) ∧ Src wr w1.heap.size t ∧ OwnI wr w3.heap.size u9 l ∧ Only (fun k => k = w1.heap.size) w3 wr ∧
        Hid (shufGo (q - 1) t l = shufGo (k - 1) s (upTo k)))
      case atStart => exact ⟨k, s, upTo k, Nat.le_refl _, rfl, rfl, upTo_length k, hC4, hB, hO.mono (fun _ _ h => h.elim), rfl⟩
      case round =>
        clear hB hO hC4
        obtain ⟨q, t, l, hq, rfl, rfl, hl, hT, hB, hO, hsh⟩ := hrel
        by_cases h2 : 2 ≤ gk
        · obtain ⟨m, rfl⟩ : ∃ m, gk = m + 2 := ⟨gk - 2, by omega⟩
          rw [show (((m + 2 : Nat) : Int) - 1) = ((m + 1 : Nat) : Int) by omega]
          go_wp2_with fail
          refine (number_ok _ t _ _ hT (by omega) (by omega)).mono ?_
          rintro e w5 ⟨rfl, hT5, hO5⟩
          obtain ⟨hj0, hj1⟩ := numV_bd (n := (m : Int) + 1 + 1) (by omega) t
          obtain ⟨j, hj⟩ := Int.eq_ofNat_of_zero_le hj0
          rw [hj] at hj1 ⊢
          have HJ := Lib.hid hj
          clear hj hj0
          have hl' := hl.out
          obtain ⟨g, cap, rfl, hg1, hg2⟩ := hB.form (by omega)
          have hB5 := hB.kept hO5 (fun k hk h => by simp [Value.ownBlock] at hk; omega)
          have hci := hB5.cell rfl (i := m + 1) (by omega)
          have hcj := hB5.cell rfl (i := j) (by omega)
          have hfi := hB5.frozen rfl (m + 1)
          have hfj := hB5.frozen rfl j
          obtain ⟨v', hy'⟩ := cell?_setCell_some (w := w5) (p := ⟨g, m + 1, none⟩) (x := .int .i64 (l[j]?.getD 0)) (q := ⟨g, j, none⟩) hcj
          rw [hl'] at *
          clear hl'
          go_wp2_with fail
          go_region
          go_wp2_with fail
          go_roundg (m + 1)
          case measure => omega
          case rel =>
            refine ⟨m + 1, numS ((m : Int) + 1 + 1) t, swapL l (m + 1) j, by omega, rfl, by congr 1; omega, ?_, ?_, ?_, ?_, ?_⟩
            · exact (swapL_length _ _ _).trans hl.out
            · exact (hT5.kept (((Only.refl (fun k => k = g) w5).setCell (p := ⟨g, m + 1, none⟩) (Or.inl rfl) _).setCell (p := ⟨g, j, none⟩) (Or.inl rfl) _) (fun h => by omega)).kept (Only.refl (fun _ => False) _).drew (fun h => h)
            · exact hB5.swapped hl.out.symm (m + 1) j
            · exact (((hO.trans hO5).setCell (p := ⟨g, m + 1, none⟩) (Or.inr hg1) _).setCell (p := ⟨g, j, none⟩) (Or.inr hg1) _).drew
            · have h3 := hsh.out
              rw [show m + 2 - 1 = m + 1 by omega, shufGo, HJ.out] at h3
              exact h3
        · go_wp2_with fail
          have e : gk - 1 = 0 := by omega
          rw [e] at hsh
          have hsh' := hsh.out
          simp only [shufGo] at hsh'
          have hL5 := (hL.kept hO (by omega)).ints
          rw [shufL_length, (hL0 s).out, ← hsh'] at hL5
          have hA5 := hA3.kept hO (by omega)
          rw [(hS0 s).out, ← hsh'] at hA5
          replace U := U.next hO (fun j h => by omega)
          refine (equal_same _ _ l _ hL5 hB.ints (by have := hl.out; omega)).mono ?_
          rintro e w6 ⟨rfl, dn, rfl⟩
          have hA6 := hA5.kept ((Only.refl (fun _ => False) _).drewN dn) (fun h => h)
          have hT6 := hT.kept ((Only.refl (fun _ => False) _).drewN dn) (fun h => h)
          replace U := U.next ((Only.refl (fun _ => False) _).drewN dn) (fun j h => h.elim)
          generalize hw2 : wr.drewN dn = w6 at *
          clear hw2 hA5 hT hL5 hB hO
          go_wp2_with fail
          refine (word_src _ _ _ hA6).mono ?_
          rintro e w7 ⟨rfl, hA7, hO⟩
          have hT7 := hT6.kept hO (by omega)
          replace U := U.next hO (fun j h => by omega)
          go_wp2_with fail
          refine (word_src _ _ _ hT7).mono ?_
          rintro e w8 ⟨rfl, hT8, hO⟩
          replace U := U.next hO (fun j h => by omega)
          go_wp2_with fail
          refine (known_any _).mono ?_
          rintro e w9 ⟨rfl, hb⟩
          go_wp2_with fail
          go_ret
          exact ⟨rfl, (U.below (Nat.le_refl _)).trans (hb.mono U.size)⟩
theorem shuffles_walk (seed n : Int) (w : World) :
    Calls Try.prog 5 #[.int .i64 seed, .int .i64 n] w fun e w' => e = .returned (.bool true) ∧ Below w.heap.size w w' := by
  by_cases h : n < 0 ∨ 200 < n
  · exact shuffles_out seed n w h
  · obtain ⟨m, rfl⟩ := Int.eq_ofNat_of_zero_le (show 0 ≤ n by omega)
    exact shuffles_in seed m w (by omega)
end Go.Proofs.Ytnfhmfkcincneaa
