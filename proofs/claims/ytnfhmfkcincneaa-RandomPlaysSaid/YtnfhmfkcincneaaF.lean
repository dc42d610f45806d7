/- The contracts of the reference's Shuffle and of equal at two lists that are one. -/
import Derived.Test.YtnfhmfkcincneaaD
import Derived.Test.YtnfhmfkcincneaaJ
namespace Go.Proofs.Ytnfhmfkcincneaa
open Go.ChangeShapes Go.WideShapes Go.ChangeAt Go.RowKit Go.Deep
set_option maxHeartbeats 1000000

theorem equal_same (va vb : Value) (l : List Int) (w : World) (ha : IntsAt w va l) (hb : IntsAt w vb l) (hl : l.length ≤ 9223372036854775807) :
    Calls Try.prog 13 #[va, vb] w fun e w' => e = .returned (.bool true) ∧ ∃ m, w' = w.drewN m := by
  obtain ⟨A, ca, rfl, hca⟩ := ha
  obtain ⟨C, cb, rfl, hcb⟩ := hb
  have HA := Lib.hid hca
  have HB := Lib.hid hcb
  clear hca hcb
  generalize hn : l.length = n at *
  have HN := Lib.hid hn
  clear hn
  go_enter Try.func13, Try.ntmps13
  go_wp2_with fail
  go_loopg [5] n (fun m i wr => ∃ k q : Nat, k ≤ n ∧ m = n - k ∧ i = .int .i64 k ∧ wr = w.drewN q)
  case atStart => exact ⟨0, 0, by omega, rfl, rfl, rfl⟩
  case round =>
    obtain ⟨k, q, hk, rfl, rfl, rfl⟩ := hrel
    by_cases hlt : k < n
    · obtain ⟨g, off, rfl, _, h1⟩ := HA.out (by omega)
      obtain ⟨g', off', rfl, _, h2⟩ := HB.out (by omega)
      have c1 := h1 k (by omega)
      have c2 := h2 k (by omega)
      clear h1 h2
      go_wp2_with fail
      go_quiet (fail)
      go_wp2_with fail
      go_roundg (n - (k + 1))
      case measure => omega
      case rel => exact ⟨k + 1, _, by omega, rfl, by go_num, rfl⟩
    · go_wp2_with fail
      go_ret
      exact ⟨rfl, _, rfl⟩

theorem upTo_succ (k : Nat) : upTo (k + 1) = upTo k ++ [(k : Int)] := by simp [upTo, List.range_succ]

def SomeOwn (w : World) (n : Nat) (s : Int) (e : Ending) (w' : World) : Prop :=
  ∃ v, e = .returned (.tuple #[.int .u64 (shufS n s), v]) ∧ OwnI w' w.heap.size v (shufL n s) ∧ Only (fun _ => False) w w'

theorem refShuffle_any (n : Nat) (s : Int) (w : World) (hn : n ≤ 4096) :
    Calls Try.prog 21 #[.int .u64 s, .int .i64 (n : Int)] w (SomeOwn w n s) := by
  have hS0 : Hid (shufS n s = (shufGo (n - 1) s (upTo n)).1) := rfl
  have hL0 : Hid (shufL n s = (shufGo (n - 1) s (upTo n)).2) := rfl
  go_enter Try.func21, Try.ntmps21
  go_wp2_with fail
  go_loopg [6, 7] n (fun m v i wr => ∃ k : Nat, k ≤ n ∧ m = n - k ∧ i = .int .i64 k ∧ OwnI wr w.heap.size v (upTo k) ∧ Only (fun _ => False) w wr)
  case atStart => exact ⟨0, by omega, rfl, rfl, OwnI.nil _ _, Only.refl _ _⟩
  case round =>
    obtain ⟨k, hk, rfl, rfl, hB, hO⟩ := hrel
    by_cases hlt : k < n
    · have hlen : (upTo k).length < 17000000000000 := by rw [upTo_length]; omega
      go_wp2_with (at_builtin; refine append_int rfl _ _ rfl (k : Int) hB rfl rfl hO.size hlen ?_; intro v' w' hB' hO')
      go_roundg (n - (k + 1))
      case measure => omega
      case rel =>
        refine ⟨k + 1, by omega, rfl, by go_num, by rw [upTo_succ]; exact hB', ?_⟩
        exact ⟨hO'.os.trans hO.os, hO'.tape.trans hO.tape, hO'.output.trans hO.output, Nat.le_trans hO.size hO'.size, fun j hj hn => (hO'.block j (Nat.lt_of_lt_of_le hj hO.size) (fun e => by have := (hB.lt j e).1; omega)).trans (hO.block j hj hn)⟩
    · obtain rfl : k = n := by omega
      go_wp2_with fail
      go_loopg [0, 8] k (fun m st i wr => ∃ (q : Nat) (t : Int) (l : List Int), q ≤ k ∧ m = q ∧ st = .int .u64 t ∧ i = .int .i64 ((q : Int) - 1) ∧ Hid (l.length = k) ∧ OwnI wr w.heap.size u6 l ∧ Only (fun _ => False) w wr ∧
        Hid (shufGo (q - 1) t l = shufGo (k - 1) s (upTo k)))
      case atStart => exact ⟨k, s, upTo k, Nat.le_refl _, rfl, rfl, rfl, upTo_length k, hB, hO, rfl⟩
      case round =>
        clear hB hO
        obtain ⟨q, t, l, hq, rfl, rfl, rfl, hl, hB, hO, hsh⟩ := hrel
        by_cases h2 : 2 ≤ gk
        · obtain ⟨m, rfl⟩ : ∃ m, gk = m + 2 := ⟨gk - 2, by omega⟩
          rw [show (((m + 2 : Nat) : Int) - 1) = ((m + 1 : Nat) : Int) by omega]
          go_wp2_with fail
          refine (refNumber_any _ t _ (by omega) (by omega)).mono ?_
          rintro e w2 ⟨rfl, dn, rfl⟩
          obtain ⟨hj0, hj1⟩ := numV_bd (n := (m : Int) + 1 + 1) (by omega) t
          obtain ⟨j, hj⟩ := Int.eq_ofNat_of_zero_le hj0
          rw [hj] at hj1 ⊢
          have HJ := Lib.hid hj
          clear hj hj0
          have hl' := hl.out
          obtain ⟨g, cap, rfl, hg1, hg2⟩ := hB.form (by omega)
          have hB2 := hB.kept ((Only.refl (fun _ => False) _).drewN dn) (fun _ _ h => h)
          have hO2 := hO.drewN dn
          generalize hw2 : wr.drewN dn = w2 at *
          clear hw2
          have hci := hB2.cell rfl (i := m + 1) (by omega)
          have hcj := hB2.cell rfl (i := j) (by omega)
          have hfi := hB2.frozen rfl (m + 1)
          have hfj := hB2.frozen rfl j
          obtain ⟨v', hy'⟩ := cell?_setCell_some (w := w2) (p := ⟨g, m + 1, none⟩) (x := .int .i64 (l[j]?.getD 0)) (q := ⟨g, j, none⟩) hcj
          rw [hl'] at *
          clear hl'
          go_wp2_with fail
          go_region
          go_wp2_with fail
          go_roundg (m + 1)
          case measure => omega
          case rel =>
            refine ⟨m + 1, numS ((m : Int) + 1 + 1) t, swapL l (m + 1) j, by omega, rfl, rfl, by congr 1; omega, ?_, ?_, ?_, ?_⟩
            · exact (swapL_length _ _ _).trans hl.out
            · exact hB2.swapped hl.out.symm (m + 1) j
            · exact ((hO2.setCell (p := ⟨g, m + 1, none⟩) (Or.inr hg1) _).setCell (p := ⟨g, j, none⟩) (Or.inr hg1) _).drew
            · have h3 := hsh.out
              rw [show m + 2 - 1 = m + 1 by omega, shufGo, HJ.out] at h3
              exact h3
        · go_wp2_with fail
          go_ret2
          have e : gk - 1 = 0 := by omega
          rw [e] at hsh
          have hsh' := hsh.out
          simp only [shufGo] at hsh'
          refine ⟨u6, ?_, ?_, hO⟩
          · rw [hS0.out, ← hsh']; rfl
          · rw [hL0.out, ← hsh']; exact hB
end Go.Proofs.Ytnfhmfkcincneaa
