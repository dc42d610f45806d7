/- The contract of act at whatever call; the walk of the law RandomPlays. -/
import Derived.Test.YtnfhmfkcincneaaV
namespace Go.Proofs.Ytnfhmfkcincneaa
open Go.ChangeShapes Go.WideShapes Go.ChangeAt Go.RowKit Go.Deep
set_option maxHeartbeats 2000000
set_option maxRecDepth 100000

theorem act_any (b : Nat) (s kd n : Int) (w : World) (h : Src w b s) (hs : 0 ≤ s) (hs' : s < 18446744073709551616) (h0 : 0 ≤ kd) (h1 : kd ≤ 255) :
    Calls Try.prog 16 #[.pointer (some ⟨b, 0, none⟩), .int .u64 s, .agg #[.int .u8 kd, .int .i64 n]] w (Acted b w) := by
  have hk : kd % 6 = 0 ∨ kd % 6 = 1 ∨ kd % 6 = 2 ∨ kd % 6 = 3 ∨ kd % 6 = 4 ∨ kd % 6 = 5 := by omega
  rcases hk with hk | hk | hk | hk | hk | hk
  · exact act_word b s kd n w h hk h0 h1
  · by_cases hn : n < 1 ∨ 4611686018427387904 < n
    · exact act_number_bad b s kd n w h hs hs' hk h0 h1 hn
    · exact act_number b s kd n w h hs hs' hk h0 h1 (by omega) (by omega)
  · by_cases hn : n < 0 ∨ 4096 < n
    · exact act_shuffle_bad b s kd n w h hs hs' hk h0 h1 hn
    · exact act_shuffle b s kd n w h hs hs' hk h0 h1 (by omega) (by omega)
  · exact act_fork b s kd n w h hs hs' hk h0 h1
  · exact act_copy b s kd n w h hs hs' hk h0 h1
  · by_cases hn : n < 1
    · exact act_numbers_low b s kd n w h hs hs' hk h0 h1 hn
    · by_cases hn2 : 4611686018427387904 < n
      · exact act_numbers_high b s kd n w h hs hs' hk h0 h1 hn2
      · exact act_numbers b s kd n w h hs hs' hk h0 h1 (by omega) (by omega)

/-- A slice of calls, as it lies in memory. -/
def ActsAt (w : World) (A : Option Addr) (len : Nat) : Prop :=
  0 < len → ∃ bl off, A = some ⟨bl, off, none⟩ ∧ bl < w.heap.size ∧ ∀ i, i < len → ∃ kd n : Int, w.cell? ⟨bl, off + i * 2, none⟩ = some (.int .u8 kd) ∧ w.cell? ⟨bl, off + i * 2 + 1, none⟩ = some (.int .i64 n) ∧ 0 ≤ kd ∧ kd ≤ 255
theorem ActsAt.below {w w' : World} {A : Option Addr} {len : Nat} (h : ActsAt w A len) (hb : Below w.heap.size w w') : ActsAt w' A len := fun hl => by
  obtain ⟨bl, off, e, hlt, hc⟩ := h hl
  refine ⟨bl, off, e, Nat.lt_of_lt_of_le hlt hb.size, fun i hi => ?_⟩
  obtain ⟨kd, n, h1, h2, h3⟩ := hc i hi
  exact ⟨kd, n, (hb.cell (p := ⟨bl, off + i * 2, none⟩) hlt).trans h1, (hb.cell (p := ⟨bl, off + i * 2 + 1, none⟩) hlt).trans h2, h3⟩

theorem plays_many (seed : Int) (A : Option Addr) (len cap : Nat) (w : World) (hl : 12 < len) (hm : len ≤ 9223372036854775807) :
    Calls Try.prog 6 #[.int .i64 seed, .slice A len cap] w fun e w' => e = .returned (.bool true) ∧ Below w.heap.size w w' := by
  go_enter Try.func6, Try.ntmps6
  go_wp2_with fail
  refine (known_any _).mono ?_
  rintro e w2 ⟨rfl, hb⟩
  go_wp2_with fail
  go_ret
  exact ⟨rfl, hb⟩

theorem plays_few (seed : Int) (A : Option Addr) (len cap : Nat) (w : World) (hl : len ≤ 12) (hA : ActsAt w A len) :
    Calls Try.prog 6 #[.int .i64 seed, .slice A len cap] w fun e w' => e = .returned (.bool true) ∧ Below w.heap.size w w' := by
  have HA := Lib.hid hA
  have hd : decide ((12 : Int) < (len : Int)) = false := by simp; omega
  clear hA
  go_enter Try.func6, Try.ntmps6
  go_wp2_with fail
  go_loopg [5] len (fun m i wr => ∃ k : Nat, k ≤ len ∧ m = len - k ∧ i = .int .i64 k ∧ w = wr)
  case atStart => exact ⟨0, by omega, rfl, rfl, rfl⟩
  case round =>
    obtain ⟨k, hk, rfl, rfl, rfl⟩ := hrel
    by_cases hlt : k < len
    · obtain ⟨bl, off, rfl, hbl, hc⟩ := HA.out (by omega)
      obtain ⟨kd, n, c0, c1, b0, b1⟩ := hc k hlt
      clear hc
      go_wp2_with fail
      all_goals first
        | (refine (known_any _).mono ?_
           rintro e w2 ⟨rfl, hb⟩
           go_wp2_with fail
           go_ret
           exact ⟨rfl, hb⟩)
        | (go_roundg (len - (k + 1))
           case measure => omega
           case rel => exact ⟨k + 1, by omega, rfl, by go_num, rfl⟩)
    · go_wp2_with fail
      refine (new_src _ _).mono ?_
      rintro e w1 ⟨rfl, hS, hO⟩
      have U : Up w.heap.size w w1 := hO.mono (fun _ _ h => h.elim)
      have hsb := wrap_bd seed
      clear hO
      go_wp2_with fail
      generalize IntKind.u64.wrap seed = s at *
      go_loopg [6, 7, 8, 9] len (fun m p st fi i wr => ∃ (k b : Nat) (t : Int), k ≤ len ∧ m = len - k ∧ p = .pointer (some ⟨b, 0, none⟩) ∧ st = .int .u64 t ∧ fi = .bool true ∧ i = .int .i64 k ∧ Src wr b t ∧ w.heap.size ≤ b ∧ 0 ≤ t ∧ t < 18446744073709551616 ∧ Up w.heap.size w wr)
      case atStart => exact ⟨0, w.heap.size, s, by omega, rfl, rfl, rfl, rfl, rfl, hS, Nat.le_refl _, hsb.1, hsb.2, U⟩
      case round =>
        clear hS U hsb
        obtain ⟨k2, b, t, hk2, rfl, rfl, rfl, rfl, rfl, hS, hbB, ht0, ht1, U⟩ := hrel
        by_cases hlt2 : k2 < len
        · obtain ⟨bl, off, rfl, hbl, hc⟩ := (HA.out.below (U.below (Nat.le_refl _))) (by omega)
          obtain ⟨kd, n, c0, c1, b0, b1⟩ := hc k2 hlt2
          clear hc
          go_wp2_with fail
          refine (act_any b t kd n _ hS ht0 ht1 b0 b1).mono ?_
          rintro e w2 ⟨b', t', rfl, hS2, hO2, hb', ht0', ht1'⟩
          have z := U.size
          replace U := U.next hO2 (fun j h => by omega)
          go_wp2_with fail
          go_roundg (len - (k2 + 1))
          case measure => omega
          case rel => exact ⟨k2 + 1, b', t', by omega, rfl, rfl, rfl, rfl, by go_num, hS2, by omega, ht0', ht1', U⟩
        · go_wp2_with fail
          refine (act_any b t 0 0 _ hS ht0 ht1 (by omega) (by omega)).mono ?_
          rintro e w2 ⟨b', t', rfl, hS2, hO2, hb', ht0', ht1'⟩
          replace U := U.next hO2 (fun j h => by omega)
          go_wp2_with fail
          refine (known_any _).mono ?_
          rintro e w3 ⟨rfl, hb⟩
          go_wp2_with fail
          go_ret
          exact ⟨rfl, (U.below (Nat.le_refl _)).trans (hb.mono U.size)⟩
theorem plays_walk (seed : Int) (A : Option Addr) (len cap : Nat) (w : World) (hm : len ≤ 9223372036854775807) (hA : ActsAt w A len) :
    Calls Try.prog 6 #[.int .i64 seed, .slice A len cap] w fun e w' => e = .returned (.bool true) ∧ Below w.heap.size w w' := by
  by_cases h : 12 < len
  · exact plays_many seed A len cap w h hm
  · exact plays_few seed A len cap w (by omega) hA
end Go.Proofs.Ytnfhmfkcincneaa
