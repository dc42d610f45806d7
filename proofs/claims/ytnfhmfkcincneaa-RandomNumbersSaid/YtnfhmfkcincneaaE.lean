/- The walk of the law RandomNumbers. -/
import Derived.Test.YtnfhmfkcincneaaD
namespace Go.Proofs.Ytnfhmfkcincneaa
open Go.ChangeShapes Go.WideShapes Go.ChangeAt Go.RowKit Go.Deep
set_option maxHeartbeats 1000000

theorem numbers_walk (seed limit : Int) (w : World) :
    Calls Try.prog 3 #[.int .i64 seed, .int .i64 limit] w fun e w' => e = .returned (.bool true) ∧ Below w.heap.size w w' := by
  go_enter Try.func3, Try.ntmps3
  go_wp2_with fail
  refine (new_src _ _).mono ?_
  rintro e w1 ⟨rfl, hS, hO⟩
  have U : Up w.heap.size w w1 := hO.mono (fun _ _ h => h.elim)
  clear hO
  go_wp2_with fail
  go_loopg [6, 7] 4 (fun m st i wr => ∃ (j : Nat) (t : Int), j ≤ 4 ∧ m = 4 - j ∧ st = .int .u64 t ∧ i = .int .i64 j ∧ Src wr w.heap.size t ∧ Up w.heap.size w wr)
  case atStart => exact ⟨0, _, by omega, rfl, rfl, rfl, hS, U⟩
  case round =>
    clear hS U
    obtain ⟨j, t, hj, rfl, rfl, rfl, hS, U⟩ := hrel
    by_cases hlt : j < 4
    · by_cases hbad : limit < 1 ∨ 4611686018427387904 < limit
      · go_wp2_with fail
        refine (number_bad _ _ _ _ hS hbad).mono ?_
        rintro e w' ⟨rfl, rfl⟩
        go_wp2_with fail
        all_goals
          go_roundg (4 - (j + 1))
          case measure => omega
          case rel => exact ⟨j + 1, t, by omega, rfl, rfl, by go_num, hS, U⟩
      · have h1 : 1 ≤ limit := by omega
        have h2 : limit ≤ 4611686018427387904 := by omega
        clear hbad
        have hv := numV_bd h1 t
        go_wp2_with fail
        refine (number_ok _ _ _ _ hS h1 h2).mono ?_
        rintro e w2 ⟨rfl, hS2, hO⟩
        replace U := U.next hO (fun j h => by omega)
        go_wp2_with fail
        refine (refNumber_any _ _ _ h1 h2).mono ?_
        rintro e w3 ⟨rfl, q, rfl⟩
        go_wp2_with fail
        all_goals
          go_roundg (4 - (j + 1))
          case measure => omega
          case rel => exact ⟨j + 1, _, by omega, rfl, rfl, by go_num, hS2.kept ((Only.refl (fun _ => False) _).drewN q) (fun h => h), U.drewN q⟩
    · go_wp2_with fail
      refine (known_any _).mono ?_
      rintro e w2 ⟨rfl, hb⟩
      go_wp2_with fail
      go_ret
      exact ⟨rfl, (U.below (Nat.le_refl _)).trans (hb.mono U.size)⟩
end Go.Proofs.Ytnfhmfkcincneaa
