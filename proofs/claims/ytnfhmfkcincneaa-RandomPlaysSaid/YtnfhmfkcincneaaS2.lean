/- The kinds 2 to 4 of act. -/
import Derived.Test.YtnfhmfkcincneaaS1
namespace Go.Proofs.Ytnfhmfkcincneaa
open Go.ChangeShapes Go.WideShapes Go.ChangeAt Go.RowKit Go.Deep
set_option maxHeartbeats 2000000
set_option maxRecDepth 100000
set_option linter.unusedVariables false


theorem shufGo_bd : ∀ (k : Nat) (s : Int) (l : List Int), 0 ≤ s → s < 18446744073709551616 → 0 ≤ (shufGo k s l).1 ∧ (shufGo k s l).1 < 18446744073709551616
  | 0, _, _, h, h' => ⟨h, h'⟩
  | k + 1, s, l, _, _ => by unfold shufGo; exact shufGo_bd k _ _ (numS_bd _ _).1 (numS_bd _ _).2
theorem shufS_bd (n : Nat) (s : Int) (h : 0 ≤ s) (h' : s < 18446744073709551616) : 0 ≤ shufS n s ∧ shufS n s < 18446744073709551616 := shufGo_bd _ _ _ h h'
theorem act_shuffle (b : Nat) (s kd n : Int) (w : World) (h : Src w b s) (hs : 0 ≤ s) (hs' : s < 18446744073709551616) (hk : kd % 6 = 2) (h0 : 0 ≤ kd) (h1 : kd ≤ 255) (hn : 0 ≤ n) (hn2 : n ≤ 4096) :
    Calls Try.prog 16 #[.pointer (some ⟨b, 0, none⟩), .int .u64 s, .agg #[.int .u8 kd, .int .i64 n]] w (Acted b w) := by
  have he0 : (kd % 6 == 0) = false := by simp [hk]
  have he1 : (kd % 6 == 1) = false := by simp [hk]
  have he2 : (kd % 6 == 2) = true := by simp [hk]
  obtain ⟨m, rfl⟩ := Int.eq_ofNat_of_zero_le hn
  have hd1 : decide ((m : Int) < 0) = false := by simp
  have hd2 : decide ((4096 : Int) < (m : Int)) = false := by simp; omega
  have zb := h.lt
  clear hk
  go_enter Try.func16, Try.ntmps16
  go_wp2_with fail
  have hX := Six.first b s kd (m : Int) w
  have hS : Src _ b s := h.kept (((((((Only.refl (fun _ => False) w).alloc (.cells #[.pointer (some ⟨b, 0, none⟩)] 22)).alloc (.cells #[.int .u64 s] 24)).alloc (.cells #[.int .u8 kd, .int .i64 (m : Int)] 43)).alloc
    (.cells #[.pointer none] 22)).alloc (.cells #[.int .u64 0] 24)).alloc (.cells #[.bool false] 4)) (fun h => h)
  generalize (((((w.alloc (.cells #[.pointer (some ⟨b, 0, none⟩)] 22)).alloc (.cells #[.int .u64 s] 24)).alloc (.cells #[.int .u8 kd, .int .i64 (m : Int)] 43)).alloc
    (.cells #[.pointer none] 22)).alloc (.cells #[.int .u64 0] 24)).alloc (.cells #[.bool false] 4) = W at *
  refine (shuffle_ok m _ _ _ hS (by omega)).mono ?_
  rintro e W2 ⟨rfl, hS2, hL, hO2⟩
  have zW := hX.size
  replace hX := hX.next hO2 zb
  clear hS
  have c1 := hX.c1
  have c3 := hX.c3
  go_wp2_with fail
  refine (refShuffle_any m _ _ (by omega)).mono ?_
  rintro e W3 ⟨v, rfl, hV, hO3⟩
  replace hX := hX.next (hO3.mono (fun _ _ h => h.elim)) zb
  replace hS2 := hS2.kept hO3 (fun h => h)
  replace hL := hL.kept hO3 (fun h => h)
  have hll := shufL_length m s
  have hLi := hL.ints
  have hVi := hV.ints
  rw [hll] at hLi
  have hlen : (shufL m s).length ≤ 9223372036854775807 := by omega
  have HL := Lib.hid hll
  have hsb : 0 ≤ shufS m s ∧ shufS m s < 18446744073709551616 := shufS_bd m s hs hs'
  clear hll c1 c3 hL hV
  have HX := Lib.hid hX
  obtain ⟨c0, c1, c2, c3, ⟨v4, c4⟩, ⟨v5, c5⟩, ⟨v6, c6⟩, f4, f5, f6, hz, hO⟩ := hX
  have HF := Lib.hid (fun tmps WF h6 h7 h8 hW => (act_fin HX.out hS2 (.inl rfl) zb hsb.1 hsb.2 (tmps := tmps) h6 h7 h8 (WF := WF) hW).1)
  go_wp2_with fail
  go_region_with (go_at_call 13; refine (equal_same _ _ _ _ (hLi.kept (Only.refl (fun _ => False) W3).drew (fun _ _ _ _ _ h => h)) (hVi.kept (Only.refl (fun _ => False) W3).drew (fun _ _ _ _ _ h => h)) hlen).mono ?_; rintro e w' ⟨rfl, qd, rfl⟩)
  all_goals
    clear c0 c1 c2 c3 c4 c5 c6 f4 f5 f6 hLi hVi hS2
    go_wp2_with fail
    refine HF.out _ _ rfl rfl rfl ?_
    first | exact (Only.refl (fun _ => False) _).drewN _ | exact ((Only.refl (fun _ => False) _).drewN _).drew | exact ((Only.refl (fun _ => False) _).drew).drewN _ | exact (Only.refl (fun _ => False) _).drew
end Go.Proofs.Ytnfhmfkcincneaa
