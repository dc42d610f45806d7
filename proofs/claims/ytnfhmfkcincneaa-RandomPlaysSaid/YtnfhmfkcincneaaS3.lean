/- The kinds 3 and 4 of act. -/
import Derived.Test.YtnfhmfkcincneaaS2
namespace Go.Proofs.Ytnfhmfkcincneaa
open Go.ChangeShapes Go.WideShapes Go.ChangeAt Go.RowKit Go.Deep
set_option maxHeartbeats 2000000
set_option maxRecDepth 100000
set_option linter.unusedVariables false


theorem act_fork (b : Nat) (s kd n : Int) (w : World) (h : Src w b s) (hs : 0 ≤ s) (hs' : s < 18446744073709551616) (hk : kd % 6 = 3) (h0 : 0 ≤ kd) (h1 : kd ≤ 255) :
    Calls Try.prog 16 #[.pointer (some ⟨b, 0, none⟩), .int .u64 s, .agg #[.int .u8 kd, .int .i64 n]] w (Acted b w) := by
  have he0 : (kd % 6 == 0) = false := by simp [hk]
  have he1 : (kd % 6 == 1) = false := by simp [hk]
  have he2 : (kd % 6 == 2) = false := by simp [hk]
  have he3 : (kd % 6 == 3) = true := by simp [hk]
  have zb := h.lt
  clear hk
  go_enter Try.func16, Try.ntmps16
  go_wp2_with fail
  have hX := Six.first b s kd n w
  have hS : Src _ b s := h.kept (((((((Only.refl (fun _ => False) w).alloc (.cells #[.pointer (some ⟨b, 0, none⟩)] 22)).alloc (.cells #[.int .u64 s] 24)).alloc (.cells #[.int .u8 kd, .int .i64 n] 43)).alloc
    (.cells #[.pointer none] 22)).alloc (.cells #[.int .u64 0] 24)).alloc (.cells #[.bool false] 4)) (fun h => h)
  generalize (((((w.alloc (.cells #[.pointer (some ⟨b, 0, none⟩)] 22)).alloc (.cells #[.int .u64 s] 24)).alloc (.cells #[.int .u8 kd, .int .i64 n] 43)).alloc
    (.cells #[.pointer none] 22)).alloc (.cells #[.int .u64 0] 24)).alloc (.cells #[.bool false] 4) = W at *
  refine (fork_any _ _ _ _ hS).mono ?_
  rintro e W2 ⟨rfl, hS2, hF, hO2⟩
  have zW := hX.size
  replace hX := hX.next hO2 zb
  clear hS
  have c1 := hX.c1
  have c3 := hX.c3
  go_wp2_with fail
  refine (refFork_any _ _ _).mono ?_
  rintro e W3 ⟨rfl, rfl⟩
  go_wp2_with fail
  refine (next_any _ _).mono ?_
  rintro e W3 ⟨rfl, rfl⟩
  clear c1 c3
  have c0 := hX.c0
  go_wp2_with fail
  refine (word_src _ _ _ hS2).mono ?_
  rintro e W3 ⟨rfl, hS3, hO3⟩
  replace hX := hX.next hO3 zb
  have hF3 := hF.kept hO3 (by omega)
  have hfb : 0 ≤ forkS n s ∧ forkS n s < 18446744073709551616 := by unfold forkS; exact bits_bd _ _ _
  clear c0 hF hS2
  have HX := Lib.hid hX
  obtain ⟨c0, c1, c2, c3, ⟨v4, c4⟩, ⟨v5, c5⟩, ⟨v6, c6⟩, f4, f5, f6, hz, hO⟩ := hX
  have HF := Lib.hid (fun tmps WF h6 h7 h8 hW => (act_fin HX.out hF3 (.inr (by omega)) zb hfb.1 hfb.2 (tmps := tmps) h6 h7 h8 (WF := WF) hW).1)
  go_wp2_with fail
  exact HF.out _ _ rfl rfl rfl (Only.refl (fun _ => False) _)

theorem act_copy (b : Nat) (s kd n : Int) (w : World) (h : Src w b s) (hs : 0 ≤ s) (hs' : s < 18446744073709551616) (hk : kd % 6 = 4) (h0 : 0 ≤ kd) (h1 : kd ≤ 255) :
    Calls Try.prog 16 #[.pointer (some ⟨b, 0, none⟩), .int .u64 s, .agg #[.int .u8 kd, .int .i64 n]] w (Acted b w) := by
  have he0 : (kd % 6 == 0) = false := by simp [hk]
  have he1 : (kd % 6 == 1) = false := by simp [hk]
  have he2 : (kd % 6 == 2) = false := by simp [hk]
  have he3 : (kd % 6 == 3) = false := by simp [hk]
  have he4 : (kd % 6 == 4) = true := by simp [hk]
  have zb := h.lt
  clear hk
  go_enter Try.func16, Try.ntmps16
  go_wp2_with fail
  have hX := Six.first b s kd n w
  have hS : Src _ b s := h.kept (((((((Only.refl (fun _ => False) w).alloc (.cells #[.pointer (some ⟨b, 0, none⟩)] 22)).alloc (.cells #[.int .u64 s] 24)).alloc (.cells #[.int .u8 kd, .int .i64 n] 43)).alloc
    (.cells #[.pointer none] 22)).alloc (.cells #[.int .u64 0] 24)).alloc (.cells #[.bool false] 4)) (fun h => h)
  generalize (((((w.alloc (.cells #[.pointer (some ⟨b, 0, none⟩)] 22)).alloc (.cells #[.int .u64 s] 24)).alloc (.cells #[.int .u8 kd, .int .i64 n] 43)).alloc
    (.cells #[.pointer none] 22)).alloc (.cells #[.int .u64 0] 24)).alloc (.cells #[.bool false] 4) = W at *
  refine (copy_any _ _ _ hS).mono ?_
  rintro e W2 ⟨rfl, hw2⟩
  have zW := hX.size
  have hO2 : Only (fun _ => False) W W2 := by rw [hw2]; exact (Only.refl _ _).alloc _
  have hC : Src W2 W.heap.size s := by rw [hw2]; exact Src.new W s
  clear hw2
  replace hX := hX.next (hO2.mono (fun _ _ h => h.elim)) zb
  have hS2 := hS.kept hO2 (fun h => h)
  clear hS
  have c1 := hX.c1
  go_wp2_with fail
  refine (next_any _ _).mono ?_
  rintro e W3 ⟨rfl, rfl⟩
  clear c1
  have hX2 := hX.next ((Only.refl (fun k => k = b) W2).setCell (p := ⟨b, 1, none⟩) (Or.inl rfl) (.int .u64 (stepS s))) zb
  have hC2 := hC.kept ((Only.refl (fun k => k = b) W2).setCell (p := ⟨b, 1, none⟩) (Or.inl rfl) (.int .u64 (stepS s))) (by omega)
  have hSd : Src W2.drew b s := hS2.kept (Only.refl (fun _ => False) W2).drew (fun h => h)
  have HF := Lib.hid (fun tmps WF h6 h7 h8 hW => (act_fin hX2 hC2 (.inr (by omega)) zb hs hs' (tmps := tmps) h6 h7 h8 (WF := WF) hW).1)
  have HX := Lib.hid hX
  obtain ⟨c0, c1, c2, c3, ⟨v4, c4⟩, ⟨v5, c5⟩, ⟨v6, c6⟩, f4, f5, f6, hz, hO⟩ := hX
  clear hX2 hC2 hS2
  go_wp2_with fail
  go_region_with (go_at_call 15; refine (word_any s b _ hSd).mono ?_; rintro e w' ⟨rfl, rfl⟩)
  all_goals
    clear hSd c0 c1 c2 c3 c4 c5 c6 f4 f5 f6
    go_wp2_with fail
    exact HF.out _ _ rfl rfl rfl (Only.refl (fun _ => False) _).drew
end Go.Proofs.Ytnfhmfkcincneaa
