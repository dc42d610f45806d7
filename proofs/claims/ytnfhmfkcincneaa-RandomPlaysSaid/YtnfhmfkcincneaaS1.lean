/- The kinds 1 to 4 of act. -/
import Derived.Test.YtnfhmfkcincneaaS
namespace Go.Proofs.Ytnfhmfkcincneaa
open Go.ChangeShapes Go.WideShapes Go.ChangeAt Go.RowKit Go.Deep
set_option maxHeartbeats 2000000
set_option maxRecDepth 100000
set_option linter.unusedVariables false

theorem act_number_bad (b : Nat) (s kd n : Int) (w : World) (h : Src w b s) (hs : 0 ≤ s) (hs' : s < 18446744073709551616) (hk : kd % 6 = 1) (h0 : 0 ≤ kd) (h1 : kd ≤ 255) (hn : n < 1 ∨ 4611686018427387904 < n) :
    Calls Try.prog 16 #[.pointer (some ⟨b, 0, none⟩), .int .u64 s, .agg #[.int .u8 kd, .int .i64 n]] w (Acted b w) := by
  have he0 : (kd % 6 == 0) = false := by simp [hk]
  have he1 : (kd % 6 == 1) = true := by simp [hk]
  have zb := h.lt
  clear hk
  go_enter Try.func16, Try.ntmps16
  go_wp2_with fail
  have hX := Six.first b s kd n w
  have hS : Src _ b s := h.kept (((((((Only.refl (fun _ => False) w).alloc (.cells #[.pointer (some ⟨b, 0, none⟩)] 22)).alloc (.cells #[.int .u64 s] 24)).alloc (.cells #[.int .u8 kd, .int .i64 n] 43)).alloc
    (.cells #[.pointer none] 22)).alloc (.cells #[.int .u64 0] 24)).alloc (.cells #[.bool false] 4)) (fun h => h)
  generalize (((((w.alloc (.cells #[.pointer (some ⟨b, 0, none⟩)] 22)).alloc (.cells #[.int .u64 s] 24)).alloc (.cells #[.int .u8 kd, .int .i64 n] 43)).alloc
    (.cells #[.pointer none] 22)).alloc (.cells #[.int .u64 0] 24)).alloc (.cells #[.bool false] 4) = W at *
  have HX := Lib.hid hX
  obtain ⟨c0, c1, c2, c3, ⟨v4, c4⟩, ⟨v5, c5⟩, ⟨v6, c6⟩, f4, f5, f6, hz, hO⟩ := hX
  have HF := Lib.hid (fun tmps h6 h7 h8 => (act_fin HX.out hS (.inl rfl) zb hs hs' (tmps := tmps) h6 h7 h8 (Only.refl (fun _ => False) _).drew).1)
  refine (number_bad _ _ _ _ hS hn).mono ?_
  rintro e w' ⟨rfl, rfl⟩
  go_wp2_with fail
  all_goals
    go_region
    go_wp2_with fail
    exact HF.out _ rfl rfl rfl

theorem act_number (b : Nat) (s kd n : Int) (w : World) (h : Src w b s) (hs : 0 ≤ s) (hs' : s < 18446744073709551616) (hk : kd % 6 = 1) (h0 : 0 ≤ kd) (h1 : kd ≤ 255) (hn : 1 ≤ n) (hn2 : n ≤ 4611686018427387904) :
    Calls Try.prog 16 #[.pointer (some ⟨b, 0, none⟩), .int .u64 s, .agg #[.int .u8 kd, .int .i64 n]] w (Acted b w) := by
  have he0 : (kd % 6 == 0) = false := by simp [hk]
  have he1 : (kd % 6 == 1) = true := by simp [hk]
  have hd1 : decide (n < 1) = false := by simp; omega
  have hd2 : decide (4611686018427387904 < n) = false := by simp; omega
  have zb := h.lt
  clear hk
  go_enter Try.func16, Try.ntmps16
  go_wp2_with fail
  have hX := Six.first b s kd n w
  have hS : Src _ b s := h.kept (((((((Only.refl (fun _ => False) w).alloc (.cells #[.pointer (some ⟨b, 0, none⟩)] 22)).alloc (.cells #[.int .u64 s] 24)).alloc (.cells #[.int .u8 kd, .int .i64 n] 43)).alloc
    (.cells #[.pointer none] 22)).alloc (.cells #[.int .u64 0] 24)).alloc (.cells #[.bool false] 4)) (fun h => h)
  generalize (((((w.alloc (.cells #[.pointer (some ⟨b, 0, none⟩)] 22)).alloc (.cells #[.int .u64 s] 24)).alloc (.cells #[.int .u8 kd, .int .i64 n] 43)).alloc
    (.cells #[.pointer none] 22)).alloc (.cells #[.int .u64 0] 24)).alloc (.cells #[.bool false] 4) = W at *
  have c0 := hX.c0
  have c3 := hX.c3
  refine (number_ok _ _ _ _ hS hn hn2).mono ?_
  rintro e W2 ⟨rfl, hS2, hO2⟩
  replace hX := hX.next hO2 zb
  clear c0 c3 hS
  have c1 := hX.c1
  have c3 := hX.c3
  go_wp2_with fail
  refine (refNumber_any _ _ _ hn hn2).mono ?_
  rintro e W3 ⟨rfl, q, rfl⟩
  replace hX := hX.next ((Only.refl (fun k => k = b) _).drewN q) zb
  replace hS2 := hS2.kept ((Only.refl (fun _ => False) _).drewN q) (fun h => h)
  generalize W2.drewN q = W3 at *
  clear c1 c3
  have HX := Lib.hid hX
  obtain ⟨c0, c1, c2, c3, ⟨v4, c4⟩, ⟨v5, c5⟩, ⟨v6, c6⟩, f4, f5, f6, hz, hO⟩ := hX
  have HF := Lib.hid (fun tmps h6 h7 h8 => (act_fin HX.out hS2 (.inl rfl) zb (numS_bd n s).1 (numS_bd n s).2 (tmps := tmps) h6 h7 h8 (Only.refl (fun _ => False) _)).1)
  go_wp2_with fail
  exact HF.out _ rfl rfl rfl

theorem act_shuffle_bad (b : Nat) (s kd n : Int) (w : World) (h : Src w b s) (hs : 0 ≤ s) (hs' : s < 18446744073709551616) (hk : kd % 6 = 2) (h0 : 0 ≤ kd) (h1 : kd ≤ 255) (hn : n < 0 ∨ 4096 < n) :
    Calls Try.prog 16 #[.pointer (some ⟨b, 0, none⟩), .int .u64 s, .agg #[.int .u8 kd, .int .i64 n]] w (Acted b w) := by
  have he0 : (kd % 6 == 0) = false := by simp [hk]
  have he1 : (kd % 6 == 1) = false := by simp [hk]
  have he2 : (kd % 6 == 2) = true := by simp [hk]
  have zb := h.lt
  clear hk
  go_enter Try.func16, Try.ntmps16
  go_wp2_with fail
  have hX := Six.first b s kd n w
  have hS : Src _ b s := h.kept (((((((Only.refl (fun _ => False) w).alloc (.cells #[.pointer (some ⟨b, 0, none⟩)] 22)).alloc (.cells #[.int .u64 s] 24)).alloc (.cells #[.int .u8 kd, .int .i64 n] 43)).alloc
    (.cells #[.pointer none] 22)).alloc (.cells #[.int .u64 0] 24)).alloc (.cells #[.bool false] 4)) (fun h => h)
  generalize (((((w.alloc (.cells #[.pointer (some ⟨b, 0, none⟩)] 22)).alloc (.cells #[.int .u64 s] 24)).alloc (.cells #[.int .u8 kd, .int .i64 n] 43)).alloc
    (.cells #[.pointer none] 22)).alloc (.cells #[.int .u64 0] 24)).alloc (.cells #[.bool false] 4) = W at *
  have HX := Lib.hid hX
  obtain ⟨c0, c1, c2, c3, ⟨v4, c4⟩, ⟨v5, c5⟩, ⟨v6, c6⟩, f4, f5, f6, hz, hO⟩ := hX
  have HF := Lib.hid (fun tmps h6 h7 h8 => (act_fin HX.out hS (.inl rfl) zb hs hs' (tmps := tmps) h6 h7 h8 (Only.refl (fun _ => False) _).drew).1)
  refine (shuffle_bad _ _ _ _ hS hn).mono ?_
  rintro e w' ⟨rfl, rfl⟩
  go_wp2_with fail
  all_goals
    go_region
    go_wp2_with fail
    exact HF.out _ rfl rfl rfl
end Go.Proofs.Ytnfhmfkcincneaa
