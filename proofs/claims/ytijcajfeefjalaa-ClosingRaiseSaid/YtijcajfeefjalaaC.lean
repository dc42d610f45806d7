/- The walks of known and of the four laws of stage 37. -/
import Derived.Test.YtijcajfeefjalaaB
namespace Go.Proofs.Ytijcajfeefjalaa
open Go.ChangeShapes Go.WideShapes Go.ChangeAt Go.RowKit
set_option maxHeartbeats 400000

/-- A boxed pair of integers at the first new block, behind calls that only made memory. -/
structure Boxed (w w1 : World) (f b : Int) : Prop where
  below : Below w.heap.size w w1
  size : w.heap.size < w1.heap.size
  c0 : w1.cell? ⟨w.heap.size, 0, none⟩ = some (.int .i64 f)
  c1 : w1.cell? ⟨w.heap.size, 1, none⟩ = some (.int .i64 b)
theorem Boxed.next {w w1 w2 : World} {f b : Int} (h : Boxed w w1 f b) (hb : Below w1.heap.size w1 w2) : Boxed w w2 f b :=
  ⟨h.below.trans (hb.mono (by have := h.size; omega)), by have := h.size; have := hb.size; omega, by rw [hb.cell (p := ⟨w.heap.size, 0, none⟩) h.size]; exact h.c0, by rw [hb.cell (p := ⟨w.heap.size, 1, none⟩) h.size]; exact h.c1⟩
theorem Boxed.first (w : World) (f b : Int) : Boxed w (w.alloc (.cells #[.int .i64 f, .int .i64 b] 23)) f b :=
  ⟨(Below.refl _ _).alloc (Nat.le_refl _) _, by simp, by simp [go_sem], by simp [go_sem]⟩

theorem k1 : neededV 100 3 500 150 = 600 := by decide +kernel
theorem k2 : neededE 100 3 500 150 = 0 := by decide +kernel
theorem k3 : neededV 100 3 500 250 = 750 := by decide +kernel
theorem k4 : neededE 100 3 500 250 = 0 := by decide +kernel
theorem k5 : missV 100 3 500 150 550 = 50 := by decide +kernel
theorem k6 : missE 100 3 500 150 550 = 0 := by decide +kernel
theorem k7 : metB 100 3 500 150 550 = false := by decide +kernel
theorem k8 : raiseV 100 3 500 150 550 = 10 := by decide +kernel
theorem k9 : raiseE 100 3 500 150 550 = 0 := by decide +kernel
theorem k10 : raiseV 100 3 500 150 54 = 0 := by decide +kernel
theorem k11 : raiseE 100 3 500 150 54 = 9 := by decide +kernel
theorem k12 : raiseV 100 3 500 150 55 = 991 := by decide +kernel
theorem k13 : raiseE 100 3 500 150 55 = 0 := by decide +kernel

set_option maxRecDepth 100000 in
theorem known_any (w : World) : Calls Try.prog 11 #[] w fun e w' => e = .returned (.bool true) ∧ Below w.heap.size w w' := by
  go_enter Try.func11, Try.ntmps11
  go_wp2_with fail
  refine (needed_any _ _ _ _ _).mono ?_
  rintro e w1 ⟨rfl, hb⟩
  have b1 := Boxed.next (Boxed.first w 100 3) hb
  have c0 := b1.c0
  have c1 := b1.c1
  rw [k1, k2]
  clear hb
  go_wp2_with fail
  clear c0 c1
  refine (needed_any _ _ _ _ _).mono ?_
  rintro e w2 ⟨rfl, hb⟩
  have b2 := Boxed.next b1 hb
  have c0 := b2.c0
  have c1 := b2.c1
  rw [k3, k4]
  clear hb b1
  go_wp2_with fail
  clear c0 c1
  refine (progMissing _ _ _ _ _ _).mono ?_
  rintro e w3 ⟨rfl, hb⟩
  have b3 := Boxed.next b2 hb
  have c0 := b3.c0
  have c1 := b3.c1
  rw [k5, k6]
  clear hb b2
  go_wp2_with fail
  clear c0 c1
  refine (progMet _ _ _ _ _ _).mono ?_
  rintro e w4 ⟨rfl, hb⟩
  have b4 := Boxed.next b3 hb
  have c0 := b4.c0
  have c1 := b4.c1
  rw [k7, k6]
  clear hb b3
  go_wp2_with fail
  clear c0 c1
  refine (progRaise _ _ _ _ _ _).mono ?_
  rintro e w5 ⟨rfl, hb⟩
  have b5 := Boxed.next b4 hb
  have c0 := b5.c0
  have c1 := b5.c1
  rw [k8, k9]
  clear hb b4
  go_wp2_with fail
  clear c0 c1
  refine (progRaise _ _ _ _ _ _).mono ?_
  rintro e w6 ⟨rfl, hb⟩
  have b6 := Boxed.next b5 hb
  have c0 := b6.c0
  have c1 := b6.c1
  rw [k10, k11]
  clear hb b5
  go_wp2_with fail
  clear c0 c1
  refine (progRaise _ _ _ _ _ _).mono ?_
  rintro e w7 ⟨rfl, hb⟩
  have b7 := Boxed.next b6 hb
  have c0 := b7.c0
  have c1 := b7.c1
  rw [k12, k13]
  clear hb b6
  go_wp2_with fail
  go_ret
  exact ⟨rfl, b7.below⟩
end Go.Proofs.Ytijcajfeefjalaa
