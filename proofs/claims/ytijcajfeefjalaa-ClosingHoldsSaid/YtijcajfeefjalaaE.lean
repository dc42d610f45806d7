/- The walks of the laws ClosingMet and ClosingRaise. -/
import Derived.Test.YtijcajfeefjalaaD
namespace Go.Proofs.Ytijcajfeefjalaa
open Go.ChangeShapes Go.WideShapes Go.ChangeAt Go.RowKit
set_option maxHeartbeats 400000
set_option maxRecDepth 100000 in
theorem met_walk (f b c u p : Int) (w : World) :
    Calls Try.prog 4 #[.agg #[.int .i64 f, .int .i64 b], .int .i64 c, .int .i64 u, .int .i64 p] w fun e w' => e = .returned (.bool true) ∧ Below w.heap.size w w' := by
  go_enter Try.func4, Try.ntmps4
  go_wp2_with fail
  refine (progMissing _ _ _ _ _ _).mono ?_
  rintro e w1 ⟨rfl, hb⟩
  have b1 := Boxed.next (Boxed.first w f b) hb
  have c0 := b1.c0
  have c1 := b1.c1
  clear hb 
  go_wp2_with fail
  clear c0 c1
  refine (refMissing _ _ _ _ _ _).mono ?_
  rintro e w2 ⟨rfl, hb⟩
  have b2 := Boxed.next b1 hb
  have c0 := b2.c0
  have c1 := b2.c1
  clear hb b1
  go_wp2_with fail
  clear c0 c1
  refine (progMet _ _ _ _ _ _).mono ?_
  rintro e w3 ⟨rfl, hb⟩
  have b3 := Boxed.next b2 hb
  have c0 := b3.c0
  have c1 := b3.c1
  clear hb b2
  go_wp2_with fail
  clear c0 c1
  refine (refMet _ _ _ _ _ _).mono ?_
  rintro e w4 ⟨rfl, hb⟩
  have b4 := Boxed.next b3 hb
  have c0 := b4.c0
  have c1 := b4.c1
  clear hb b3
  go_wp2_with fail
  clear c0 c1
  refine (known_any _).mono ?_
  rintro e w5 ⟨rfl, hb⟩
  have b5 := Boxed.next b4 hb
  clear hb b4
  go_wp2_with fail
  go_ret
  exact ⟨rfl, b5.below⟩
set_option maxRecDepth 100000 in
theorem raise_walk (f b c u p : Int) (w : World) :
    Calls Try.prog 5 #[.agg #[.int .i64 f, .int .i64 b], .int .i64 c, .int .i64 u, .int .i64 p] w fun e w' => e = .returned (.bool true) ∧ Below w.heap.size w w' := by
  go_enter Try.func5, Try.ntmps5
  go_wp2_with fail
  refine (progRaise _ _ _ _ _ _).mono ?_
  rintro e w1 ⟨rfl, hb⟩
  have b1 := Boxed.next (Boxed.first w f b) hb
  have c0 := b1.c0
  have c1 := b1.c1
  clear hb 
  go_wp2_with fail
  clear c0 c1
  refine (refRaise _ _ _ _ _ _).mono ?_
  rintro e w2 ⟨rfl, hb⟩
  have b2 := Boxed.next b1 hb
  have c0 := b2.c0
  have c1 := b2.c1
  clear hb b1
  go_wp2_with fail
  clear c0 c1
  refine (known_any _).mono ?_
  rintro e w5 ⟨rfl, hb⟩
  have b5 := Boxed.next b2 hb
  clear hb b2
  go_wp2_with fail
  go_ret
  exact ⟨rfl, b5.below⟩
end Go.Proofs.Ytijcajfeefjalaa
