/- Contracts of package random without a source; the walk of the law RandomNone. -/
import Derived.Test.YtnfhmfkcincneaaD
import Derived.Test.YtnfhmfkcincneaaR
namespace Go.Proofs.Ytnfhmfkcincneaa
open Go.ChangeShapes Go.WideShapes Go.ChangeAt Go.RowKit Go.Deep
set_option maxHeartbeats 1000000

/-- No source: nil, or the zero value. -/
def NoSrc (w : World) (v : Value) : Prop := v = .pointer none ∨ ∃ b, v = .pointer (some ⟨b, 0, none⟩) ∧ w.cell? ⟨b, 0, none⟩ = some (.bool false)
theorem valid_no (v : Value) (w : World) (h : NoSrc w v) :
    Calls Try.prog 19 #[v] w fun e w' => e = .returned (.bool false) ∧ w = w' := by
  rcases h with rfl | ⟨b, rfl, h0⟩
  all_goals
    go_enter Try.func19, Try.ntmps19
    go_wp2
    go_ret
    exact ⟨rfl, rfl⟩
theorem word_no (v : Value) (w : World) (h : NoSrc w v) :
    Calls Try.prog 15 #[v] w fun e w' => e = .returned (.int .u64 0) ∧ w = w' := by
  go_enter Try.func15, Try.ntmps15
  go_wp2_with (go_at_call 19; refine (valid_no _ _ h).mono ?_; rintro e w' ⟨rfl, rfl⟩)
  go_ret
  exact ⟨rfl, rfl⟩
theorem number_no (n : Int) (v : Value) (w : World) (h : NoSrc w v) :
    Calls Try.prog 9 #[v, .int .i64 n] w fun e w' => e = .returned (.tuple #[.int .i64 0, .int .i64 1]) ∧ w = w' := by
  go_enter Try.func9, Try.ntmps9
  go_wp2_with (go_at_call 19; refine (valid_no _ _ h).mono ?_; rintro e w' ⟨rfl, rfl⟩)
  go_ret2
  exact ⟨rfl, rfl⟩
theorem shuffle_no (n : Int) (v : Value) (w : World) (h : NoSrc w v) :
    Calls Try.prog 12 #[v, .int .i64 n] w fun e w' => e = .returned (.tuple #[.slice none 0 0, .int .i64 1]) ∧ w = w' := by
  go_enter Try.func12, Try.ntmps12
  go_wp2_with (go_at_call 19; refine (valid_no _ _ h).mono ?_; rintro e w' ⟨rfl, rfl⟩)
  go_ret2
  exact ⟨rfl, rfl⟩
theorem fork_no (n : Int) (v : Value) (w : World) (h : NoSrc w v) :
    Calls Try.prog 14 #[v, .int .i64 n] w fun e w' => e = .returned (.tuple #[.pointer none, .int .i64 1]) ∧ w = w' := by
  go_enter Try.func14, Try.ntmps14
  go_wp2_with (go_at_call 19; refine (valid_no _ _ h).mono ?_; rintro e w' ⟨rfl, rfl⟩)
  go_ret2
  exact ⟨rfl, rfl⟩
theorem copy_no (v : Value) (w : World) (h : NoSrc w v) :
    Calls Try.prog 18 #[v] w fun e w' => e = .returned (.pointer none) ∧ w = w' := by
  go_enter Try.func18, Try.ntmps18
  go_wp2_with (go_at_call 19; refine (valid_no _ _ h).mono ?_; rintro e w' ⟨rfl, rfl⟩)
  go_ret
  exact ⟨rfl, rfl⟩
theorem NoSrc.alloc {w : World} {v : Value} (h : NoSrc w v) (o : Obj) : NoSrc (w.alloc o) v := by
  rcases h with rfl | ⟨b, rfl, h0⟩
  · exact .inl rfl
  · exact .inr ⟨b, rfl, by rw [((Only.refl (fun _ => False) w).alloc o).cell (p := ⟨b, 0, none⟩) (cell_lt h0) (fun h => h)]; exact h0⟩
theorem numbers_no (n : Int) (v : Value) (w : World) (h : NoSrc w v) :
    Calls Try.prog 17 #[v, .int .i64 n] w fun e w' => e = .returned (.func (.func 23) #[] #[.pointer (some ⟨w.heap.size + 1, 0, none⟩), .pointer (some ⟨w.heap.size, 0, none⟩)]) ∧
      w' = (w.alloc (.cells #[.int .i64 n] 3)).alloc (.cells #[.pointer none] 22) := by
  go_enter Try.func17, Try.ntmps17
  go_wp2_with fail
  refine (copy_no _ _ (h.alloc _)).mono ?_
  rintro e w' ⟨rfl, rfl⟩
  go_wp2_with fail
  go_ret
  exact ⟨rfl, rfl⟩
/-- The iterator without a source hands over nothing. -/
theorem seq_no (n : Int) (b0 b1 : Nat) (C : Nat → Prop) (w : World) (h0 : w.cell? ⟨b0, 0, none⟩ = some (.pointer none)) (h1 : w.cell? ⟨b1, 0, none⟩ = some (.int .i64 n)) :
    Seq (α := Int) Try.prog 23 #[.pointer (some ⟨b0, 0, none⟩), .pointer (some ⟨b1, 0, none⟩)] (fun x => #[.int .i64 x]) (fun xs => xs = []) (fun _ => False) C w := by
  intro l J Jx _ _ _ hJ
  refine callsIn_wide.2 ?_
  simp only [List.append_toArray, List.cons_append, List.nil_append]
  go_enter Try.func23, Try.ntmps23
  go_wp2_with fail
  refine (copy_no _ _ (.inl rfl)).mono ?_
  rintro e w' ⟨rfl, rfl⟩
  go_wp2_with fail
  refine wp_loop_rounds 1 ?_
  rw [rounds_succ]
  go_wp2_with fail
  refine (number_no _ _ _ (.inl rfl)).mono ?_
  rintro e w' ⟨rfl, rfl⟩
  go_wp2_with fail
  refine bodyPost_ret (results_none rfl _ _ _) rfl ?_
  exact ⟨⟨_, rfl⟩, C, .inl ⟨[], rfl, hJ⟩⟩
end Go.Proofs.Ytnfhmfkcincneaa
