/- The walk of the law RandomNone. -/
import Derived.Test.YtnfhmfkcincneaaO
import Derived.TacticsIn
import Derived.RegionIn
namespace Go.Proofs.Ytnfhmfkcincneaa
open Go.ChangeShapes Go.WideShapes Go.ChangeAt Go.RowKit Go.Deep
attribute [local go_sem] Oper.semAt_some
set_option maxHeartbeats 2000000
set_option maxRecDepth 100000

theorem seq_ne_nil (k : FuncId) (lb : Array Value) (w : World) : (binOp .eql 51 (.func (.func k) #[] lb) .nilFunc).run Try.prog w = .ok (.bool false) w := by
  kernel_rfl
theorem none_walk (n : Int) (w : World) :
    Calls Try.prog 7 #[.int .i64 n] w fun e w' => e = .returned (.bool true) ∧ Below w.heap.size w w' := by
  have hne := fun lb w => seq_ne_nil 23 lb w
  refine calls_of_wp_marks Try.func7 rfl ?_
  simp only [Try.ntmps7, List.size_toArray, List.length_cons, List.length_nil, Nat.reduceAdd, Nat.reduceSub, Array.replicate_succ, Array.replicate_zero, List.push_toArray, List.append_toArray, List.nil_append, List.cons_append]
  go_wp2_with fail
  have hr0 : (((w.alloc (.cells #[.bool false] 4)).alloc (.cells #[.bool false, .int .u64 0] 48)).alloc (.cells #[.pointer none, .pointer (some ⟨w.heap.size + 1, 0, none⟩)] 22)).cell? ⟨w.heap.size, 0, none⟩ = some (.bool false) := by simp [go_sem]
  have hz0 : (((w.alloc (.cells #[.bool false] 4)).alloc (.cells #[.bool false, .int .u64 0] 48)).alloc (.cells #[.pointer none, .pointer (some ⟨w.heap.size + 1, 0, none⟩)] 22)).cell? ⟨w.heap.size + 1, 0, none⟩ = some (.bool false) := by simp [go_sem]
  have hs0 : (((w.alloc (.cells #[.bool false] 4)).alloc (.cells #[.bool false, .int .u64 0] 48)).alloc (.cells #[.pointer none, .pointer (some ⟨w.heap.size + 1, 0, none⟩)] 22)).cell? ⟨w.heap.size + 1 + 1, 0, none⟩ = some (.pointer none) := by simp [go_sem]
  have hs1 : (((w.alloc (.cells #[.bool false] 4)).alloc (.cells #[.bool false, .int .u64 0] 48)).alloc (.cells #[.pointer none, .pointer (some ⟨w.heap.size + 1, 0, none⟩)] 22)).cell? ⟨w.heap.size + 1 + 1, 1, none⟩ = some (.pointer (some ⟨w.heap.size + 1, 0, none⟩)) := by simp [go_sem]
  have hf0 : (((w.alloc (.cells #[.bool false] 4)).alloc (.cells #[.bool false, .int .u64 0] 48)).alloc (.cells #[.pointer none, .pointer (some ⟨w.heap.size + 1, 0, none⟩)] 22)).frozen? ⟨w.heap.size, 0, none⟩ = false := by simp [go_sem]
  have U : Up w.heap.size w (((w.alloc (.cells #[.bool false] 4)).alloc (.cells #[.bool false, .int .u64 0] 48)).alloc (.cells #[.pointer none, .pointer (some ⟨w.heap.size + 1, 0, none⟩)] 22)) := (((Only.refl _ w).alloc _).alloc _).alloc _
  have hsz : w.heap.size + 3 ≤ (((w.alloc (.cells #[.bool false] 4)).alloc (.cells #[.bool false, .int .u64 0] 48)).alloc (.cells #[.pointer none, .pointer (some ⟨w.heap.size + 1, 0, none⟩)] 22)).heap.size := by simp
  generalize ((w.alloc (.cells #[.bool false] 4)).alloc (.cells #[.bool false, .int .u64 0] 48)).alloc (.cells #[.pointer none, .pointer (some ⟨w.heap.size + 1, 0, none⟩)] 22) = w3 at *
  refine wp_loop_rounds 3 ?_
  rw [rounds_succ]
  go_wp2_with fail
  refine (number_no _ _ _ (.inl rfl)).mono ?_
  rintro e w' ⟨rfl, rfl⟩
  go_wp2_with fail
  refine (shuffle_no _ _ _ (.inl rfl)).mono ?_
  rintro e w' ⟨rfl, rfl⟩
  go_wp2_with fail
  refine (fork_no _ _ _ (.inl rfl)).mono ?_
  rintro e w' ⟨rfl, rfl⟩
  go_wp2_with fail
  refine (numbers_no _ _ _ (.inl rfl)).mono ?_
  rintro e wn0 ⟨rfl, hwn⟩
  have hO0 : Only (fun _ => False) w3 wn0 := by rw [hwn]; exact ((Only.refl _ _).alloc _).alloc _
  have hc0 : wn0.cell? ⟨w3.heap.size + 1, 0, none⟩ = some (.pointer none) := by rw [hwn]; simp [go_sem]
  have hc1 : wn0.cell? ⟨w3.heap.size, 0, none⟩ = some (.int .i64 n) := by rw [hwn]; simp [go_sem]
  clear hwn
  have hzn := (hO0.cell (p := ⟨w.heap.size + 1, 0, none⟩) (cell_lt hz0) (fun h => h)).trans hz0
  have hrn := (hO0.cell (p := ⟨w.heap.size, 0, none⟩) (cell_lt hr0) (fun h => h)).trans hr0
  have hfn := (hO0.frozen (p := ⟨w.heap.size, 0, none⟩) (cell_lt hr0) (fun h => h)).trans hf0
  go_wp2_with fail
  refine (word_no _ _ (.inl rfl)).mono ?_
  rintro e w' ⟨rfl, rfl⟩
  go_wp2_with fail
  refine (copy_no _ _ (.inl rfl)).mono ?_
  rintro e w' ⟨rfl, rfl⟩
  go_wp2_with fail
  have hN0 : w.heap.size + 3 ≤ wn0.heap.size := Nat.le_trans hsz hO0.size
  refine wp_rangeFunc (α := Int) (gf := 23) (lb := #[.pointer (some ⟨w3.heap.size + 1, 0, none⟩), .pointer (some ⟨w3.heap.size, 0, none⟩)]) rfl (enters Try.func23 (by kernel_rfl) rfl)
    (encs := fun x => #[.int .i64 x]) (S := fun xs => xs = []) (Sp := fun _ => False) (fun k => k < wn0.heap.size) (fun k h => h) ?seq0 (fun _ => rfl)
    (fun C pre W => (∀ k, k < wn0.heap.size → C k) ∧ Only (fun k => wn0.heap.size ≤ k) wn0 W) (fun _ _ _ _ => True) ?hI0 (fun _ _ _ _ _ _ _ _ _ => trivial) ⟨fun _ h => h, Only.refl _ _⟩
    ?a0 ?assign0 ?body0 ?done0 (fun _ _ _ _ h => h.elim)
  case seq0 =>
    intro o
    refine seq_no n _ _ _ _ ?_ ?_
    · rw [(((Only.refl (fun _ => False) wn0).alloc _).alloc _).cell (p := ⟨w3.heap.size + 1, 0, none⟩) (cell_lt hc0) (fun h => h)]; exact hc0
    · rw [(((Only.refl (fun _ => False) wn0).alloc _).alloc _).cell (p := ⟨w3.heap.size, 0, none⟩) (cell_lt hc1) (fun h => h)]; exact hc1
  case hI0 =>
    rintro C pre A B T ⟨hC, hA⟩ hAB hT
    exact ⟨hC, hA.trans (hAB.mono fun k _ hk => Nat.le_of_not_lt fun h => hT k hk (hC k h))⟩
  case assign0 =>
    intro x W K hK
    gi_wp2
    exact hK
  case body0 =>
    rintro C pre x W ⟨hC, hO⟩
    have hrW := (hO.cell (p := ⟨w.heap.size, 0, none⟩) (cell_lt hrn) (by show ¬ _ ≤ w.heap.size; omega)).trans hrn
    have hfW := (hO.frozen (p := ⟨w.heap.size, 0, none⟩) (cell_lt hrn) (by show ¬ _ ≤ w.heap.size; omega)).trans hfn
    gi_wp2
    exact ⟨C, (Only.refl C W).setCell (p := ⟨w.heap.size, 0, none⟩) (.inl (hC w.heap.size (by omega))) _, fun k h => .inl h, trivial⟩
  case done0 =>
  rintro C xs w4 rfl ⟨_, hOd⟩ hD0 _
  have hr1 := (hOd.cell (p := ⟨w.heap.size, 0, none⟩) (cell_lt hrn) (by show ¬ _ ≤ w.heap.size; omega)).trans hrn
  have hf1 := (hOd.frozen (p := ⟨w.heap.size, 0, none⟩) (cell_lt hrn) (by show ¬ _ ≤ w.heap.size; omega)).trans hfn
  have hz1 := (hOd.cell (p := ⟨w.heap.size + 1, 0, none⟩) (cell_lt hzn) (by show ¬ _ ≤ w.heap.size + 1; omega)).trans hzn
  have hs1b := (hOd.cell (p := ⟨w.heap.size + 1 + 1, 1, none⟩) (by show w.heap.size + 1 + 1 < _; omega) (by show ¬ _ ≤ w.heap.size + 1 + 1; omega)).trans ((hO0.cell (p := ⟨w.heap.size + 1 + 1, 1, none⟩) (cell_lt hs1) (fun h => h)).trans hs1)
  have hsz1 : w.heap.size + 3 ≤ w4.heap.size := Nat.le_trans hN0 hOd.size
  have zD : wn0.heap.size < w4.heap.size := (Array.getElem?_eq_some_iff.1 hD0).1
  replace U := (U.next hO0 (fun _ h => h.elim)).next hOd (fun k h => by omega)
  generalize wn0.heap.size = D0 at *
  have hW0 : w.heap.size + 3 ≤ D0 := hN0
  clear hc0 hc1 hO0 hOd hrn hzn hfn hr0 hf0 hz0 hs0 hs1 hsz hN0
  go_wp2_with fail
  rw [rounds_succ]
  go_wp2_with fail
  refine (number_no _ _ _ (.inr ⟨_, rfl, hz1⟩)).mono ?_
  rintro e w' ⟨rfl, rfl⟩
  go_wp2_with fail
  refine (shuffle_no _ _ _ (.inr ⟨_, rfl, hz1⟩)).mono ?_
  rintro e w' ⟨rfl, rfl⟩
  go_wp2_with fail
  refine (fork_no _ _ _ (.inr ⟨_, rfl, hz1⟩)).mono ?_
  rintro e w' ⟨rfl, rfl⟩
  go_wp2_with fail
  refine (numbers_no _ _ _ (.inr ⟨_, rfl, hz1⟩)).mono ?_
  rintro e wn1 ⟨rfl, hwn⟩
  have hO1 : Only (fun _ => False) w4 wn1 := by rw [hwn]; exact ((Only.refl _ _).alloc _).alloc _
  have hc0 : wn1.cell? ⟨w4.heap.size + 1, 0, none⟩ = some (.pointer none) := by rw [hwn]; simp [go_sem]
  have hc1 : wn1.cell? ⟨w4.heap.size, 0, none⟩ = some (.int .i64 n) := by rw [hwn]; simp [go_sem]
  clear hwn
  have hzn := (hO1.cell (p := ⟨w.heap.size + 1, 0, none⟩) (cell_lt hz1) (fun h => h)).trans hz1
  have hrn := (hO1.cell (p := ⟨w.heap.size, 0, none⟩) (cell_lt hr1) (fun h => h)).trans hr1
  have hfn := (hO1.frozen (p := ⟨w.heap.size, 0, none⟩) (cell_lt hr1) (fun h => h)).trans hf1
  go_wp2_with fail
  refine (word_no _ _ (.inr ⟨_, rfl, hzn⟩)).mono ?_
  rintro e w' ⟨rfl, rfl⟩
  go_wp2_with fail
  refine (copy_no _ _ (.inr ⟨_, rfl, hzn⟩)).mono ?_
  rintro e w' ⟨rfl, rfl⟩
  go_wp2_with fail
  have hN1 : w.heap.size + 3 ≤ wn1.heap.size := Nat.le_trans hsz1 hO1.size
  refine wp_rangeFunc (α := Int) (gf := 23) (lb := #[.pointer (some ⟨w4.heap.size + 1, 0, none⟩), .pointer (some ⟨w4.heap.size, 0, none⟩)]) rfl (enters Try.func23 (by kernel_rfl) rfl)
    (encs := fun x => #[.int .i64 x]) (S := fun xs => xs = []) (Sp := fun _ => False) (fun k => k < wn1.heap.size) (fun k h => h) ?seq1 (fun _ => rfl)
    (fun C pre W => (∀ k, k < wn1.heap.size → C k) ∧ Only (fun k => wn1.heap.size ≤ k) wn1 W) (fun _ _ _ _ => True) ?hI1 (fun _ _ _ _ _ _ _ _ _ => trivial) ⟨fun _ h => h, Only.refl _ _⟩
    ?a1 ?assign1 ?body1 ?done1 (fun _ _ _ _ h => h.elim)
  case seq1 =>
    intro o
    refine seq_no n _ _ _ _ ?_ ?_
    · rw [(((Only.refl (fun _ => False) wn1).alloc _).alloc _).cell (p := ⟨w4.heap.size + 1, 0, none⟩) (cell_lt hc0) (fun h => h)]; exact hc0
    · rw [(((Only.refl (fun _ => False) wn1).alloc _).alloc _).cell (p := ⟨w4.heap.size, 0, none⟩) (cell_lt hc1) (fun h => h)]; exact hc1
  case hI1 =>
    rintro C pre A B T ⟨hC, hA⟩ hAB hT
    exact ⟨hC, hA.trans (hAB.mono fun k _ hk => Nat.le_of_not_lt fun h => hT k hk (hC k h))⟩
  case assign1 =>
    intro x W K hK
    gi_wp2
    exact hK
  case body1 =>
    rintro C pre x W ⟨hC, hO⟩
    have hrW := (hO.cell (p := ⟨w.heap.size, 0, none⟩) (cell_lt hrn) (by show ¬ _ ≤ w.heap.size; omega)).trans hrn
    have hfW := (hO.frozen (p := ⟨w.heap.size, 0, none⟩) (cell_lt hrn) (by show ¬ _ ≤ w.heap.size; omega)).trans hfn
    gi_wp2
    exact ⟨C, (Only.refl C W).setCell (p := ⟨w.heap.size, 0, none⟩) (.inl (hC w.heap.size (by omega))) _, fun k h => .inl h, trivial⟩
  case done1 =>
  rintro C xs w5 rfl ⟨_, hOd⟩ hD1 _
  have hr2 := (hOd.cell (p := ⟨w.heap.size, 0, none⟩) (cell_lt hrn) (by show ¬ _ ≤ w.heap.size; omega)).trans hrn
  have hf2 := (hOd.frozen (p := ⟨w.heap.size, 0, none⟩) (cell_lt hrn) (by show ¬ _ ≤ w.heap.size; omega)).trans hfn
  have hz2 := (hOd.cell (p := ⟨w.heap.size + 1, 0, none⟩) (cell_lt hzn) (by show ¬ _ ≤ w.heap.size + 1; omega)).trans hzn
  have hD0' : w5.heap[D0]? = some (.deferred (some [])) := (hOd.block D0 (Nat.lt_of_lt_of_le zD hO1.size) (by have := hO1.size; omega)).trans ((hO1.block D0 zD (fun h => h)).trans hD0)
  have zD1 : wn1.heap.size < w5.heap.size := (Array.getElem?_eq_some_iff.1 hD1).1
  replace U := (U.next hO1 (fun _ h => h.elim)).next hOd (fun k h => by omega)
  have hne01 : D0 < wn1.heap.size := Nat.lt_of_lt_of_le zD hO1.size
  generalize wn1.heap.size = D1 at *
  have hW1 : w.heap.size + 3 ≤ D1 := hN1
  clear hc0 hc1 hO1 hOd hrn hzn hfn hr1 hf1 hz1 hsz1 hN1 hD0 zD hs1b hz2
  go_wp2_with fail
  rw [rounds_succ]
  go_wp2_with fail
  refine (known_any _).mono ?_
  rintro e w6 ⟨rfl, hb⟩
  have hr6 := (hb.cell (p := ⟨w.heap.size, 0, none⟩) (cell_lt hr2)).trans hr2
  have hf6 := (hb.frozen (p := ⟨w.heap.size, 0, none⟩) (cell_lt hr2)).trans hf2
  have hD06 := (hb.block D0 (by omega)).trans hD0'
  have hD16 := (hb.block D1 zD1).trans hD1
  have U6 := U.next (Only.of_below_new hb (fun _ => False)) (fun _ h => h.elim)
  go_wp2_with fail
  have hx7 : ((((w6.setCell ⟨w.heap.size, 0, none⟩ (.bool true)).putObj D1 (.deferred none)).putObj D0 (.deferred none))).cell? ⟨w.heap.size, 0, none⟩ = some (.bool true) := by
    have h1 : (w6.setCell ⟨w.heap.size, 0, none⟩ (.bool true)).cell? ⟨w.heap.size, 0, none⟩ = some (.bool true) := by simp [go_sem, hr6]
    have hO := ((Only.refl (fun k => k = D1 ∨ k = D0) (w6.setCell ⟨w.heap.size, 0, none⟩ (.bool true))).putObj (r := D1) (.inl (.inl rfl)) (.deferred none)).putObj (r := D0) (.inl (.inr rfl)) (.deferred none)
    rw [hO.cell (p := ⟨w.heap.size, 0, none⟩) (cell_lt h1) (by show ¬ (w.heap.size = D1 ∨ w.heap.size = D0); omega)]
    exact h1
  refine ⟨by simp, .inl ⟨D1, _, rfl, run_takeDeferred ?_, ⟨by simp, .inl ⟨D0, _, rfl, run_takeDeferred ?_, ?_⟩⟩⟩⟩
  · exact (Below.heap_setCell _ _ _ _ (by show D1 ≠ w.heap.size; omega)).trans hD16
  · rw [World.putObj_heap_other (by omega)]
    exact (Below.heap_setCell _ _ _ _ (by show D0 ≠ w.heap.size; omega)).trans hD06
  · refine ⟨.bool true, ?_, rfl, ?_⟩
    · simp [results, Try.results7, go_sem, hx7]
    · have hO := ((Only.refl (fun k => w.heap.size ≤ k) (w6.setCell ⟨w.heap.size, 0, none⟩ (.bool true))).putObj (r := D1) (.inl (by omega)) (.deferred none)).putObj (r := D0) (.inl (by omega)) (.deferred none)
      exact Only.below ((U6.setCell (p := ⟨w.heap.size, 0, none⟩) (.inl (Nat.le_refl _)) _).trans hO) (Nat.le_refl _) (fun _ h => h)
end Go.Proofs.Ytnfhmfkcincneaa
