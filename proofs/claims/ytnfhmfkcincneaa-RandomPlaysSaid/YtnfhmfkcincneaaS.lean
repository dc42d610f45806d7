/- The contract of act, by its kinds. -/
import Derived.Test.YtnfhmfkcincneaaL
import Derived.Test.YtnfhmfkcincneaaP
import Derived.Deep.RegionWith
import Derived.Deep.RegionHeld3
namespace Go.Proofs.Ytnfhmfkcincneaa
open Go.ChangeShapes Go.WideShapes Go.ChangeAt Go.RowKit Go.Deep
set_option maxHeartbeats 2000000
set_option maxRecDepth 100000

/-- What act must come to: a source in the state that is handed back beside it, and true. -/
def Acted (b : Nat) (w : World) (e : Ending) (w' : World) : Prop :=
  ∃ b' s', e = .returned (.tuple #[.pointer (some ⟨b', 0, none⟩), .int .u64 s', .bool true]) ∧ Src w' b' s' ∧ Only (· = b) w w' ∧ (b' = b ∨ w.heap.size ≤ b') ∧ 0 ≤ s' ∧ s' < 18446744073709551616

/-- The six boxes of act: the source, the state, the call, and the three results. -/
structure Six (B b : Nat) (s kd n : Int) (w W : World) : Prop where
  c0 : W.cell? ⟨B, 0, none⟩ = some (.pointer (some ⟨b, 0, none⟩))
  c1 : W.cell? ⟨B + 1, 0, none⟩ = some (.int .u64 s)
  c2 : W.cell? ⟨B + 1 + 1, 0, none⟩ = some (.int .u8 kd)
  c3 : W.cell? ⟨B + 1 + 1, 1, none⟩ = some (.int .i64 n)
  c4 : ∃ v, W.cell? ⟨B + 1 + 1 + 1, 0, none⟩ = some v
  c5 : ∃ v, W.cell? ⟨B + 1 + 1 + 1 + 1, 0, none⟩ = some v
  c6 : ∃ v, W.cell? ⟨B + 1 + 1 + 1 + 1 + 1, 0, none⟩ = some v
  f4 : W.frozen? ⟨B + 1 + 1 + 1, 0, none⟩ = false
  f5 : W.frozen? ⟨B + 1 + 1 + 1 + 1, 0, none⟩ = false
  f6 : W.frozen? ⟨B + 1 + 1 + 1 + 1 + 1, 0, none⟩ = false
  size : B + 6 ≤ W.heap.size
  only : Only (· = b) w W
theorem Six.first (b : Nat) (s kd n : Int) (w : World) : Six w.heap.size b s kd n w ((((((w.alloc (.cells #[.pointer (some ⟨b, 0, none⟩)] 22)).alloc (.cells #[.int .u64 s] 24)).alloc (.cells #[.int .u8 kd, .int .i64 n] 43)).alloc
    (.cells #[.pointer none] 22)).alloc (.cells #[.int .u64 0] 24)).alloc (.cells #[.bool false] 4)) := by
  refine ⟨?_, ?_, ?_, ?_, ⟨.pointer none, ?_⟩, ⟨.int .u64 0, ?_⟩, ⟨.bool false, ?_⟩, ?_, ?_, ?_, ?_, ?_⟩
  all_goals first | (simp [go_sem]; done) | exact ((((((Only.refl _ w).alloc _).alloc _).alloc _).alloc _).alloc _).alloc _
theorem Six.next {B b : Nat} {s kd n : Int} {w W W' : World} (h : Six B b s kd n w W) (ho : Only (· = b) W W') (hb : b < B) : Six B b s kd n w W' := by
  have z := h.size
  have e : ∀ k o, B ≤ k → k < B + 6 → W'.cell? ⟨k, o, none⟩ = W.cell? ⟨k, o, none⟩ := fun k o h1 h2 => ho.cell (p := ⟨k, o, none⟩) (by show k < _; omega) (by show ¬ k = b; omega)
  have f : ∀ k o, B ≤ k → k < B + 6 → W'.frozen? ⟨k, o, none⟩ = W.frozen? ⟨k, o, none⟩ := fun k o h1 h2 => ho.frozen (p := ⟨k, o, none⟩) (by show k < _; omega) (by show ¬ k = b; omega)
  refine ⟨?_, ?_, ?_, ?_, ?_, ?_, ?_, ?_, ?_, ?_, Nat.le_trans z ho.size, h.only.trans ho⟩
  · rw [e _ _ (by omega) (by omega)]; exact h.c0
  · rw [e _ _ (by omega) (by omega)]; exact h.c1
  · rw [e _ _ (by omega) (by omega)]; exact h.c2
  · rw [e _ _ (by omega) (by omega)]; exact h.c3
  · rw [e _ _ (by omega) (by omega)]; exact h.c4
  · rw [e _ _ (by omega) (by omega)]; exact h.c5
  · rw [e _ _ (by omega) (by omega)]; exact h.c6
  · rw [f _ _ (by omega) (by omega)]; exact h.f4
  · rw [f _ _ (by omega) (by omega)]; exact h.f5
  · rw [f _ _ (by omega) (by omega)]; exact h.f6

/-- The world in which act returns. -/
def actW (B b' : Nat) (s' : Int) (W : World) : World :=
  ((W.setCell ⟨B + 1 + 1 + 1, 0, none⟩ (.pointer (some ⟨b', 0, none⟩))).setCell ⟨B + 1 + 1 + 1 + 1, 0, none⟩ (.int .u64 s')).setCell ⟨B + 1 + 1 + 1 + 1 + 1, 0, none⟩ (.bool true)
theorem act_cells {B b b' : Nat} {s s' kd n : Int} {w W : World} (hX : Six B b s kd n w W) :
    (actW B b' s' W).cell? ⟨B + 1 + 1 + 1, 0, none⟩ = some (.pointer (some ⟨b', 0, none⟩)) ∧ (actW B b' s' W).cell? ⟨B + 1 + 1 + 1 + 1, 0, none⟩ = some (.int .u64 s') ∧ (actW B b' s' W).cell? ⟨B + 1 + 1 + 1 + 1 + 1, 0, none⟩ = some (.bool true) := by
  obtain ⟨_, _, _, _, ⟨v4, c4⟩, ⟨v5, c5⟩, ⟨v6, c6⟩, _⟩ := hX
  unfold actW
  refine ⟨?_, ?_, ?_⟩
  · rw [World.cell?_setCell_other _ _ _ _ (by simp), World.cell?_setCell_other _ _ _ _ (by simp)]
    exact World.cell?_setCell_same _ _ _ c4
  · rw [World.cell?_setCell_other _ _ _ _ (by simp)]
    have c5' : (W.setCell ⟨B + 1 + 1 + 1, 0, none⟩ (.pointer (some ⟨b', 0, none⟩))).cell? ⟨B + 1 + 1 + 1 + 1, 0, none⟩ = some v5 := by
      rw [World.cell?_setCell_other _ _ _ _ (by simp)]; exact c5
    exact World.cell?_setCell_same _ _ _ c5'
  · have c6' : ((W.setCell ⟨B + 1 + 1 + 1, 0, none⟩ (.pointer (some ⟨b', 0, none⟩))).setCell ⟨B + 1 + 1 + 1 + 1, 0, none⟩ (.int .u64 s')).cell? ⟨B + 1 + 1 + 1 + 1 + 1, 0, none⟩ = some v6 := by
      rw [World.cell?_setCell_other _ _ _ _ (by simp), World.cell?_setCell_other _ _ _ _ (by simp)]; exact c6
    exact World.cell?_setCell_same _ _ _ c6'
theorem act_fin {b b' : Nat} {s s' kd n : Int} {w W : World} (hX : Six w.heap.size b s kd n w W) (hS : Src W b' s') (hb : b' = b ∨ w.heap.size + 6 ≤ b') (hbl : b < w.heap.size) (h1 : 0 ≤ s') (h2 : s' < 18446744073709551616)
    {tmps : Array Value} (t6 : tmps[6]?.getD undef = .pointer (some ⟨w.heap.size + 1 + 1 + 1, 0, none⟩)) (t7 : tmps[7]?.getD undef = .pointer (some ⟨w.heap.size + 1 + 1 + 1 + 1, 0, none⟩)) (t8 : tmps[8]?.getD undef = .pointer (some ⟨w.heap.size + 1 + 1 + 1 + 1 + 1, 0, none⟩))
    {WF : World} (hW : Only (fun _ => False) (actW w.heap.size b' s' W) WF) :
    bodyPost Try.prog Try.f16 (Acted b w) Exit.ret { tmps := tmps, defers := [] } WF ∧ (results Try.f16 tmps).run Try.prog WF = .ok (.tuple #[.pointer (some ⟨b', 0, none⟩), .int .u64 s', .bool true]) WF ∧ Acted b w (.returned (.tuple #[.pointer (some ⟨b', 0, none⟩), .int .u64 s', .bool true])) WF := by
  obtain ⟨c4, c5, c6⟩ := act_cells (b' := b') (s' := s') hX
  have d4 := (hW.cell (p := ⟨w.heap.size + 1 + 1 + 1, 0, none⟩) (cell_lt c4) (fun h => h)).trans c4
  have d5 := (hW.cell (p := ⟨w.heap.size + 1 + 1 + 1 + 1, 0, none⟩) (cell_lt c5) (fun h => h)).trans c5
  have d6 := (hW.cell (p := ⟨w.heap.size + 1 + 1 + 1 + 1 + 1, 0, none⟩) (cell_lt c6) (fun h => h)).trans c6
  have hr : (results Try.f16 tmps).run Try.prog WF = .ok (.tuple #[.pointer (some ⟨b', 0, none⟩), .int .u64 s', .bool true]) WF := by
    simp [results, Try.results16, go_sem, t6, t7, t8, d4, d5, d6]
  have hO : Only (fun k => k = w.heap.size + 3 ∨ k = w.heap.size + 4 ∨ k = w.heap.size + 5) W (actW w.heap.size b' s' W) :=
    (((Only.refl _ W).setCell (p := ⟨w.heap.size + 1 + 1 + 1, 0, none⟩) (.inl (.inl rfl)) _).setCell (p := ⟨w.heap.size + 1 + 1 + 1 + 1, 0, none⟩) (.inl (.inr (.inl rfl))) _).setCell (p := ⟨w.heap.size + 1 + 1 + 1 + 1 + 1, 0, none⟩) (.inl (.inr (.inr rfl))) _
  have hA : Acted b w (.returned (.tuple #[.pointer (some ⟨b', 0, none⟩), .int .u64 s', .bool true])) WF := by
    refine ⟨b', s', rfl, (hS.kept hO (by omega)).kept hW (fun h => h), ?_, by omega, h1, h2⟩
    have hz := hX.size
    refine ⟨(hW.os.trans hO.os).trans hX.only.os, (hW.tape.trans hO.tape).trans hX.only.tape, (hW.output.trans hO.output).trans hX.only.output, Nat.le_trans hX.only.size (Nat.le_trans hO.size hW.size), fun k hk hn => ?_⟩
    have hk2 : k < W.heap.size := Nat.lt_of_lt_of_le hk hX.only.size
    rw [hW.block k (Nat.lt_of_lt_of_le hk2 hO.size) (fun h => h), hO.block k hk2 (by omega)]
    exact hX.only.block k hk hn
  exact ⟨bodyPost_ret hr rfl hA, hr, hA⟩

theorem act_word (b : Nat) (s kd n : Int) (w : World) (h : Src w b s) (hk : kd % 6 = 0) (h0 : 0 ≤ kd) (h1 : kd ≤ 255) :
    Calls Try.prog 16 #[.pointer (some ⟨b, 0, none⟩), .int .u64 s, .agg #[.int .u8 kd, .int .i64 n]] w (Acted b w) := by
  have he : (kd % 6 == 0) = true := by simp [hk]
  have HK := Lib.hid hk
  have zb := h.lt
  clear hk
  go_enter Try.func16, Try.ntmps16
  go_wp2_with fail
  have hX := Six.first b s kd n w
  have hS : Src _ b s := h.kept (((((((Only.refl (fun _ => False) w).alloc (.cells #[.pointer (some ⟨b, 0, none⟩)] 22)).alloc (.cells #[.int .u64 s] 24)).alloc (.cells #[.int .u8 kd, .int .i64 n] 43)).alloc
    (.cells #[.pointer none] 22)).alloc (.cells #[.int .u64 0] 24)).alloc (.cells #[.bool false] 4)) (fun h => h)
  generalize (((((w.alloc (.cells #[.pointer (some ⟨b, 0, none⟩)] 22)).alloc (.cells #[.int .u64 s] 24)).alloc (.cells #[.int .u8 kd, .int .i64 n] 43)).alloc
    (.cells #[.pointer none] 22)).alloc (.cells #[.int .u64 0] 24)).alloc (.cells #[.bool false] 4) = W at *
  have HX := Lib.hid hX
  obtain ⟨c0, c1, c2, c3, ⟨v4, c4⟩, ⟨v5, c5⟩, ⟨v6, c6⟩, f4, f5, f6, hz, hO⟩ := hX
  refine (next_any _ _).mono ?_
  rintro e w' ⟨rfl, rfl⟩
  go_wp2_with fail
  have hX2 : Six w.heap.size b s kd n w (W.setCell ⟨b, 1, none⟩ (.int .u64 (stepS s))) := HX.out.next ((Only.refl (fun k => k = b) W).setCell (p := ⟨b, 1, none⟩) (Or.inl rfl) _) zb
  have hfin := fun tmps h6 h7 h8 => (act_fin hX2 hS.stored (.inl rfl) zb (stepS_bd s).1 (stepS_bd s).2 (tmps := tmps) h6 h7 h8 (Only.refl (fun _ => False) _).drew).1
  have HF := Lib.hid hfin
  clear hfin hX2
  have hSd : Src W.drew b s := hS.kept (Only.refl (fun _ => False) W).drew (fun h => h)
  go_region_with (go_at_call 15; refine (word_any s b _ hSd).mono ?_; rintro e w' ⟨rfl, rfl⟩)
  all_goals
    clear hS hSd c0 c1 c2 c3 c4 c5 c6 f4 f5 f6
    go_wp2_with fail
    exact HF.out _ rfl rfl rfl
end Go.Proofs.Ytnfhmfkcincneaa
