/- The iterator of Numbers over a source. -/
import Derived.Test.YtnfhmfkcincneaaS3
import Derived.Test.YtnfhmfkcincneaaR2
import Derived.Sort.LoopGhostIn
namespace Go.Proofs.Ytnfhmfkcincneaa
open Go.ChangeShapes Go.WideShapes Go.ChangeAt Go.RowKit Go.Deep
attribute [local go_sem] Oper.semAt_some
set_option maxHeartbeats 2000000
set_option maxRecDepth 100000

theorem numbers_any (n s : Int) (b : Nat) (w : World) (h : Src w b s) :
    Calls Try.prog 17 #[.pointer (some ⟨b, 0, none⟩), .int .i64 n] w fun e w' => e = .returned (.func (.func 23) #[] #[.pointer (some ⟨w.heap.size + 1 + 1, 0, none⟩), .pointer (some ⟨w.heap.size, 0, none⟩)]) ∧
      w'.cell? ⟨w.heap.size + 1 + 1, 0, none⟩ = some (.pointer (some ⟨w.heap.size + 1, 0, none⟩)) ∧ w'.cell? ⟨w.heap.size, 0, none⟩ = some (.int .i64 n) ∧ Src w' (w.heap.size + 1) s ∧ Only (fun _ => False) w w' ∧ w.heap.size + 3 ≤ w'.heap.size := by
  have hS := h.kept ((Only.refl (fun _ => False) w).alloc (.cells #[.int .i64 n] 3)) (fun h => h)
  go_enter Try.func17, Try.ntmps17
  go_wp2_with fail
  refine (copy_any _ _ _ hS).mono ?_
  rintro e w' ⟨rfl, rfl⟩
  go_wp2_with fail
  go_ret
  refine ⟨by simp, by simp [go_sem], by simp [go_sem], ?_, (((Only.refl _ _).alloc _).alloc _).alloc _, by simp⟩
  have := Src.new (w.alloc (.cells #[.int .i64 n] 3)) s
  rw [World.size_alloc] at this
  exact this.kept ((Only.refl (fun _ => False) _).alloc _) (fun h => h)

/-- The state behind k numbers. -/
def stateAt (n s : Int) : Nat → Int
  | 0 => s
  | k + 1 => numS n (stateAt n s k)

/-- What the iterator needs of the world. -/
structure ItW (W : World) (b0 b1 c : Nat) (n s : Int) : Prop where
  h0 : W.cell? ⟨b0, 0, none⟩ = some (.pointer (some ⟨c, 0, none⟩))
  h1 : W.cell? ⟨b1, 0, none⟩ = some (.int .i64 n)
  src : Src W c s
theorem ItW.kept {S : Nat → Prop} {W W' : World} {b0 b1 c : Nat} {n s : Int} (h : ItW W b0 b1 c n s) (ho : Only S W W') (h0 : ¬ S b0) (h1 : ¬ S b1) (h2 : ¬ S c) : ItW W' b0 b1 c n s :=
  ⟨(ho.cell (p := ⟨b0, 0, none⟩) (cell_lt h.h0) h0).trans h.h0, (ho.cell (p := ⟨b1, 0, none⟩) (cell_lt h.h1) h1).trans h.h1, h.src.kept ho h2⟩

theorem seq_bad (n s : Int) (b0 b1 c : Nat) (C : Nat → Prop) (w : World) (h : ItW w b0 b1 c n s) (hn : n < 1 ∨ 4611686018427387904 < n) :
    SeqN (α := Int) Try.prog 23 #[.pointer (some ⟨b0, 0, none⟩), .pointer (some ⟨b1, 0, none⟩)] (fun x => #[.int .i64 x]) (fun _ _ => False) (fun _ => True) (fun xs => xs = []) (fun _ => False) C w := by
  intro l J Jx hJs _ _ _ hJ
  obtain ⟨h0, h1, hS⟩ := h
  refine callsIn_wide.2 ?_
  simp only [List.append_toArray, List.cons_append, List.nil_append]
  go_enter Try.func23, Try.ntmps23
  go_wp2_with fail
  refine (copy_any _ _ _ hS).mono ?_
  rintro e w1 ⟨rfl, hw⟩
  have hO : Only (fun _ => False) w w1 := by rw [hw]; exact (Only.refl _ _).alloc _
  have hS1 : Src w1 w.heap.size s := by rw [hw]; exact Src.new w s
  have h11 := (hO.cell (p := ⟨b1, 0, none⟩) (cell_lt h1) (fun h => h)).trans h1
  clear hw h1
  go_wp2_with fail
  refine wp_loop_rounds 1 ?_
  rw [rounds_succ]
  go_wp2_with fail
  refine (number_bad _ _ _ _ hS1 hn).mono ?_
  rintro e w' ⟨rfl, rfl⟩
  go_wp2_with fail
  refine bodyPost_ret (results_none rfl _ _ _) rfl ?_
  exact ⟨⟨_, rfl⟩, C, .inl ⟨[], rfl, hJs _ _ _ _ _ hJ hO (fun _ h => h.elim)⟩⟩

theorem seq_numbers (n s : Int) (b0 b1 c N : Nat) (C : Nat → Prop) (w : World) (h : ItW w b0 b1 c n s) (hC1 : ¬ C b1) (hCl : ∀ k, C k → k < w.heap.size) (hn1 : 1 ≤ n) (hn2 : n ≤ 4611686018427387904) :
    SeqN (α := Int) Try.prog 23 #[.pointer (some ⟨b0, 0, none⟩), .pointer (some ⟨b1, 0, none⟩)] (fun x => #[.int .i64 x]) (fun pre x => x = numV n (stateAt n s pre.length)) (fun pre => pre.length < N) (fun _ => False) (fun _ => True) C w := by
  intro l J Jx hJs hJxs hLim hY hJ
  obtain ⟨h0, h1, hS⟩ := h
  refine callsIn_of_wp Try.func23 rfl trivial ?_ rfl
  simp only [Try.ntmps23, List.size_toArray, List.length_cons, List.length_nil, Nat.reduceAdd, Nat.reduceSub, Array.replicate_succ, Array.replicate_zero, List.push_toArray, List.append_toArray, List.nil_append, List.cons_append]
  have HY := Lib.hid hY
  have HJ := Lib.hid hJs
  have HX := Lib.hid hJxs
  have HLm := Lib.hid hLim
  clear hY hJs hJxs hLim
  have hwf : ∀ f, Fence.wide.fn f = True := fun _ => rfl
  have hwd : Fence.wide.depth = none := rfl
  gi_wp2_with fail
  refine (callsIn_wide.2 (copy_any _ _ _ hS)).mono ?_
  rintro e w1 ⟨rfl, hw⟩
  have hO : Only (fun _ => False) w w1 := by rw [hw]; exact (Only.refl _ _).alloc _
  have hS1 : Src w1 w.heap.size s := by rw [hw]; exact Src.new w s
  have h11 := (hO.cell (p := ⟨b1, 0, none⟩) (cell_lt h1) (fun h => h)).trans h1
  have hJ1 := HJ.out _ _ _ _ _ hJ hO (fun _ h => h.elim)
  have zc : ¬ C w.heap.size := fun h => by have := hCl _ h; omega
  have zb1 := cell_lt h1
  clear hw hO h0 h1 hS hJ
  gi_wp2_with fail
  gi_loopg [5] (N + 1) (fun m _ wr => ∃ (C : Nat → Prop) (pre : List Int), m = N + 1 - pre.length ∧ J C pre wr ∧ Src wr w.heap.size (stateAt n s pre.length) ∧ wr.cell? ⟨b1, 0, none⟩ = some (.int .i64 n) ∧ ¬ C b1 ∧ ¬ C w.heap.size)
  case atStart => exact ⟨C, [], rfl, hJ1, hS1, h11, hC1, zc⟩
  case round =>
    clear hJ1 hS1 h11 hC1 zc hCl
    obtain ⟨C, pre, rfl, hJ, hS, h1, hC1, zc⟩ := hrel
    gi_wp2_with fail
    refine (callsIn_wide.2 (number_ok _ _ _ _ hS hn1 hn2)).mono ?_
    rintro e w2 ⟨rfl, hS2, hO2⟩
    have hJ2 := HJ.out _ _ _ _ _ hJ hO2 (fun k e => ⟨fun h => zc (e ▸ h), by omega⟩)
    have h12 := (hO2.cell (p := ⟨b1, 0, none⟩) (cell_lt h1) (fun e => by have e' : b1 = w.heap.size := e; have z : b1 < w.heap.size := zb1; omega)).trans h1
    obtain ⟨f1, t1, a1, bd1, hy1, hR1⟩ := HY.out C pre _ _ hJ2 rfl
    have hlm := HLm.out _ _ _ hJ2
    gi_wp2_with fail
    refine hR1.mono ?_
    rintro e w3 ⟨C', hO3, hg, (⟨rfl, hJ3⟩ | ⟨rfl, hX3⟩)⟩
    · gi_wp2_with fail
      go_roundg (N + 1 - (pre ++ [numV n (stateAt n s pre.length)]).length)
      case measure => simp; omega
      case rel =>
        refine ⟨C', pre ++ [numV n (stateAt n s pre.length)], rfl, hJ3, ?_, ?_, ?_, ?_⟩
        · have := hS2.kept hO3 zc
          simpa [stateAt] using this
        · rw [hO3.cell (p := ⟨b1, 0, none⟩) (cell_lt h12) hC1]; exact h12
        · intro h
          rcases hg _ h with h | h
          · exact hC1 h
          · have z : b1 < w.heap.size := zb1; have := hS2.lt; omega
        · intro h
          rcases hg _ h with h | h
          · exact zc h
          · have := hS2.lt; omega
    · gi_wp2_with fail
      refine bodyPost_ret (results_none rfl _ _ _) rfl ?_
      exact ⟨⟨_, rfl⟩, C', .inr ⟨_, trivial, hX3⟩⟩
end Go.Proofs.Ytnfhmfkcincneaa
