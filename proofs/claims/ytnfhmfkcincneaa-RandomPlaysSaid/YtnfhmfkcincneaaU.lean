/- The kind 5 of act: the loops over Numbers. -/
import Derived.Test.YtnfhmfkcincneaaT
import Derived.TacticsIn
import Derived.RegionIn
namespace Go.Proofs.Ytnfhmfkcincneaa
open Go.ChangeShapes Go.WideShapes Go.ChangeAt Go.RowKit Go.Deep
attribute [local go_sem] Oper.semAt_some
set_option maxHeartbeats 4000000
set_option maxRecDepth 100000
set_option linter.unusedVariables false

theorem Only.old {w w' : World} (h : Only (fun k => w.heap.size ≤ k) w w') : Only (fun _ => False) w w' := ⟨h.os, h.tape, h.output, h.size, fun k hk _ => h.block k hk (by omega)⟩
/-- The end of act behind two loops over an iterator. -/
theorem act_marks {b : Nat} {s kd n : Int} {w W : World} (hX : Six w.heap.size b s kd n w W) (hS : Src W b s) (hbl : b < w.heap.size) (h1 : 0 ≤ s) (h2 : s < 18446744073709551616) {D0 D1 : Nat}
    (hD0 : W.heap[D0]? = some (.deferred (some []))) (hD1 : W.heap[D1]? = some (.deferred (some []))) (z0 : w.heap.size + 6 ≤ D0) (z1 : D0 < D1)
    {tmps : Array Value} (t6 : tmps[6]?.getD undef = .pointer (some ⟨w.heap.size + 1 + 1 + 1, 0, none⟩)) (t7 : tmps[7]?.getD undef = .pointer (some ⟨w.heap.size + 1 + 1 + 1 + 1, 0, none⟩)) (t8 : tmps[8]?.getD undef = .pointer (some ⟨w.heap.size + 1 + 1 + 1 + 1 + 1, 0, none⟩)) :
    bodyPostM Fence.wide 0 Try.prog Try.f16 (Acted b w) Exit.ret { tmps := tmps, defers := [{ target := .collected D1, args := #[] }, { target := .collected D0, args := #[] }] } (actW w.heap.size b s W).drew := by
  have hO : Only (fun k => k = w.heap.size + 3 ∨ k = w.heap.size + 4 ∨ k = w.heap.size + 5) W (actW w.heap.size b s W) :=
    (((Only.refl _ W).setCell (p := ⟨w.heap.size + 1 + 1 + 1, 0, none⟩) (.inl (.inl rfl)) _).setCell (p := ⟨w.heap.size + 1 + 1 + 1 + 1, 0, none⟩) (.inl (.inr (.inl rfl))) _).setCell (p := ⟨w.heap.size + 1 + 1 + 1 + 1 + 1, 0, none⟩) (.inl (.inr (.inr rfl))) _
  have e0 : (actW w.heap.size b s W).drew.heap[D0]? = some (.deferred (some [])) := (hO.drew.block D0 (Array.getElem?_eq_some_iff.1 hD0).1 (by omega)).trans hD0
  have e1 : (actW w.heap.size b s W).drew.heap[D1]? = some (.deferred (some [])) := (hO.drew.block D1 (Array.getElem?_eq_some_iff.1 hD1).1 (by omega)).trans hD1
  refine ⟨by simp, .inl ⟨D1, _, rfl, run_takeDeferred e1, ⟨by simp, .inl ⟨D0, _, rfl, run_takeDeferred (by rw [World.putObj_heap_other (by omega)]; exact e0), ?_⟩⟩⟩⟩
  -- the two blocks are shut in a world that had them so: read the results there
  have hP : Only (fun k => k = D0 ∨ k = D1) (actW w.heap.size b s W) (((actW w.heap.size b s W).drew.putObj D1 (.deferred none)).putObj D0 (.deferred none)) :=
    (((Only.refl _ _).drew).putObj (.inl (.inr rfl)) _).putObj (.inl (.inl rfl)) _
  obtain ⟨c4, c5, c6⟩ := act_cells (b' := b) (s' := s) hX
  have d4 := (hP.cell (p := ⟨w.heap.size + 1 + 1 + 1, 0, none⟩) (cell_lt c4) (by show ¬ (w.heap.size + 1 + 1 + 1 = D0 ∨ w.heap.size + 1 + 1 + 1 = D1); omega)).trans c4
  have d5 := (hP.cell (p := ⟨w.heap.size + 1 + 1 + 1 + 1, 0, none⟩) (cell_lt c5) (by show ¬ (w.heap.size + 1 + 1 + 1 + 1 = D0 ∨ w.heap.size + 1 + 1 + 1 + 1 = D1); omega)).trans c5
  have d6 := (hP.cell (p := ⟨w.heap.size + 1 + 1 + 1 + 1 + 1, 0, none⟩) (cell_lt c6) (by show ¬ (w.heap.size + 1 + 1 + 1 + 1 + 1 = D0 ∨ w.heap.size + 1 + 1 + 1 + 1 + 1 = D1); omega)).trans c6
  generalize ((actW w.heap.size b s W).drew.putObj D1 (.deferred none)).putObj D0 (.deferred none) = WF at *
  refine ⟨.tuple #[.pointer (some ⟨b, 0, none⟩), .int .u64 s, .bool true], by simp [results, Try.results16, go_sem, t6, t7, t8, d4, d5, d6], ?_⟩
  refine ⟨b, s, rfl, (hS.kept hO (by omega)).kept hP (by omega), ?_, .inl rfl, h1, h2⟩
  refine ⟨(hP.os.trans hO.os).trans hX.only.os, (hP.tape.trans hO.tape).trans hX.only.tape, (hP.output.trans hO.output).trans hX.only.output, Nat.le_trans hX.only.size (Nat.le_trans hO.size hP.size), fun k hk hn => ?_⟩
  have hk2 : k < W.heap.size := Nat.lt_of_lt_of_le hk hX.only.size
  rw [hP.block k (Nat.lt_of_lt_of_le hk2 hO.size) (by omega), hO.block k hk2 (by omega)]
  exact hX.only.block k hk hn

theorem act_numbers_low (b : Nat) (s kd n : Int) (w : World) (h : Src w b s) (hs : 0 ≤ s) (hs' : s < 18446744073709551616) (hk : kd % 6 = 5) (h0 : 0 ≤ kd) (h1 : kd ≤ 255) (hn : n < 1) :
    Calls Try.prog 16 #[.pointer (some ⟨b, 0, none⟩), .int .u64 s, .agg #[.int .u8 kd, .int .i64 n]] w (Acted b w) := by
  have he0 : (kd % 6 == 0) = false := by simp [hk]
  have he1 : (kd % 6 == 1) = false := by simp [hk]
  have he2 : (kd % 6 == 2) = false := by simp [hk]
  have he3 : (kd % 6 == 3) = false := by simp [hk]
  have he4 : (kd % 6 == 4) = false := by simp [hk]
  have hne := fun lb w => seq_ne_nil 23 lb w
  have zb := h.lt
  clear hk
  refine calls_of_wp_marks Try.func16 rfl ?_
  simp only [Try.ntmps16, List.size_toArray, List.length_cons, List.length_nil, Nat.reduceAdd, Nat.reduceSub, Array.replicate_succ, Array.replicate_zero, List.push_toArray, List.append_toArray, List.nil_append, List.cons_append]
  go_wp2_with fail
  have hX := Six.first b s kd n w
  have hS : Src _ b s := h.kept (((((((Only.refl (fun _ => False) w).alloc (.cells #[.pointer (some ⟨b, 0, none⟩)] 22)).alloc (.cells #[.int .u64 s] 24)).alloc (.cells #[.int .u8 kd, .int .i64 n] 43)).alloc
    (.cells #[.pointer none] 22)).alloc (.cells #[.int .u64 0] 24)).alloc (.cells #[.bool false] 4)) (fun h => h)
  generalize (((((w.alloc (.cells #[.pointer (some ⟨b, 0, none⟩)] 22)).alloc (.cells #[.int .u64 s] 24)).alloc (.cells #[.int .u8 kd, .int .i64 n] 43)).alloc
    (.cells #[.pointer none] 22)).alloc (.cells #[.int .u64 0] 24)).alloc (.cells #[.bool false] 4) = W at *
  refine (numbers_any _ _ _ _ hS).mono ?_
  rintro e W2 ⟨rfl, i0, i1, iS, hO2, zW⟩
  have hz := hX.size
  replace hX := hX.next (hO2.mono (fun _ _ h => h.elim)) zb
  replace hS := hS.kept hO2 (fun h => h)
  have hI : ItW W2 (W.heap.size + 1 + 1) W.heap.size (W.heap.size + 1) n s := ⟨i0, i1, iS⟩
  clear i0 i1 iS hO2
  generalize hb1 : W.heap.size = b1 at *
  clear hb1
  go_wp2_with fail
  refine wp_loop_rounds 3 ?_
  rw [rounds_succ]
  have c1 := hX.c1
  go_wp2_with fail
  have hA0 : ((W2.alloc (.cells #[.int .u64 s] 24)).alloc (.cells #[.int .i64 0] 3)).cell? ⟨W2.heap.size, 0, none⟩ = some (.int .u64 s) := by simp [go_sem]
  have hK0 : ((W2.alloc (.cells #[.int .u64 s] 24)).alloc (.cells #[.int .i64 0] 3)).cell? ⟨W2.heap.size + 1, 0, none⟩ = some (.int .i64 0) := by simp [go_sem]
  have hfA0 : ((W2.alloc (.cells #[.int .u64 s] 24)).alloc (.cells #[.int .i64 0] 3)).frozen? ⟨W2.heap.size, 0, none⟩ = false := by simp [go_sem]
  have hfK0 : ((W2.alloc (.cells #[.int .u64 s] 24)).alloc (.cells #[.int .i64 0] 3)).frozen? ⟨W2.heap.size + 1, 0, none⟩ = false := by simp [go_sem]
  have hOv : Only (fun _ => False) W2 ((W2.alloc (.cells #[.int .u64 s] 24)).alloc (.cells #[.int .i64 0] 3)) := ((Only.refl _ _).alloc _).alloc _
  have hzv : W2.heap.size + 2 ≤ ((W2.alloc (.cells #[.int .u64 s] 24)).alloc (.cells #[.int .i64 0] 3)).heap.size := by simp
  generalize (W2.alloc (.cells #[.int .u64 s] 24)).alloc (.cells #[.int .i64 0] 3) = V0 at *
  replace hX := hX.next (hOv.mono (fun _ _ h => h.elim)) zb
  replace hS := hS.kept hOv (fun h => h)
  replace hI := hI.kept hOv (fun h => h) (fun h => h) (fun h => h)
  have zV0 : b1 + 3 ≤ V0.heap.size := by omega
  clear hOv c1
  refine wp_rangeFuncN (α := Int) (gf := 23) (lb := #[.pointer (some ⟨b1 + 1 + 1, 0, none⟩), .pointer (some ⟨b1, 0, none⟩)]) rfl (enters Try.func23 (by kernel_rfl) rfl)
    (encs := fun x => #[.int .i64 x]) (Nx := fun _ _ => False) (Lim := fun _ => True) (S := fun xs => xs = []) (Sp := fun _ => False) (fun _ => False) (fun _ h => h.elim) ?seq0 (fun _ => rfl)
    (fun _ _ W' => Only (fun k => V0.heap.size ≤ k) V0 W') (fun _ _ _ _ => True) ?hI0 (fun _ _ _ _ _ _ _ _ _ => trivial) (fun _ _ _ _ => trivial) (Only.refl _ _) ?a0 ?assign0 (fun _ _ _ _ _ h => h.elim) ?done0 (fun _ _ _ _ h => h.elim)
  case seq0 =>
    intro o
    exact seq_bad n s _ _ (b1 + 1) _ _ (hI.kept (((Only.refl (fun _ => False) V0).alloc _).alloc _) (fun h => h) (fun h => h) (fun h => h)) (.inl hn)
  case hI0 =>
    rintro C pre A B T hA hAB hT
    exact hA.trans (hAB.mono fun k _ hk => (hT k hk).2)
  case assign0 =>
    intro x W K hK
    gi_wp2
    exact hK
  case done0 =>
  rintro C xs W3 rfl hOd hD0 _
  replace hOd := hOd.old
  have hK0' := (hOd.cell (p := ⟨W2.heap.size + 1, 0, none⟩) (cell_lt hK0) (fun h => h)).trans hK0
  replace hX := hX.next (hOd.mono (fun _ _ h => h.elim)) zb
  replace hS := hS.kept hOd (fun h => h)
  replace hI := hI.kept hOd (fun h => h) (fun h => h) (fun h => h)
  have zN0 := hOd.size
  generalize hgD : V0.heap.size = D0 at *
  clear hgD hK0 hA0 hfA0 hfK0 hOd
  have zD : b1 + 3 ≤ D0 := zV0
  have c3 := hX.c3
  go_wp2_with fail
  skip
  rw [rounds_succ]
  have c1 := hX.c1
  go_wp2_with fail
  have hA1 : ((W3.alloc (.cells #[.int .u64 s] 24)).alloc (.cells #[.int .i64 0] 3)).cell? ⟨W3.heap.size, 0, none⟩ = some (.int .u64 s) := by simp [go_sem]
  have hK1 : ((W3.alloc (.cells #[.int .u64 s] 24)).alloc (.cells #[.int .i64 0] 3)).cell? ⟨W3.heap.size + 1, 0, none⟩ = some (.int .i64 0) := by simp [go_sem]
  have hfA1 : ((W3.alloc (.cells #[.int .u64 s] 24)).alloc (.cells #[.int .i64 0] 3)).frozen? ⟨W3.heap.size, 0, none⟩ = false := by simp [go_sem]
  have hfK1 : ((W3.alloc (.cells #[.int .u64 s] 24)).alloc (.cells #[.int .i64 0] 3)).frozen? ⟨W3.heap.size + 1, 0, none⟩ = false := by simp [go_sem]
  have hOv : Only (fun _ => False) W3 ((W3.alloc (.cells #[.int .u64 s] 24)).alloc (.cells #[.int .i64 0] 3)) := ((Only.refl _ _).alloc _).alloc _
  have hzv : W3.heap.size + 2 ≤ ((W3.alloc (.cells #[.int .u64 s] 24)).alloc (.cells #[.int .i64 0] 3)).heap.size := by simp
  generalize (W3.alloc (.cells #[.int .u64 s] 24)).alloc (.cells #[.int .i64 0] 3) = V1 at *
  replace hX := hX.next (hOv.mono (fun _ _ h => h.elim)) zb
  replace hS := hS.kept hOv (fun h => h)
  replace hI := hI.kept hOv (fun h => h) (fun h => h) (fun h => h)
  have zD03 : D0 < W3.heap.size := (Array.getElem?_eq_some_iff.1 hD0).1
  have hD0v : V1.heap[D0]? = some (.deferred (some [])) := (hOv.block D0 (Array.getElem?_eq_some_iff.1 hD0).1 (fun h => h)).trans hD0
  have zD0 : D0 < V1.heap.size := (Array.getElem?_eq_some_iff.1 hD0v).1
  have zV1 : b1 + 3 ≤ V1.heap.size := by omega
  clear hOv c1
  refine wp_rangeFuncN (α := Int) (gf := 23) (lb := #[.pointer (some ⟨b1 + 1 + 1, 0, none⟩), .pointer (some ⟨b1, 0, none⟩)]) rfl (enters Try.func23 (by kernel_rfl) rfl)
    (encs := fun x => #[.int .i64 x]) (Nx := fun _ _ => False) (Lim := fun _ => True) (S := fun xs => xs = []) (Sp := fun _ => False) (fun _ => False) (fun _ h => h.elim) ?seq1 (fun _ => rfl)
    (fun _ _ W' => Only (fun k => V1.heap.size ≤ k) V1 W') (fun _ _ _ _ => True) ?hI1 (fun _ _ _ _ _ _ _ _ _ => trivial) (fun _ _ _ _ => trivial) (Only.refl _ _) ?a1 ?assign1 (fun _ _ _ _ _ h => h.elim) ?done1 (fun _ _ _ _ h => h.elim)
  case seq1 =>
    intro o
    exact seq_bad n s _ _ (b1 + 1) _ _ (hI.kept (((Only.refl (fun _ => False) V1).alloc _).alloc _) (fun h => h) (fun h => h) (fun h => h)) (.inl hn)
  case hI1 =>
    rintro C pre A B T hA hAB hT
    exact hA.trans (hAB.mono fun k _ hk => (hT k hk).2)
  case assign1 =>
    intro x W K hK
    gi_wp2
    exact hK
  case done1 =>
  rintro C xs W4 rfl hOd hD1 _
  replace hOd := hOd.old
  have hK1' := (hOd.cell (p := ⟨W3.heap.size + 1, 0, none⟩) (cell_lt hK1) (fun h => h)).trans hK1
  replace hX := hX.next (hOd.mono (fun _ _ h => h.elim)) zb
  replace hS := hS.kept hOd (fun h => h)
  replace hI := hI.kept hOd (fun h => h) (fun h => h) (fun h => h)
  have zN1 := hOd.size
  have hD0w : W4.heap[D0]? = some (.deferred (some [])) := (hOd.block D0 zD0 (fun h => h)).trans hD0v
  generalize hgD : V1.heap.size = D1 at *
  clear hgD hK1 hA1 hfA1 hfK1 hOd hD0v hD0
  have c3 := hX.c3
  go_wp2_with fail
  rw [rounds_succ]
  obtain ⟨c0, c1, c2, c3', ⟨v4, c4⟩, ⟨v5, c5⟩, ⟨v6, c6⟩, f4, f5, f6, hz', hO⟩ := hX
  have HF := Lib.hid (fun tmps h6 h7 h8 => act_marks (tmps := tmps) ⟨c0, c1, c2, c3', ⟨v4, c4⟩, ⟨v5, c5⟩, ⟨v6, c6⟩, f4, f5, f6, hz', hO⟩ hS zb hs hs' hD0w hD1 (by omega) (by omega) h6 h7 h8)
  go_wp2_with fail
  go_region
  go_wp2_with fail
  exact HF.out _ rfl rfl rfl

theorem act_numbers_high (b : Nat) (s kd n : Int) (w : World) (h : Src w b s) (hs : 0 ≤ s) (hs' : s < 18446744073709551616) (hk : kd % 6 = 5) (h0 : 0 ≤ kd) (h1 : kd ≤ 255) (hn : 4611686018427387904 < n) :
    Calls Try.prog 16 #[.pointer (some ⟨b, 0, none⟩), .int .u64 s, .agg #[.int .u8 kd, .int .i64 n]] w (Acted b w) := by
  have he0 : (kd % 6 == 0) = false := by simp [hk]
  have he1 : (kd % 6 == 1) = false := by simp [hk]
  have he2 : (kd % 6 == 2) = false := by simp [hk]
  have he3 : (kd % 6 == 3) = false := by simp [hk]
  have he4 : (kd % 6 == 4) = false := by simp [hk]
  have hne := fun lb w => seq_ne_nil 23 lb w
  have zb := h.lt
  clear hk
  refine calls_of_wp_marks Try.func16 rfl ?_
  simp only [Try.ntmps16, List.size_toArray, List.length_cons, List.length_nil, Nat.reduceAdd, Nat.reduceSub, Array.replicate_succ, Array.replicate_zero, List.push_toArray, List.append_toArray, List.nil_append, List.cons_append]
  go_wp2_with fail
  have hX := Six.first b s kd n w
  have hS : Src _ b s := h.kept (((((((Only.refl (fun _ => False) w).alloc (.cells #[.pointer (some ⟨b, 0, none⟩)] 22)).alloc (.cells #[.int .u64 s] 24)).alloc (.cells #[.int .u8 kd, .int .i64 n] 43)).alloc
    (.cells #[.pointer none] 22)).alloc (.cells #[.int .u64 0] 24)).alloc (.cells #[.bool false] 4)) (fun h => h)
  generalize (((((w.alloc (.cells #[.pointer (some ⟨b, 0, none⟩)] 22)).alloc (.cells #[.int .u64 s] 24)).alloc (.cells #[.int .u8 kd, .int .i64 n] 43)).alloc
    (.cells #[.pointer none] 22)).alloc (.cells #[.int .u64 0] 24)).alloc (.cells #[.bool false] 4) = W at *
  refine (numbers_any _ _ _ _ hS).mono ?_
  rintro e W2 ⟨rfl, i0, i1, iS, hO2, zW⟩
  have hz := hX.size
  replace hX := hX.next (hO2.mono (fun _ _ h => h.elim)) zb
  replace hS := hS.kept hO2 (fun h => h)
  have hI : ItW W2 (W.heap.size + 1 + 1) W.heap.size (W.heap.size + 1) n s := ⟨i0, i1, iS⟩
  clear i0 i1 iS hO2
  generalize hb1 : W.heap.size = b1 at *
  clear hb1
  go_wp2_with fail
  refine wp_loop_rounds 3 ?_
  rw [rounds_succ]
  have c1 := hX.c1
  go_wp2_with fail
  have hA0 : ((W2.alloc (.cells #[.int .u64 s] 24)).alloc (.cells #[.int .i64 0] 3)).cell? ⟨W2.heap.size, 0, none⟩ = some (.int .u64 s) := by simp [go_sem]
  have hK0 : ((W2.alloc (.cells #[.int .u64 s] 24)).alloc (.cells #[.int .i64 0] 3)).cell? ⟨W2.heap.size + 1, 0, none⟩ = some (.int .i64 0) := by simp [go_sem]
  have hfA0 : ((W2.alloc (.cells #[.int .u64 s] 24)).alloc (.cells #[.int .i64 0] 3)).frozen? ⟨W2.heap.size, 0, none⟩ = false := by simp [go_sem]
  have hfK0 : ((W2.alloc (.cells #[.int .u64 s] 24)).alloc (.cells #[.int .i64 0] 3)).frozen? ⟨W2.heap.size + 1, 0, none⟩ = false := by simp [go_sem]
  have hOv : Only (fun _ => False) W2 ((W2.alloc (.cells #[.int .u64 s] 24)).alloc (.cells #[.int .i64 0] 3)) := ((Only.refl _ _).alloc _).alloc _
  have hzv : W2.heap.size + 2 ≤ ((W2.alloc (.cells #[.int .u64 s] 24)).alloc (.cells #[.int .i64 0] 3)).heap.size := by simp
  generalize (W2.alloc (.cells #[.int .u64 s] 24)).alloc (.cells #[.int .i64 0] 3) = V0 at *
  replace hX := hX.next (hOv.mono (fun _ _ h => h.elim)) zb
  replace hS := hS.kept hOv (fun h => h)
  replace hI := hI.kept hOv (fun h => h) (fun h => h) (fun h => h)
  have zV0 : b1 + 3 ≤ V0.heap.size := by omega
  clear hOv c1
  refine wp_rangeFuncN (α := Int) (gf := 23) (lb := #[.pointer (some ⟨b1 + 1 + 1, 0, none⟩), .pointer (some ⟨b1, 0, none⟩)]) rfl (enters Try.func23 (by kernel_rfl) rfl)
    (encs := fun x => #[.int .i64 x]) (Nx := fun _ _ => False) (Lim := fun _ => True) (S := fun xs => xs = []) (Sp := fun _ => False) (fun _ => False) (fun _ h => h.elim) ?seq0 (fun _ => rfl)
    (fun _ _ W' => Only (fun k => V0.heap.size ≤ k) V0 W') (fun _ _ _ _ => True) ?hI0 (fun _ _ _ _ _ _ _ _ _ => trivial) (fun _ _ _ _ => trivial) (Only.refl _ _) ?a0 ?assign0 (fun _ _ _ _ _ h => h.elim) ?done0 (fun _ _ _ _ h => h.elim)
  case seq0 =>
    intro o
    exact seq_bad n s _ _ (b1 + 1) _ _ (hI.kept (((Only.refl (fun _ => False) V0).alloc _).alloc _) (fun h => h) (fun h => h) (fun h => h)) (.inr hn)
  case hI0 =>
    rintro C pre A B T hA hAB hT
    exact hA.trans (hAB.mono fun k _ hk => (hT k hk).2)
  case assign0 =>
    intro x W K hK
    gi_wp2
    exact hK
  case done0 =>
  rintro C xs W3 rfl hOd hD0 _
  replace hOd := hOd.old
  have hK0' := (hOd.cell (p := ⟨W2.heap.size + 1, 0, none⟩) (cell_lt hK0) (fun h => h)).trans hK0
  replace hX := hX.next (hOd.mono (fun _ _ h => h.elim)) zb
  replace hS := hS.kept hOd (fun h => h)
  replace hI := hI.kept hOd (fun h => h) (fun h => h) (fun h => h)
  have zN0 := hOd.size
  generalize hgD : V0.heap.size = D0 at *
  clear hgD hK0 hA0 hfA0 hfK0 hOd
  have zD : b1 + 3 ≤ D0 := zV0
  have c3 := hX.c3
  go_wp2_with fail
  skip
  rw [rounds_succ]
  have c1 := hX.c1
  go_wp2_with fail
  have hA1 : ((W3.alloc (.cells #[.int .u64 s] 24)).alloc (.cells #[.int .i64 0] 3)).cell? ⟨W3.heap.size, 0, none⟩ = some (.int .u64 s) := by simp [go_sem]
  have hK1 : ((W3.alloc (.cells #[.int .u64 s] 24)).alloc (.cells #[.int .i64 0] 3)).cell? ⟨W3.heap.size + 1, 0, none⟩ = some (.int .i64 0) := by simp [go_sem]
  have hfA1 : ((W3.alloc (.cells #[.int .u64 s] 24)).alloc (.cells #[.int .i64 0] 3)).frozen? ⟨W3.heap.size, 0, none⟩ = false := by simp [go_sem]
  have hfK1 : ((W3.alloc (.cells #[.int .u64 s] 24)).alloc (.cells #[.int .i64 0] 3)).frozen? ⟨W3.heap.size + 1, 0, none⟩ = false := by simp [go_sem]
  have hOv : Only (fun _ => False) W3 ((W3.alloc (.cells #[.int .u64 s] 24)).alloc (.cells #[.int .i64 0] 3)) := ((Only.refl _ _).alloc _).alloc _
  have hzv : W3.heap.size + 2 ≤ ((W3.alloc (.cells #[.int .u64 s] 24)).alloc (.cells #[.int .i64 0] 3)).heap.size := by simp
  generalize (W3.alloc (.cells #[.int .u64 s] 24)).alloc (.cells #[.int .i64 0] 3) = V1 at *
  replace hX := hX.next (hOv.mono (fun _ _ h => h.elim)) zb
  replace hS := hS.kept hOv (fun h => h)
  replace hI := hI.kept hOv (fun h => h) (fun h => h) (fun h => h)
  have zD03 : D0 < W3.heap.size := (Array.getElem?_eq_some_iff.1 hD0).1
  have hD0v : V1.heap[D0]? = some (.deferred (some [])) := (hOv.block D0 (Array.getElem?_eq_some_iff.1 hD0).1 (fun h => h)).trans hD0
  have zD0 : D0 < V1.heap.size := (Array.getElem?_eq_some_iff.1 hD0v).1
  have zV1 : b1 + 3 ≤ V1.heap.size := by omega
  clear hOv c1
  refine wp_rangeFuncN (α := Int) (gf := 23) (lb := #[.pointer (some ⟨b1 + 1 + 1, 0, none⟩), .pointer (some ⟨b1, 0, none⟩)]) rfl (enters Try.func23 (by kernel_rfl) rfl)
    (encs := fun x => #[.int .i64 x]) (Nx := fun _ _ => False) (Lim := fun _ => True) (S := fun xs => xs = []) (Sp := fun _ => False) (fun _ => False) (fun _ h => h.elim) ?seq1 (fun _ => rfl)
    (fun _ _ W' => Only (fun k => V1.heap.size ≤ k) V1 W') (fun _ _ _ _ => True) ?hI1 (fun _ _ _ _ _ _ _ _ _ => trivial) (fun _ _ _ _ => trivial) (Only.refl _ _) ?a1 ?assign1 (fun _ _ _ _ _ h => h.elim) ?done1 (fun _ _ _ _ h => h.elim)
  case seq1 =>
    intro o
    exact seq_bad n s _ _ (b1 + 1) _ _ (hI.kept (((Only.refl (fun _ => False) V1).alloc _).alloc _) (fun h => h) (fun h => h) (fun h => h)) (.inr hn)
  case hI1 =>
    rintro C pre A B T hA hAB hT
    exact hA.trans (hAB.mono fun k _ hk => (hT k hk).2)
  case assign1 =>
    intro x W K hK
    gi_wp2
    exact hK
  case done1 =>
  rintro C xs W4 rfl hOd hD1 _
  replace hOd := hOd.old
  have hK1' := (hOd.cell (p := ⟨W3.heap.size + 1, 0, none⟩) (cell_lt hK1) (fun h => h)).trans hK1
  replace hX := hX.next (hOd.mono (fun _ _ h => h.elim)) zb
  replace hS := hS.kept hOd (fun h => h)
  replace hI := hI.kept hOd (fun h => h) (fun h => h) (fun h => h)
  have zN1 := hOd.size
  have hD0w : W4.heap[D0]? = some (.deferred (some [])) := (hOd.block D0 zD0 (fun h => h)).trans hD0v
  generalize hgD : V1.heap.size = D1 at *
  clear hgD hK1 hA1 hfA1 hfK1 hOd hD0v hD0
  have c3 := hX.c3
  go_wp2_with fail
  rw [rounds_succ]
  obtain ⟨c0, c1, c2, c3', ⟨v4, c4⟩, ⟨v5, c5⟩, ⟨v6, c6⟩, f4, f5, f6, hz', hO⟩ := hX
  have HF := Lib.hid (fun tmps h6 h7 h8 => act_marks (tmps := tmps) ⟨c0, c1, c2, c3', ⟨v4, c4⟩, ⟨v5, c5⟩, ⟨v6, c6⟩, f4, f5, f6, hz', hO⟩ hS zb hs hs' hD0w hD1 (by omega) (by omega) h6 h7 h8)
  go_wp2_with fail
  go_region
  go_wp2_with fail
  exact HF.out _ rfl rfl rfl
end Go.Proofs.Ytnfhmfkcincneaa
