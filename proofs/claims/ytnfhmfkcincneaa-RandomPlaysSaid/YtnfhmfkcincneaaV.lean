/- The kind 5 of act at a good limit. -/
import Derived.Test.YtnfhmfkcincneaaU
import Derived.TacticsIn
import Derived.RegionIn
namespace Go.Proofs.Ytnfhmfkcincneaa
open Go.ChangeShapes Go.WideShapes Go.ChangeAt Go.RowKit Go.Deep
attribute [local go_sem] Oper.semAt_some
set_option maxHeartbeats 4000000
set_option maxRecDepth 100000
set_option linter.unusedVariables false


/-- The two boxes of the loop's body, and all else as it was. -/
structure LoopI (C : Nat → Prop) (A : Nat) (st : Int) (q : Nat) (V W : World) : Prop where
  own : ∀ k, C k ↔ k = A ∨ k = A + 1
  cA : W.cell? ⟨A, 0, none⟩ = some (.int .u64 st)
  cK : W.cell? ⟨A + 1, 0, none⟩ = some (.int .i64 q)
  fA : W.frozen? ⟨A, 0, none⟩ = false
  fK : W.frozen? ⟨A + 1, 0, none⟩ = false
  only : Only (fun k => k = A ∨ k = A + 1 ∨ V.heap.size ≤ k) V W
theorem LoopI.stay {C : Nat → Prop} {A : Nat} {st : Int} {q : Nat} {V W W' : World} (h : LoopI C A st q V W) (hz : A + 2 ≤ V.heap.size) {T : Nat → Prop} (hO : Only T W W') (hT : ∀ k, T k → ¬ C k ∧ V.heap.size ≤ k) : LoopI C A st q V W' := by
  have n1 : ¬ T A := fun h' => (hT A h').1 ((h.own A).2 (.inl rfl))
  have n2 : ¬ T (A + 1) := fun h' => (hT (A + 1) h').1 ((h.own (A + 1)).2 (.inr rfl))
  exact ⟨h.own, (hO.cell (p := ⟨A, 0, none⟩) (cell_lt h.cA) n1).trans h.cA, (hO.cell (p := ⟨A + 1, 0, none⟩) (cell_lt h.cK) n2).trans h.cK,
    (hO.frozen (p := ⟨A, 0, none⟩) (cell_lt h.cA) n1).trans h.fA, (hO.frozen (p := ⟨A + 1, 0, none⟩) (cell_lt h.cK) n2).trans h.fK,
    h.only.trans (hO.mono fun k _ hk => .inr (.inr (hT k hk).2))⟩
theorem LoopI.step {C : Nat → Prop} {A : Nat} {st : Int} {q : Nat} {V W : World} (h : LoopI C A st q V W) (st' : Int) (d : Nat) :
    LoopI C A st' (q + 1) V (((W.setCell ⟨A, 0, none⟩ (.int .u64 st')).setCell ⟨A + 1, 0, none⟩ (.int .i64 ((q : Int) + 1))).drewN d) ∧ Only C W (((W.setCell ⟨A, 0, none⟩ (.int .u64 st')).setCell ⟨A + 1, 0, none⟩ (.int .i64 ((q : Int) + 1))).drewN d) := by
  have e1 : (W.setCell ⟨A, 0, none⟩ (.int .u64 st')).cell? ⟨A, 0, none⟩ = some (.int .u64 st') := World.cell?_setCell_same _ _ _ h.cA
  have e2 : (W.setCell ⟨A, 0, none⟩ (.int .u64 st')).cell? ⟨A + 1, 0, none⟩ = some (.int .i64 q) := (World.cell?_setCell_other _ _ _ _ (by simp)).trans h.cK
  refine ⟨⟨h.own, ?_, ?_, ?_, ?_, ?_⟩, ?_⟩
  · exact (World.cell?_setCell_other _ _ _ _ (by simp)).trans e1
  · exact World.cell?_setCell_same _ _ _ e2
  · show (((W.setCell ⟨A, 0, none⟩ (.int .u64 st')).setCell ⟨A + 1, 0, none⟩ (.int .i64 ((q : Int) + 1)))).frozen? ⟨A, 0, none⟩ = false
    rw [World.frozen?_setCell, World.frozen?_setCell]; exact h.fA
  · show (((W.setCell ⟨A, 0, none⟩ (.int .u64 st')).setCell ⟨A + 1, 0, none⟩ (.int .i64 ((q : Int) + 1)))).frozen? ⟨A + 1, 0, none⟩ = false
    rw [World.frozen?_setCell, World.frozen?_setCell]; exact h.fK
  · exact ((h.only.setCell (p := ⟨A, 0, none⟩) (.inl (.inl rfl)) _).setCell (p := ⟨A + 1, 0, none⟩) (.inl (.inr (.inl rfl))) _).drewN d
  · exact (((Only.refl C W).setCell (p := ⟨A, 0, none⟩) (.inl ((h.own _).2 (.inl rfl))) _).setCell (p := ⟨A + 1, 0, none⟩) (.inl ((h.own _).2 (.inr rfl))) _).drewN d

theorem Six.far {B b : Nat} {s kd n : Int} {w W W' : World} (h : Six B b s kd n w W) {T : Nat → Prop} (ho : Only T W W') (hT : ∀ k, T k → B + 6 ≤ k ∧ w.heap.size ≤ k) : Six B b s kd n w W' := by
  have z := h.size
  have e : ∀ k o, k < B + 6 → W'.cell? ⟨k, o, none⟩ = W.cell? ⟨k, o, none⟩ := fun k o h2 => ho.cell (p := ⟨k, o, none⟩) (by show k < _; omega) (fun h => by have : B + 6 ≤ k := (hT _ h).1; omega)
  have f : ∀ k o, k < B + 6 → W'.frozen? ⟨k, o, none⟩ = W.frozen? ⟨k, o, none⟩ := fun k o h2 => ho.frozen (p := ⟨k, o, none⟩) (by show k < _; omega) (fun h => by have : B + 6 ≤ k := (hT _ h).1; omega)
  refine ⟨?_, ?_, ?_, ?_, ?_, ?_, ?_, ?_, ?_, ?_, Nat.le_trans z ho.size, ⟨ho.os.trans h.only.os, ho.tape.trans h.only.tape, ho.output.trans h.only.output, Nat.le_trans h.only.size ho.size, fun k hk hn => (ho.block k (Nat.lt_of_lt_of_le hk h.only.size) (fun h' => by have := (hT k h').2; omega)).trans (h.only.block k hk hn)⟩⟩
  · rw [e _ _ (by omega)]; exact h.c0
  · rw [e _ _ (by omega)]; exact h.c1
  · rw [e _ _ (by omega)]; exact h.c2
  · rw [e _ _ (by omega)]; exact h.c3
  · rw [e _ _ (by omega)]; exact h.c4
  · rw [e _ _ (by omega)]; exact h.c5
  · rw [e _ _ (by omega)]; exact h.c6
  · rw [f _ _ (by omega)]; exact h.f4
  · rw [f _ _ (by omega)]; exact h.f5
  · rw [f _ _ (by omega)]; exact h.f6

theorem act_numbers (b : Nat) (s kd n : Int) (w : World) (h : Src w b s) (hs : 0 ≤ s) (hs' : s < 18446744073709551616) (hk : kd % 6 = 5) (h0 : 0 ≤ kd) (h1 : kd ≤ 255) (hn : 1 ≤ n) (hn2 : n ≤ 4611686018427387904) :
    Calls Try.prog 16 #[.pointer (some ⟨b, 0, none⟩), .int .u64 s, .agg #[.int .u8 kd, .int .i64 n]] w (Acted b w) := by
  have he0 : (kd % 6 == 0) = false := by simp [hk]
  have he1 : (kd % 6 == 1) = false := by simp [hk]
  have he2 : (kd % 6 == 2) = false := by simp [hk]
  have he3 : (kd % 6 == 3) = false := by simp [hk]
  have he4 : (kd % 6 == 4) = false := by simp [hk]
  have hne := fun lb w => seq_ne_nil 23 lb w
  have hwf : ∀ f, Fence.wide.fn f = True := fun _ => rfl
  have hwd : Fence.wide.depth = none := rfl
  have zb := h.lt
  clear hk
  refine calls_of_wp_marks Try.func16 rfl ?_
  simp only [Try.ntmps16, List.size_toArray, List.length_cons, List.length_nil, Nat.reduceAdd, Nat.reduceSub, Array.replicate_succ, Array.replicate_zero, List.push_toArray, List.append_toArray, List.nil_append, List.cons_append]
  go_wp2_with fail
  have hX := Six.first b s kd n w
  have hS : Src _ b s := h.kept (((((((Only.refl (fun _ => False) w).alloc (.cells #[.pointer (some ⟨b, 0, none⟩)] 22)).alloc (.cells #[.int .u64 s] 24)).alloc (.cells #[.int .u8 kd, .int .i64 n] 43)).alloc
    (.cells #[.pointer none] 22)).alloc (.cells #[.int .u64 0] 24)).alloc (.cells #[.bool false] 4)) (fun h => h)
  generalize (((((w.alloc (.cells #[.pointer (some ⟨b, 0, none⟩)] 22)).alloc (.cells #[.int .u64 s] 24)).alloc (.cells #[.int .u8 kd, .int .i64 n] 43)).alloc
    (.cells #[.pointer none] 22)).alloc (.cells #[.int .u64 0] 24)).alloc (.cells #[.bool false] 4) = W at *
  refine (numbers_any _ _ _ _ hS).mono ?_
  rintro e W2 ⟨rfl, i0, i1, iS, hO2, zW⟩
  have hz := hX.size
  replace hX := hX.next (hO2.mono (fun _ _ h => h.elim)) zb
  replace hS := hS.kept hO2 (fun h => h)
  have hI : ItW W2 (W.heap.size + 1 + 1) W.heap.size (W.heap.size + 1) n s := ⟨i0, i1, iS⟩
  clear i0 i1 iS hO2
  generalize hb1 : W.heap.size = b1 at *
  clear hb1
  go_wp2_with fail
  refine wp_loop_rounds 3 ?_
  rw [rounds_succ]
  have c1 := hX.c1
  go_wp2_with fail
  have hA0 : ((W2.alloc (.cells #[.int .u64 s] 24)).alloc (.cells #[.int .i64 0] 3)).cell? ⟨W2.heap.size, 0, none⟩ = some (.int .u64 s) := by simp [go_sem]
  have hK0 : ((W2.alloc (.cells #[.int .u64 s] 24)).alloc (.cells #[.int .i64 0] 3)).cell? ⟨W2.heap.size + 1, 0, none⟩ = some (.int .i64 0) := by simp [go_sem]
  have hfA0 : ((W2.alloc (.cells #[.int .u64 s] 24)).alloc (.cells #[.int .i64 0] 3)).frozen? ⟨W2.heap.size, 0, none⟩ = false := by simp [go_sem]
  have hfK0 : ((W2.alloc (.cells #[.int .u64 s] 24)).alloc (.cells #[.int .i64 0] 3)).frozen? ⟨W2.heap.size + 1, 0, none⟩ = false := by simp [go_sem]
  have hOv : Only (fun _ => False) W2 ((W2.alloc (.cells #[.int .u64 s] 24)).alloc (.cells #[.int .i64 0] 3)) := ((Only.refl _ _).alloc _).alloc _
  have hzv : W2.heap.size + 2 ≤ ((W2.alloc (.cells #[.int .u64 s] 24)).alloc (.cells #[.int .i64 0] 3)).heap.size := by simp
  generalize (W2.alloc (.cells #[.int .u64 s] 24)).alloc (.cells #[.int .i64 0] 3) = V0 at *
  replace hX := hX.next (hOv.mono (fun _ _ h => h.elim)) zb
  replace hS := hS.kept hOv (fun h => h)
  replace hI := hI.kept hOv (fun h => h) (fun h => h) (fun h => h)
  have zV0 : b1 + 3 ≤ V0.heap.size := by omega
  clear hOv c1
  have hX0 := Lib.hid hX
  have hI0 := Lib.hid hI
  refine wp_rangeFuncN (α := Int) (gf := 23) (lb := #[.pointer (some ⟨b1 + 1 + 1, 0, none⟩), .pointer (some ⟨b1, 0, none⟩)]) rfl (enters Try.func23 (by kernel_rfl) rfl)
    (encs := fun x => #[.int .i64 x]) (Nx := fun pre x => x = numV n (stateAt n s pre.length)) (Lim := fun pre => pre.length < 3) (S := fun _ => False) (Sp := fun _ => True) (fun k => k = W2.heap.size ∨ k = W2.heap.size + 1) (fun k h => by omega) ?seq0 (fun _ => rfl)
    (fun C pre W' => pre.length < 3 ∧ LoopI C W2.heap.size (stateAt n s pre.length) pre.length V0 W')
    (fun c C pre W' => c = .exit 3 ∧ LoopI C W2.heap.size (stateAt n s 3) 3 V0 W') ?hI0 ?hIx0 (fun _ _ _ h => h.1) ⟨by simp, fun _ => Iff.rfl, hA0, hK0, hfA0, hfK0, Only.refl _ _⟩ ?a0 ?assign0 ?body0 (fun _ _ _ h => h.elim) ?stop0
  case seq0 =>
    intro o
    refine seq_numbers n s _ _ (b1 + 1) 3 _ _ (hI.kept (((Only.refl (fun _ => False) V0).alloc _).alloc _) (fun h => h) (fun h => h) (fun h => h)) ?_ ?_ hn hn2
    · show ¬ ((b1 = W2.heap.size ∨ b1 = W2.heap.size + 1) ∨ b1 = V0.heap.size ∨ b1 = V0.heap.size + 1); omega
    · intro k hk; have hk' : (k = W2.heap.size ∨ k = W2.heap.size + 1) ∨ k = V0.heap.size ∨ k = V0.heap.size + 1 := hk; rw [World.size_alloc, World.size_alloc]; omega
  case hI0 =>
    rintro C pre A B T ⟨hl, h⟩ hAB hT
    exact ⟨hl, h.stay hzv hAB hT⟩
  case hIx0 =>
    rintro c C pre A B T ⟨hl, h⟩ hAB hT
    exact ⟨hl, h.stay hzv hAB hT⟩
  case assign0 =>
    intro x W K hK
    gi_wp2
    exact hK
  case body0 =>
    rintro C pre x W' ⟨hl, hL⟩ hx
    have hx' : x = numV n (stateAt n s pre.length) := hx
    subst hx'
    have c3 := (hL.only.cell (p := ⟨w.heap.size + 1 + 1, 1, none⟩) (by have := hX0.out.size; show w.heap.size + 1 + 1 < _; omega) (by have := hX0.out.size; show ¬ (w.heap.size + 1 + 1 = W2.heap.size ∨ w.heap.size + 1 + 1 = W2.heap.size + 1 ∨ _ ≤ w.heap.size + 1 + 1); omega)).trans hX0.out.c3
    have HL := Lib.hid hL
    obtain ⟨hC, cA, cK, fA, fK, hO⟩ := hL
    have HC := Lib.hid hC
    have HO := Lib.hid hO
    have hsn : Hid (stateAt n s (pre.length + 1) = numS n (stateAt n s pre.length)) := rfl
    clear hC hO hx
    generalize hst : stateAt n s pre.length = st at *
    generalize hpl : pre.length = q at *
    have HST := Lib.hid hst
    have HPL := Lib.hid hpl
    clear hst hpl hX hI hS
    gi_wp2_with fail
    refine (calls_round (refNumber_any _ _ _ hn hn2)).mono ?_
    rintro e W5 ⟨rfl, dq, rfl⟩
    have hstep := Lib.hid (HL.out.step (numS n st) dq)
    by_cases h2 : q = 2
    · subst h2
      gi_wp2_with fail
      exact ⟨C, hstep.out.2, fun k h => .inl h, rfl, by rw [show stateAt n s 3 = numS n st from hsn.out]; exact hstep.out.1⟩
    · have h2' : ((q : Int) + 1 == 3) = false := by simp; omega
      have H2 := Lib.hid h2
      clear h2
      gi_wp2_with fail
      refine ⟨C, hstep.out.2, fun k h => .inl h, ?_, ?_⟩
      · have := H2.out; have := HPL.out; simp; omega
      · rw [List.length_append, HPL.out, show q + [numV n st].length = q + 1 from rfl, hsn.out]; exact hstep.out.1
  case stop0 =>
  rintro c C pre W3 _ ⟨rfl, hL⟩ hD0 _
  have hK0' := hL.cK
  have hOd : Only (fun k => k = W2.heap.size ∨ k = W2.heap.size + 1) V0 W3 := ⟨hL.only.os, hL.only.tape, hL.only.output, hL.only.size, fun k hk hn' => hL.only.block k hk (by omega)⟩
  have z0 := hX.size
  replace hX := hX.far hOd (fun k hk => by omega)
  replace hS := hS.kept hOd (by omega)
  replace hI := hI.kept hOd (by omega) (by omega) (by omega)
  have zN0 := hOd.size
  generalize hgD : V0.heap.size = D0 at *
  have zD : b1 + 3 ≤ D0 := zV0
  clear hgD hK0 hA0 hfA0 hfK0 hOd hL hX0 hI0
  have c3 := hX.c3
  go_wp2_with fail
  skip
  rw [rounds_succ]
  have c1 := hX.c1
  go_wp2_with fail
  have hA1 : ((W3.alloc (.cells #[.int .u64 s] 24)).alloc (.cells #[.int .i64 0] 3)).cell? ⟨W3.heap.size, 0, none⟩ = some (.int .u64 s) := by simp [go_sem]
  have hK1 : ((W3.alloc (.cells #[.int .u64 s] 24)).alloc (.cells #[.int .i64 0] 3)).cell? ⟨W3.heap.size + 1, 0, none⟩ = some (.int .i64 0) := by simp [go_sem]
  have hfA1 : ((W3.alloc (.cells #[.int .u64 s] 24)).alloc (.cells #[.int .i64 0] 3)).frozen? ⟨W3.heap.size, 0, none⟩ = false := by simp [go_sem]
  have hfK1 : ((W3.alloc (.cells #[.int .u64 s] 24)).alloc (.cells #[.int .i64 0] 3)).frozen? ⟨W3.heap.size + 1, 0, none⟩ = false := by simp [go_sem]
  have hOv : Only (fun _ => False) W3 ((W3.alloc (.cells #[.int .u64 s] 24)).alloc (.cells #[.int .i64 0] 3)) := ((Only.refl _ _).alloc _).alloc _
  have hzv : W3.heap.size + 2 ≤ ((W3.alloc (.cells #[.int .u64 s] 24)).alloc (.cells #[.int .i64 0] 3)).heap.size := by simp
  generalize (W3.alloc (.cells #[.int .u64 s] 24)).alloc (.cells #[.int .i64 0] 3) = V1 at *
  replace hX := hX.next (hOv.mono (fun _ _ h => h.elim)) zb
  replace hS := hS.kept hOv (fun h => h)
  replace hI := hI.kept hOv (fun h => h) (fun h => h) (fun h => h)
  have zD03 : D0 < W3.heap.size := (Array.getElem?_eq_some_iff.1 hD0).1
  have hD0v : V1.heap[D0]? = some (.deferred (some [])) := (hOv.block D0 (Array.getElem?_eq_some_iff.1 hD0).1 (fun h => h)).trans hD0
  have zD0 : D0 < V1.heap.size := (Array.getElem?_eq_some_iff.1 hD0v).1
  have zV1 : b1 + 3 ≤ V1.heap.size := by omega
  clear hOv c1
  have hX1 := Lib.hid hX
  have hI1 := Lib.hid hI
  refine wp_rangeFuncN (α := Int) (gf := 23) (lb := #[.pointer (some ⟨b1 + 1 + 1, 0, none⟩), .pointer (some ⟨b1, 0, none⟩)]) rfl (enters Try.func23 (by kernel_rfl) rfl)
    (encs := fun x => #[.int .i64 x]) (Nx := fun pre x => x = numV n (stateAt n s pre.length)) (Lim := fun pre => pre.length < 3) (S := fun _ => False) (Sp := fun _ => True) (fun k => k = W3.heap.size ∨ k = W3.heap.size + 1) (fun k h => by omega) ?seq1 (fun _ => rfl)
    (fun C pre W' => pre.length < 3 ∧ LoopI C W3.heap.size (stateAt n s pre.length) pre.length V1 W')
    (fun c C pre W' => c = .exit 3 ∧ LoopI C W3.heap.size (stateAt n s 3) 3 V1 W') ?hI1 ?hIx1 (fun _ _ _ h => h.1) ⟨by simp, fun _ => Iff.rfl, hA1, hK1, hfA1, hfK1, Only.refl _ _⟩ ?a1 ?assign1 ?body1 (fun _ _ _ h => h.elim) ?stop1
  case seq1 =>
    intro o
    refine seq_numbers n s _ _ (b1 + 1) 3 _ _ (hI.kept (((Only.refl (fun _ => False) V1).alloc _).alloc _) (fun h => h) (fun h => h) (fun h => h)) ?_ ?_ hn hn2
    · show ¬ ((b1 = W3.heap.size ∨ b1 = W3.heap.size + 1) ∨ b1 = V1.heap.size ∨ b1 = V1.heap.size + 1); omega
    · intro k hk; have hk' : (k = W3.heap.size ∨ k = W3.heap.size + 1) ∨ k = V1.heap.size ∨ k = V1.heap.size + 1 := hk; rw [World.size_alloc, World.size_alloc]; omega
  case hI1 =>
    rintro C pre A B T ⟨hl, h⟩ hAB hT
    exact ⟨hl, h.stay hzv hAB hT⟩
  case hIx1 =>
    rintro c C pre A B T ⟨hl, h⟩ hAB hT
    exact ⟨hl, h.stay hzv hAB hT⟩
  case assign1 =>
    intro x W K hK
    gi_wp2
    exact hK
  case body1 =>
    rintro C pre x W' ⟨hl, hL⟩ hx
    have hx' : x = numV n (stateAt n s pre.length) := hx
    subst hx'
    have c3 := (hL.only.cell (p := ⟨w.heap.size + 1 + 1, 1, none⟩) (by have := hX1.out.size; show w.heap.size + 1 + 1 < _; omega) (by have := hX1.out.size; show ¬ (w.heap.size + 1 + 1 = W3.heap.size ∨ w.heap.size + 1 + 1 = W3.heap.size + 1 ∨ _ ≤ w.heap.size + 1 + 1); omega)).trans hX1.out.c3
    have HL := Lib.hid hL
    obtain ⟨hC, cA, cK, fA, fK, hO⟩ := hL
    have HC := Lib.hid hC
    have HO := Lib.hid hO
    have hsn : Hid (stateAt n s (pre.length + 1) = numS n (stateAt n s pre.length)) := rfl
    clear hC hO hx
    generalize hst : stateAt n s pre.length = st at *
    generalize hpl : pre.length = q at *
    have HST := Lib.hid hst
    have HPL := Lib.hid hpl
    clear hst hpl hX hI hS
    gi_wp2_with fail
    refine (calls_round (refNumber_any _ _ _ hn hn2)).mono ?_
    rintro e W5 ⟨rfl, dq, rfl⟩
    have hstep := Lib.hid (HL.out.step (numS n st) dq)
    by_cases h2 : q = 2
    · subst h2
      gi_wp2_with fail
      exact ⟨C, hstep.out.2, fun k h => .inl h, rfl, by rw [show stateAt n s 3 = numS n st from hsn.out]; exact hstep.out.1⟩
    · have h2' : ((q : Int) + 1 == 3) = false := by simp; omega
      have H2 := Lib.hid h2
      clear h2
      gi_wp2_with fail
      refine ⟨C, hstep.out.2, fun k h => .inl h, ?_, ?_⟩
      · have := H2.out; have := HPL.out; simp; omega
      · rw [List.length_append, HPL.out, show q + [numV n st].length = q + 1 from rfl, hsn.out]; exact hstep.out.1
  case stop1 =>
  rintro c C pre W4 _ ⟨rfl, hL⟩ hD1 _
  have hK1' := hL.cK
  have hOd : Only (fun k => k = W3.heap.size ∨ k = W3.heap.size + 1) V1 W4 := ⟨hL.only.os, hL.only.tape, hL.only.output, hL.only.size, fun k hk hn' => hL.only.block k hk (by omega)⟩
  have z1 := hX.size
  replace hX := hX.far hOd (fun k hk => by omega)
  replace hS := hS.kept hOd (by omega)
  replace hI := hI.kept hOd (by omega) (by omega) (by omega)
  have zN1 := hOd.size
  have hD0w : W4.heap[D0]? = some (.deferred (some [])) := (hOd.block D0 zD0 (by omega)).trans hD0v
  generalize hgD : V1.heap.size = D1 at *
  clear hgD hK1 hA1 hfA1 hfK1 hOd hD0v hD0 hL hX1 hI1
  have c3 := hX.c3
  go_wp2_with fail
  rw [rounds_succ]
  obtain ⟨c0, c1, c2, c3', ⟨v4, c4⟩, ⟨v5, c5⟩, ⟨v6, c6⟩, f4, f5, f6, hz', hO⟩ := hX
  have HF := Lib.hid (fun tmps h6 h7 h8 => act_marks (tmps := tmps) ⟨c0, c1, c2, c3', ⟨v4, c4⟩, ⟨v5, c5⟩, ⟨v6, c6⟩, f4, f5, f6, hz', hO⟩ hS zb hs hs' hD0w hD1 (by omega) (by omega) h6 h7 h8)
  go_wp2_with fail
  go_region
  go_wp2_with fail
  exact HF.out _ rfl rfl rfl
end Go.Proofs.Ytnfhmfkcincneaa
