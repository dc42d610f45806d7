/- The sample. -/
import Derived.Test.YtljgejbmimapdaaDoorM6
set_option maxRecDepth 100000
set_option maxHeartbeats 4000000
set_option linter.unusedSimpArgs false
set_option linter.unusedVariables false
set_option linter.unusedSectionVars false
namespace Go.Proofs.YtljgejbmimapdaaDoor
open Go.RowKit

def dfix (xs : List Dx) (k : Nat) : List Ch := ((xs.take k).filter fun d => decide (d.chs.length = 1)).map fun d => ⟨d.st, nth d.chs 0⟩
theorem dfix_succ {xs : List Dx} {k : Nat} (h : k < xs.length) : dfix xs (k + 1) = dfix xs k ++ (if (nth xs k).chs.length = 1 then [⟨(nth xs k).st, nth (nth xs k).chs 0⟩] else []) := by
  unfold dfix
  rw [List.take_succ_eq_append_getElem h, nth_eq h, List.filter_append, List.map_append]
  congr 1
  by_cases h1 : xs[k].chs.length = 1 <;> simp [h1]
theorem dfix_len {xs : List Dx} {k : Nat} : (dfix xs k).length ≤ xs.length := by
  unfold dfix
  rw [List.length_map]
  refine Nat.le_trans (List.length_filter_le _ _) ?_
  rw [List.length_take]; omega

theorem dfixed_ret (xs : List Dx) (v : Value) (w : World) (h : DomsAt w v xs) (hl : xs.length ≤ 100000) : Calls Tryd.prog 34 #[v] w fun e w' => ∃ v : Value, True ∧ e = .returned v ∧ Hp w (fun _ => False) [.sl v 40 2 (dfix xs xs.length).length ((dfix xs xs.length).flatMap Ch.cells)] w' := by
  obtain ⟨A, cap, rfl, hsl⟩ := h.sl.op
  refine calls_T (M := fun _ => False) (hs := []) Tryd.func34 rfl rfl rfl (Hp.refl _ _) ?_
  refine T.seq ?_
  refine T.region ?_
  refine TL.yv (Wt.none rfl) rfl rfl (Yv.pur rfl) ?_
  refine TL.nil ?_
  refine K.seq ?_
  refine T.seq ?_
  refine T.region ?_
  refine TL.yv (Wt.none rfl) rfl rfl (Yv.pur rfl) ?_
  refine TL.nil ?_
  refine K.seq ?_
  refine T.seq ?_
  refine T.seq ?_
  refine T.region ?_
  refine TL.yv (Wt.none rfl) rfl rfl (Yv.pur rfl) ?_
  refine TL.nil ?_
  refine K.seq ?_
  refine T.block ?_
  refine T.slNil 40 2 ?_
  refine T.loop (ι := Nat × Value) (fun x => [(0, .slice A xs.length cap), (3, x.2), (4, .int .i64 (x.1 : Int))]) (fun x => [.sl x.2 40 2 (dfix xs x.1).length ((dfix xs x.1).flatMap Ch.cells)]) (fun x => x.1 ≤ xs.length) (fun x => xs.length - x.1) (0, .slice none 0 0) ?_ ?_ ?_ ?_
  · exact Nat.zero_le _
  · exact (by repeat (first | exact Sub.nil | refine Sub.cons rfl ?_))
  · exact (by repeat (first | exact List.Sublist.refl _ | exact List.nil_sublist _ | refine List.Sublist.cons_cons _ ?_ | refine List.Sublist.cons _ ?_))
  · intro x hphi
    obtain ⟨k, v⟩ := x
    dsimp only at hphi ⊢
    have hfl := dfix_len (xs := xs) (k := k)
    refine T.seq ?_
    refine T.seq ?_
    refine T.region ?_
    refine TL.yv (Wt.none rfl) rfl rfl (Yv.pur rfl) ?_
    refine TL.yv (Wt.none rfl) rfl rfl (Yv.pur rfl) ?_
    refine TL.yv (Wt.none rfl) rfl rfl (Yv.lenSl rfl rfl) ?_
    refine TL.yv (Wt.none rfl) rfl rfl (Yv.pur rfl) ?_
    refine TL.nil ?_
    refine K.seq ?_
    refine T.cond rfl (fun h1 => ?_) (fun h1 => ?_)
    · have p1 := h1
      try simp only [decide_eq_true_eq, decide_eq_false_iff_not, Int.not_lt, Int.not_le, Bool.not_eq_true', Bool.not_eq_false', Decidable.not_not, Bool.and_eq_true, Bool.or_eq_true, Bool.and_eq_false_iff, Bool.or_eq_false_iff] at p1
      obtain ⟨g, off, rfl, hc⟩ := hsl (by omega)
      have hk := hc k (by omega)
      obtain ⟨Ad, capd, hvd, hsd⟩ := (h.at (k := k) (by omega)).op
      simp only [Dx.cells, hvd] at hk
      refine T.skip ?_
      refine K.seq ?_
      refine T.seq ?_
      refine T.block ?_
      refine T.seq ?_
      refine T.region ?_
      refine TL.yv (Wt.none rfl) rfl rfl (Yv.pur rfl) ?_
      refine TL.yv (Wt.none rfl) rfl rfl (Yv.pur rfl) ?_
      refine TL.yv (Wt.none rfl) rfl rfl (Yv.indexSl rfl rfl rfl rfl (by omega)) ?_
      refine TL.yv (Wt.none rfl) rfl rfl (Yv.fieldAddr rfl rfl) ?_
      refine TL.yv (Wt.none rfl) rfl rfl (Yv.loadC (j := 1) rfl rfl hk rfl rfl (fun h => h)) ?_
      refine TL.yv (Wt.none rfl) rfl rfl (Yv.lenSl rfl rfl) ?_
      refine TL.yv (Wt.none rfl) rfl rfl (Yv.pur rfl) ?_
      refine TL.nil ?_
      refine K.seq ?_
      refine T.cond rfl (fun h2 => ?_) (fun h2 => ?_)
      · have p2 := h2
        try simp only [decide_eq_true_eq, decide_eq_false_iff_not, Int.not_lt, Int.not_le, Bool.not_eq_true', Bool.not_eq_false', Decidable.not_not, Bool.and_eq_true, Bool.or_eq_true, Bool.and_eq_false_iff, Bool.or_eq_false_iff] at p2
        obtain ⟨gd, od, rfl, hcd⟩ := hsd (by omega)
        have hk0 := hcd 0 (by omega)
        simp only [Ie] at hk0
        refine T.draw (.still 0 (.still 1 (.still 2 (.still 3 (.still 4 (.still 5 (.still 6 (.still 7 (.still 8 (.still 9 (.still 10 (.still 11 (.still 12 (.still 13 (.eff 14 (.eff 15 (.still 16 .done))))))))))))))))) [] (by kernel_rfl) (by repeat (first | exact List.Sublist.refl _ | exact List.nil_sublist _ | refine List.Sublist.cons_cons _ ?_ | refine List.Sublist.cons _ ?_)) ?_
        refine TS.still rfl (Wt.none rfl) rfl rfl (Yv.pur rfl) ?_
        refine TS.still rfl (Wt.none rfl) rfl rfl (Yv.pur rfl) ?_
        refine TS.still rfl (Wt.none rfl) rfl rfl (Yv.pur rfl) ?_
        refine TS.still rfl (Wt.none rfl) rfl rfl (Yv.indexSl rfl rfl rfl rfl (by omega)) ?_
        refine TS.still rfl (Wt.none rfl) rfl rfl (Yv.fieldAddr rfl rfl) ?_
        refine TS.still rfl (Wt.none rfl) rfl rfl (Yv.loadC (j := 0) rfl rfl hk rfl rfl (fun h => h)) ?_
        refine TS.still rfl (Wt.none rfl) rfl rfl (Yv.pur rfl) ?_
        refine TS.still rfl (Wt.none rfl) rfl rfl (Yv.pur rfl) ?_
        refine TS.still rfl (Wt.none rfl) rfl rfl (Yv.indexSl rfl rfl rfl rfl (by omega)) ?_
        refine TS.still rfl (Wt.none rfl) rfl rfl (Yv.fieldAddr rfl rfl) ?_
        refine TS.still rfl (Wt.none rfl) rfl rfl (Yv.loadC (j := 1) rfl rfl hk rfl rfl (fun h => h)) ?_
        refine TS.still rfl (Wt.none rfl) rfl rfl (Yv.indexSl rfl rfl rfl (show (0 : Int) = ((0 : Nat) : Int) from rfl) (by omega)) ?_
        refine TS.still rfl (Wt.none rfl) rfl rfl (Yv.loadC (j := 0) rfl rfl hk0 rfl rfl (fun h => h)) ?_
        refine TS.still rfl (Wt.none rfl) rfl rfl (Yv.build rfl rfl) ?_
        refine TS.eff ?_
        (refine TSo.ew rfl (Wt.none rfl) rfl rfl (Ew.buildSlice rfl rfl rfl (by decide)) ?_; rintro _ _ ⟨g32, rfl, rfl⟩; refine ⟨(by repeat (first | exact List.Sublist.refl _ | exact List.nil_sublist _ | refine List.Sublist.cons_cons _ ?_ | refine List.Sublist.cons _ ?_)), ?_⟩)
        refine TS.eff ?_
        (refine TSo.ew rfl (Wt.none rfl) rfl rfl (Ew.append 1 0 rfl rfl rfl rfl rfl rfl (by omega) (by omega)) ?_; rintro v33 _ ⟨hv33, rfl⟩; refine ⟨(by repeat (first | exact List.Sublist.refl _ | exact List.nil_sublist _ | refine List.Sublist.cons_cons _ ?_ | refine List.Sublist.cons _ ?_)), ?_⟩)
        refine TS.still rfl (Wt.none rfl) rfl rfl (Yv.pur rfl) ?_
        refine TS.done ?_
        refine K.blk_normal ?_
        refine K.seq ?_
        refine T.region ?_
        refine TL.yv (Wt.none rfl) rfl rfl (Yv.pur rfl) ?_
        refine TL.yv (Wt.none rfl) rfl rfl (Yv.addI rfl rfl rfl (by omega)) ?_
        refine TL.yv (Wt.none rfl) rfl rfl (Yv.pur rfl) ?_
        refine TL.nil ?_
        exact K.next (k + 1, v33) (by dsimp only; omega) (by dsimp only; omega) (by repeat (first | exact Sub.nil | refine Sub.cons rfl ?_)) (by dsimp only; rw [dfix_succ (by omega), if_pos (by omega), List.length_append, List.flatMap_append]; exact (by repeat (first | exact List.Sublist.refl _ | exact List.nil_sublist _ | refine List.Sublist.cons_cons _ ?_ | refine List.Sublist.cons _ ?_)))
      · have p2 := h2
        try simp only [decide_eq_true_eq, decide_eq_false_iff_not, Int.not_lt, Int.not_le, Bool.not_eq_true', Bool.not_eq_false', Decidable.not_not, Bool.and_eq_true, Bool.or_eq_true, Bool.and_eq_false_iff, Bool.or_eq_false_iff] at p2
        refine T.skip ?_
        refine K.blk_normal ?_
        refine K.seq ?_
        refine T.region ?_
        refine TL.yv (Wt.none rfl) rfl rfl (Yv.pur rfl) ?_
        refine TL.yv (Wt.none rfl) rfl rfl (Yv.addI rfl rfl rfl (by omega)) ?_
        refine TL.yv (Wt.none rfl) rfl rfl (Yv.pur rfl) ?_
        refine TL.nil ?_
        exact K.next (k + 1, v) (by dsimp only; omega) (by dsimp only; omega) (by repeat (first | exact Sub.nil | refine Sub.cons rfl ?_)) (by dsimp only; rw [dfix_succ (by omega), if_neg (by omega), List.append_nil]; exact (by repeat (first | exact List.Sublist.refl _ | exact List.nil_sublist _ | refine List.Sublist.cons_cons _ ?_ | refine List.Sublist.cons _ ?_)))
    · have p1 := h1
      try simp only [decide_eq_true_eq, decide_eq_false_iff_not, Int.not_lt, Int.not_le, Bool.not_eq_true', Bool.not_eq_false', Decidable.not_not, Bool.and_eq_true, Bool.or_eq_true, Bool.and_eq_false_iff, Bool.or_eq_false_iff] at p1
      refine T.exit ?_
      refine K.then_exit ?_
      refine K.then_exit ?_
      refine K.blk_exit_eq ?_
      refine K.seq ?_
      refine T.seq ?_
      refine T.region ?_
      refine TL.yv (Wt.none rfl) rfl rfl (Yv.pur rfl) ?_
      refine TL.yv (Wt.none rfl) rfl rfl (Yv.pur rfl) ?_
      refine TL.nil ?_
      refine K.seq ?_
      refine T.ret ?_
      exact K.ret1 rfl rfl (fun w' hw => ⟨_, trivial, rfl, by rw [show k = xs.length by omega] at hw; exact hw.sub (by repeat (first | exact List.Sublist.refl _ | exact List.nil_sublist _ | refine List.Sublist.cons_cons _ ?_ | refine List.Sublist.cons _ ?_))⟩)

def smp (a b c : Value) : Pb := { ds := [⟨1, a, [14, 15]⟩, ⟨2, b, [14, 15]⟩, ⟨3, c, [14, 15, 16]⟩], ps := [⟨1, 2, 0, 14, 51⟩, ⟨2, 3, 0, 14, 51⟩], ls := [⟨3, 1, 2, 14, 51⟩, ⟨3, 2, 2, 14, 51⟩], cs := [⟨3, 1, 14, 51⟩] }
abbrev sL (g n : Nat) : Value := .slice (some ⟨g, 0, none⟩) n n
structure Smp where
  a : Nat
  b : Nat
  c : Nat
  d : Nat
  p : Nat
  l : Nat
  k : Nat
def Smp.pb (s : Smp) : Pb := smp (sL s.a 2) (sL s.b 2) (sL s.c 3)
def Smp.val (s : Smp) : List Value := [sL s.d 3, sL s.p 2, sL s.l 2, sL s.k 1]
def Smp.hs (s : Smp) : HS := [.row s.k 88 (s.pb.cs.flatMap Cp.cells), .row s.l 86 (s.pb.ls.flatMap Ld.cells), .row s.p 84 (s.pb.ps.flatMap Pr.cells), .row s.d 64 (s.pb.ds.flatMap Dx.cells), .row s.c 3 ([14, 15, 16].flatMap Ie), .row s.b 3 ([14, 15].flatMap Ie), .row s.a 3 ([14, 15].flatMap Ie)]
theorem Smp.prob {B w : World} {M : Nat → Prop} {hs : HS} (s : Smp) (h : Hp B M (s.hs ++ hs) w) : ProbAt w (sL s.d 3) (sL s.p 2) (sL s.l 2) (sL s.k 1) s.pb := by
  have hk := Ent.row_ok.1 (h.own (.row s.k 88 (s.pb.cs.flatMap Cp.cells)) (by simp [Smp.hs]))
  have hl := Ent.row_ok.1 (h.own (.row s.l 86 (s.pb.ls.flatMap Ld.cells)) (by simp [Smp.hs]))
  have hp := Ent.row_ok.1 (h.own (.row s.p 84 (s.pb.ps.flatMap Pr.cells)) (by simp [Smp.hs]))
  have hd := Ent.row_ok.1 (h.own (.row s.d 64 (s.pb.ds.flatMap Dx.cells)) (by simp [Smp.hs]))
  have hc := Ent.row_ok.1 (h.own (.row s.c 3 ([14, 15, 16].flatMap Ie)) (by simp [Smp.hs]))
  have hb := Ent.row_ok.1 (h.own (.row s.b 3 ([14, 15].flatMap Ie)) (by simp [Smp.hs]))
  have ha := Ent.row_ok.1 (h.own (.row s.a 3 ([14, 15].flatMap Ie)) (by simp [Smp.hs]))
  refine ⟨⟨SlOf.lit (enc := Dx.cells) (size := 2) (fun _ => rfl) s.pb.ds hd rfl rfl, fun d hd' => ?_⟩, ⟨SlOf.lit (enc := Pr.cells) (size := 5) (fun _ => rfl) s.pb.ps hp rfl rfl, SlOf.lit (enc := Ld.cells) (size := 5) (fun _ => rfl) s.pb.ls hl rfl rfl, SlOf.lit (enc := Cp.cells) (size := 4) (fun _ => rfl) s.pb.cs hk rfl rfl, by simp [Smp.pb, smp], by simp [Smp.pb, smp], by simp [Smp.pb, smp]⟩, by simp [Smp.pb, smp], fun d hd' => ?_⟩
  · simp only [Smp.pb, smp, List.mem_cons, List.not_mem_nil, or_false] at hd'
    rcases hd' with rfl | rfl | rfl
    · exact SlOf.lit (enc := Ie) (size := 1) (fun _ => rfl) [14, 15] ha rfl rfl
    · exact SlOf.lit (enc := Ie) (size := 1) (fun _ => rfl) [14, 15] hb rfl rfl
    · exact SlOf.lit (enc := Ie) (size := 1) (fun _ => rfl) [14, 15, 16] hc rfl rfl
  · simp only [Smp.pb, smp, List.mem_cons, List.not_mem_nil, or_false] at hd'
    rcases hd' with rfl | rfl | rfl <;> simp

theorem sample_ret (w : World) : Calls Tryd.prog 32 #[] w fun e w' => ∃ s : Smp, True ∧ e = .returned (.agg s.val.toArray) ∧ Hp w (fun _ => False) s.hs w' := by
  refine calls_T (M := fun _ => False) (hs := []) Tryd.func32 rfl rfl rfl (Hp.refl _ _) ?_
  refine T.seq ?_
  refine T.region ?_
  (refine TL.ew (Wt.none rfl) rfl rfl (Ew.alloc rfl) ?_; rintro _ _ ⟨g0, rfl, rfl⟩)
  refine TL.nil ?_
  refine K.seq ?_
  refine T.seq ?_
  refine T.region ?_
  (refine TL.ew (Wt.none rfl) rfl rfl (Ew.buildSlice rfl rfl rfl (by decide)) ?_; rintro _ _ ⟨g1, rfl, rfl⟩)
  refine TL.yv (Wt.none rfl) rfl rfl (Yv.build rfl rfl) ?_
  (refine TL.ew (Wt.none rfl) rfl rfl (Ew.buildSlice rfl rfl rfl (by decide)) ?_; rintro _ _ ⟨g3, rfl, rfl⟩)
  refine TL.yv (Wt.none rfl) rfl rfl (Yv.build rfl rfl) ?_
  (refine TL.ew (Wt.none rfl) rfl rfl (Ew.buildSlice rfl rfl rfl (by decide)) ?_; rintro _ _ ⟨g5, rfl, rfl⟩)
  refine TL.yv (Wt.none rfl) rfl rfl (Yv.build rfl rfl) ?_
  (refine TL.ew (Wt.none rfl) rfl rfl (Ew.buildSlice rfl rfl rfl (by decide)) ?_; rintro _ _ ⟨g7, rfl, rfl⟩)
  refine TL.yv (Wt.none rfl) rfl rfl (Yv.build rfl rfl) ?_
  refine TL.yv (Wt.none rfl) rfl rfl (Yv.build rfl rfl) ?_
  (refine TL.ew (Wt.none rfl) rfl rfl (Ew.buildSlice rfl rfl rfl (by decide)) ?_; rintro _ _ ⟨g10, rfl, rfl⟩)
  refine TL.yv (Wt.none rfl) rfl rfl (Yv.build rfl rfl) ?_
  refine TL.yv (Wt.none rfl) rfl rfl (Yv.build rfl rfl) ?_
  (refine TL.ew (Wt.none rfl) rfl rfl (Ew.buildSlice rfl rfl rfl (by decide)) ?_; rintro _ _ ⟨g13, rfl, rfl⟩)
  refine TL.yv (Wt.none rfl) rfl rfl (Yv.build rfl rfl) ?_
  (refine TL.ew (Wt.none rfl) rfl rfl (Ew.buildSlice rfl rfl rfl (by decide)) ?_; rintro _ _ ⟨g15, rfl, rfl⟩)
  refine TL.yv (Wt.none rfl) rfl rfl (Yv.build rfl rfl) ?_
  refine TL.yv (Wt.none rfl) rfl rfl (Yv.build rfl rfl) ?_
  (refine TL.ew0 (Wt.none rfl) rfl (Ew.storeAll 7 rfl rfl rfl rfl rfl rfl) ?_; rintro _ _ ⟨rfl, rfl⟩)
  refine TL.nil ?_
  refine K.seq ?_
  refine T.ret ?_
  exact K.retC 7 rfl rfl rfl rfl (fun w' hw => ⟨⟨g1, g3, g5, g7, g10, g13, g15⟩, trivial, rfl, hw.sub (by repeat (first | exact List.Sublist.refl _ | exact List.nil_sublist _ | refine List.Sublist.cons_cons _ ?_ | refine List.Sublist.cons _ ?_))⟩)
end Go.Proofs.YtljgejbmimapdaaDoor
