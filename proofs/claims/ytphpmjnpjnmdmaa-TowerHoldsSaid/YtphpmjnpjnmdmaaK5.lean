/- Records of weeks. -/
import Derived.Test.YtphpmjnpjnmdmaaRa
set_option maxRecDepth 100000
set_option maxHeartbeats 4000000
set_option linter.unusedSimpArgs false
set_option linter.unusedVariables false
set_option linter.unusedSectionVars false
namespace Go.Proofs.Ytphpmjnpjnmdmaa
open Go.RowKit
theorem at_ret (v : Value) (nb : Nat) (c : List Nat) (k : Nat) (w : World) (h : (Ent.sl v 98 64 nb (u8s c)).ok w) (hk : k ≤ 1000000) (hc : c.getD k 0 ≤ 200) : Calls Try.prog 49 #[v, .int .i64 (k : Int)] w fun e w' => e = .returned (.int .i64 ((c.getD k 0 : Nat) : Int)) ∧ Below w.heap.size w w' := by
  obtain ⟨hlen, A, cap, rfl, hsl⟩ := rec_form h
  refine calls_T (M := fun _ => False) (hs := []) Try.func49 rfl rfl rfl (Hp.refl _ _) ?_
  refine T.seq ?_
  refine T.region ?_
  refine TL.yv (Wt.none rfl) rfl rfl (Yv.pur rfl) ?_
  refine TL.nil ?_
  refine K.seq ?_
  refine T.seq ?_
  refine T.seq ?_
  refine T.region ?_
  refine TL.yv (Wt.none rfl) rfl rfl (Yv.pur rfl) ?_
  refine TL.yv (Wt.none rfl) rfl rfl (Yv.quoI rfl rfl rfl (by omega)) ?_
  refine TL.yv (Wt.none rfl) rfl rfl (Yv.pur rfl) ?_
  first | refine TL.yv (Wt.none rfl) rfl rfl (Yv.lenSl rfl rfl) ?_ | refine TL.yv (Wt.none rfl) rfl rfl (Yv.lenAr rfl) ?_
  refine TL.yv (Wt.none rfl) rfl rfl (Yv.pur rfl) ?_
  refine TL.nil ?_
  refine K.seq ?_
  refine T.cond rfl (fun h1 => ?_) (fun h1 => ?_)
  · have p1 := h1
    try simp only [decide_eq_true_eq, decide_eq_false_iff_not, Int.not_lt, Int.not_le, Bool.not_eq_true', Bool.not_eq_false', Decidable.not_not, Bool.and_eq_true, Bool.or_eq_true, Bool.and_eq_false_iff, Bool.or_eq_false_iff] at p1
    have e0 : c.getD k 0 = 0 := by simp [List.getD_eq_getElem?_getD, List.getElem?_eq_none (l := c) (i := k) (by omega)]
    refine T.seq ?_
    refine T.region ?_
    refine TL.yv (Wt.none rfl) rfl rfl (Yv.pur rfl) ?_
    refine TL.nil ?_
    refine K.seq ?_
    refine T.ret ?_
    refine K.then_ret ?_
    exact K.ret1 rfl rfl (fun w' hw => ⟨by rw [e0]; rfl, hw.isBelow⟩)
  · have p1 := h1
    try simp only [decide_eq_true_eq, decide_eq_false_iff_not, Int.not_lt, Int.not_le, Bool.not_eq_true', Bool.not_eq_false', Decidable.not_not, Bool.and_eq_true, Bool.or_eq_true, Bool.and_eq_false_iff, Bool.or_eq_false_iff] at p1
    obtain ⟨g, rfl, hcs⟩ := hsl (by omega)
    have hcell : w.cell? ⟨g, 0 + k / 64 * 64 + k % 64 * 1, none⟩ = some (.int .u8 ((c.getD k 0 : Nat) : Int)) := by rw [show 0 + k / 64 * 64 + k % 64 * 1 = k from by omega, hcs k (by omega)]; exact u8s_get (by omega)
    refine T.skip ?_
    refine K.seq ?_
    refine T.seq ?_
    refine T.region ?_
    refine TL.yv (Wt.none rfl) rfl rfl (Yv.pur rfl) ?_
    refine TL.yv (Wt.none rfl) rfl rfl (Yv.pur rfl) ?_
    refine TL.yv (Wt.none rfl) rfl rfl (Yv.quoI rfl rfl rfl (by omega)) ?_
    refine TL.yv (Wt.none rfl) rfl rfl (Yv.pur rfl) ?_
    refine TL.yv (Wt.none rfl) rfl rfl (Yv.remI rfl rfl rfl (by omega)) ?_
    first | refine TL.yv (Wt.none rfl) rfl rfl (Yv.indexSl rfl rfl rfl rfl (by omega)) ?_ | refine TL.yv (Wt.none rfl) rfl rfl (Yv.indexAr rfl rfl rfl rfl (by omega)) ?_ | refine TL.yv (Wt.none rfl) rfl rfl (Yv.indexSl rfl rfl rfl (show (k : Int) / 64 = ((k / 64 : Nat) : Int) from by omega) (by omega)) ?_ | refine TL.yv (Wt.none rfl) rfl rfl (Yv.indexSl rfl rfl rfl (show (k : Int) % 64 = ((k % 64 : Nat) : Int) from by omega) (by omega)) ?_ | refine TL.yv (Wt.none rfl) rfl rfl (Yv.indexAr rfl rfl rfl (show (k : Int) / 64 = ((k / 64 : Nat) : Int) from by omega) (by omega)) ?_ | refine TL.yv (Wt.none rfl) rfl rfl (Yv.indexAr rfl rfl rfl (show (k : Int) % 64 = ((k % 64 : Nat) : Int) from by omega) (by omega)) ?_
    first | refine TL.yv (Wt.none rfl) rfl rfl (Yv.indexSl rfl rfl rfl rfl (by omega)) ?_ | refine TL.yv (Wt.none rfl) rfl rfl (Yv.indexAr rfl rfl rfl rfl (by omega)) ?_ | refine TL.yv (Wt.none rfl) rfl rfl (Yv.indexSl rfl rfl rfl (show (k : Int) / 64 = ((k / 64 : Nat) : Int) from by omega) (by omega)) ?_ | refine TL.yv (Wt.none rfl) rfl rfl (Yv.indexSl rfl rfl rfl (show (k : Int) % 64 = ((k % 64 : Nat) : Int) from by omega) (by omega)) ?_ | refine TL.yv (Wt.none rfl) rfl rfl (Yv.indexAr rfl rfl rfl (show (k : Int) / 64 = ((k / 64 : Nat) : Int) from by omega) (by omega)) ?_ | refine TL.yv (Wt.none rfl) rfl rfl (Yv.indexAr rfl rfl rfl (show (k : Int) % 64 = ((k % 64 : Nat) : Int) from by omega) (by omega)) ?_
    first | refine TL.yv (Wt.none rfl) rfl rfl (Yv.loadO 0 rfl rfl rfl rfl) ?_ | refine TL.yv (Wt.none rfl) rfl rfl (Yv.loadO 1 rfl rfl rfl rfl) ?_ | refine TL.yv (Wt.none rfl) rfl rfl (Yv.loadO 2 rfl rfl rfl rfl) ?_ | refine TL.yv (Wt.none rfl) rfl rfl (Yv.loadB rfl rfl (by assumption) (fun h => h)) ?_ | refine TL.yv (Wt.none rfl) rfl rfl (Yv.loadS 0 rfl rfl rfl (by first | rfl | assumption)) ?_ | refine TL.yv (Wt.none rfl) rfl rfl (Yv.loadS 1 rfl rfl rfl (by first | rfl | assumption)) ?_ | refine TL.yv (Wt.none rfl) rfl rfl (Yv.loadS 2 rfl rfl rfl (by first | rfl | assumption)) ?_
    first | refine TL.yv (Wt.none rfl) rfl rfl (Yv.convI rfl rfl rfl) ?_ | refine TL.yv (Wt.none rfl) rfl rfl (Yv.convI rfl rfl (by first | exact IntWalk.i64_in _ (by omega) | exact IntWalk.u64_in _ (by omega) | exact IntWalk.u8_in _ (by omega))) ?_
    refine TL.yv (Wt.none rfl) rfl rfl (Yv.pur rfl) ?_
    refine TL.nil ?_
    refine K.seq ?_
    refine T.ret ?_
    exact K.ret1 rfl rfl (fun w' hw => ⟨rfl, hw.isBelow⟩)
theorem add_ret (v : Value) (nb : Nat) (c : List Nat) (k : Nat) (w : World) (h : (Ent.sl v 98 64 nb (u8s c)).ok w) (hk : k ≤ 1000000) (hc : c.getD k 0 ≤ 200) : Calls Try.prog 40 #[v, .int .i64 (k : Int)] w fun e w' => ∃ y : Value × Nat × List Nat, (∀ j, y.2.2.getD j 0 = c.getD j 0 + if j = k then 1 else 0) ∧ e = .returned y.1 ∧ Hp w (Ent.sl v 98 64 nb (u8s c)).fp [.sl y.1 98 64 y.2.1 (u8s y.2.2)] w' := by
  have hlen := (rec_form h).1
  refine calls_T (M := (Ent.sl v 98 64 nb (u8s c)).fp) (hs := [.sl v 98 64 nb (u8s c)]) Try.func40 rfl rfl rfl (Hp.start h) ?_
  refine T.seq ?_
  refine T.region ?_
  refine TL.yv (Wt.none rfl) rfl rfl (Yv.pur rfl) ?_
  refine TL.nil ?_
  refine K.seq ?_
  refine T.seq ?_
  refine T.block ?_
  refine T.loop (ι := Value × Nat × List Nat) (fun x => [(0, x.1), (1, .int .i64 (k : Int))]) (fun x => [.sl x.1 98 64 x.2.1 (u8s x.2.2)]) (fun x => x.2.2.length = x.2.1 * 64 ∧ ∀ j, x.2.2.getD j 0 = c.getD j 0) (fun x => k / 64 + 1 - x.2.1) (v, nb, c) ?_ ?_ ?_ ?_
  · exact ⟨hlen, fun j => rfl⟩
  · exact (by repeat (first | exact Sub.nil | refine Sub.cons rfl ?_))
  · exact (by repeat (first | exact List.Sublist.refl _ | exact List.nil_sublist _ | refine List.Sublist.cons_cons _ ?_ | refine List.Sublist.cons _ ?_))
  · intro x hphi
    obtain ⟨vx, nx, cx⟩ := x
    dsimp only at hphi ⊢
    obtain ⟨hlx, hcx⟩ := hphi
    refine T.seq ?_
    refine T.seq ?_
    refine T.region ?_
    refine TL.yv (Wt.none rfl) rfl rfl (Yv.pur rfl) ?_
    refine TL.yv (Wt.none rfl) rfl rfl (Yv.quoI rfl rfl rfl (by omega)) ?_
    refine TL.yv (Wt.none rfl) rfl rfl (Yv.pur rfl) ?_
    first | refine TL.yv (Wt.none rfl) rfl rfl (Yv.lenSl rfl rfl) ?_ | refine TL.yv (Wt.none rfl) rfl rfl (Yv.lenAr rfl) ?_ | refine TL.yv (Wt.none rfl) rfl rfl (Yv.lenE 0 rfl rfl rfl) ?_ | refine TL.yv (Wt.none rfl) rfl rfl (Yv.lenE 1 rfl rfl rfl) ?_
    refine TL.yv (Wt.none rfl) rfl rfl (Yv.pur rfl) ?_
    refine TL.nil ?_
    refine K.seq ?_
    refine T.cond rfl (fun h1 => ?_) (fun h1 => ?_)
    · have p1 := h1
      try simp only [decide_eq_true_eq, decide_eq_false_iff_not, Int.not_lt, Int.not_le, Bool.not_eq_true', Bool.not_eq_false', Decidable.not_not, Bool.and_eq_true, Bool.or_eq_true, Bool.and_eq_false_iff, Bool.or_eq_false_iff] at p1
      refine T.skip ?_
      refine K.seq ?_
      refine T.block ?_
      refine T.region ?_
      refine TL.yv (Wt.none rfl) rfl rfl (Yv.pur rfl) ?_
      first | refine TL.yv (Wt.none rfl) rfl rfl (Yv.build rfl rfl) ?_ | refine TL.yv (Wt.none rfl) rfl rfl (Yv.buildAr rfl rfl) ?_
      first | (refine TL.ew (Wt.none rfl) rfl rfl (Ew.buildSlice rfl rfl rfl (by decide)) ?_; rintro _ _ ⟨g12, rfl, rfl⟩) | (refine TL.ew (Wt.none rfl) rfl rfl (Ew.buildSlice1 rfl rfl rfl (by decide)) ?_; rintro _ _ ⟨g12, rfl, rfl⟩)
      first | (refine TL.ew (Wt.none rfl) rfl rfl (Ew.append 0 1 rfl rfl rfl rfl rfl rfl (by omega) (by omega)) ?_; rintro v13 _ ⟨hv13, rfl⟩) | (refine TL.ew (Wt.none rfl) rfl rfl (Ew.append 0 2 rfl rfl rfl rfl rfl rfl (by omega) (by omega)) ?_; rintro v13 _ ⟨hv13, rfl⟩) | (refine TL.ew (Wt.none rfl) rfl rfl (Ew.append 1 0 rfl rfl rfl rfl rfl rfl (by omega) (by omega)) ?_; rintro v13 _ ⟨hv13, rfl⟩) | (refine TL.ew (Wt.none rfl) rfl rfl (Ew.append 1 2 rfl rfl rfl rfl rfl rfl (by omega) (by omega)) ?_; rintro v13 _ ⟨hv13, rfl⟩) | (refine TL.ew (Wt.none rfl) rfl rfl (Ew.append 2 0 rfl rfl rfl rfl rfl rfl (by omega) (by omega)) ?_; rintro v13 _ ⟨hv13, rfl⟩) | (refine TL.ew (Wt.none rfl) rfl rfl (Ew.append 2 1 rfl rfl rfl rfl rfl rfl (by omega) (by omega)) ?_; rintro v13 _ ⟨hv13, rfl⟩)
      refine TL.yv (Wt.none rfl) rfl rfl (Yv.pur rfl) ?_
      refine TL.nil ?_
      refine K.blk_normal ?_
      rw [u8s_snoc]
      exact K.next (v13, nx + 1, cx ++ List.replicate 64 0) ⟨by simp [hlx]; omega, fun j => by rw [← hcx j]; exact getD_zeros cx 64 j⟩ (by dsimp only; omega) (by repeat (first | exact Sub.nil | refine Sub.cons rfl ?_)) (List.Sublist.cons _ (List.Sublist.refl _))
    · have p1 := h1
      try simp only [decide_eq_true_eq, decide_eq_false_iff_not, Int.not_lt, Int.not_le, Bool.not_eq_true', Bool.not_eq_false', Decidable.not_not, Bool.and_eq_true, Bool.or_eq_true, Bool.and_eq_false_iff, Bool.or_eq_false_iff] at p1
      refine T.slForm 0 rfl (by omega) ?_
      rintro g cap rfl
      refine T.exit ?_
      refine K.then_exit ?_
      refine K.then_exit ?_
      refine K.blk_exit_eq ?_
      refine K.seq ?_
      refine T.seq ?_
      refine T.draw (.still 0 (.still 1 (.still 2 (.still 3 (.still 4 (.still 5 (.still 6 (.still 9 (.eff 7 (.still 8 (.still 10 (.eff 11 .done)))))))))))) [] (by kernel_rfl) (by repeat (first | exact List.Sublist.refl _ | exact List.nil_sublist _ | refine List.Sublist.cons_cons _ ?_ | refine List.Sublist.cons _ ?_)) ?_
      refine TS.still rfl (Wt.none rfl) rfl rfl (Yv.pur rfl) ?_
      refine TS.still rfl (Wt.none rfl) rfl rfl (Yv.pur rfl) ?_
      refine TS.still rfl (Wt.none rfl) rfl rfl (Yv.quoI rfl rfl rfl (by omega)) ?_
      refine TS.still rfl (Wt.none rfl) rfl rfl (Yv.pur rfl) ?_
      refine TS.still rfl (Wt.none rfl) rfl rfl (Yv.remI rfl rfl rfl (by omega)) ?_
      first | refine TS.still rfl (Wt.none rfl) rfl rfl (Yv.indexSl rfl rfl rfl rfl (by omega)) ?_ | refine TS.still rfl (Wt.none rfl) rfl rfl (Yv.indexAr rfl rfl rfl rfl (by omega)) ?_ | refine TS.still rfl (Wt.none rfl) rfl rfl (Yv.indexSl rfl rfl rfl (show (k : Int) / 64 = ((k / 64 : Nat) : Int) from by omega) (by omega)) ?_ | refine TS.still rfl (Wt.none rfl) rfl rfl (Yv.indexSl rfl rfl rfl (show (k : Int) % 64 = ((k % 64 : Nat) : Int) from by omega) (by omega)) ?_ | refine TS.still rfl (Wt.none rfl) rfl rfl (Yv.indexAr rfl rfl rfl (show (k : Int) / 64 = ((k / 64 : Nat) : Int) from by omega) (by omega)) ?_ | refine TS.still rfl (Wt.none rfl) rfl rfl (Yv.indexAr rfl rfl rfl (show (k : Int) % 64 = ((k % 64 : Nat) : Int) from by omega) (by omega)) ?_
      first | refine TS.still rfl (Wt.none rfl) rfl rfl (Yv.indexSl rfl rfl rfl rfl (by omega)) ?_ | refine TS.still rfl (Wt.none rfl) rfl rfl (Yv.indexAr rfl rfl rfl rfl (by omega)) ?_ | refine TS.still rfl (Wt.none rfl) rfl rfl (Yv.indexSl rfl rfl rfl (show (k : Int) / 64 = ((k / 64 : Nat) : Int) from by omega) (by omega)) ?_ | refine TS.still rfl (Wt.none rfl) rfl rfl (Yv.indexSl rfl rfl rfl (show (k : Int) % 64 = ((k % 64 : Nat) : Int) from by omega) (by omega)) ?_ | refine TS.still rfl (Wt.none rfl) rfl rfl (Yv.indexAr rfl rfl rfl (show (k : Int) / 64 = ((k / 64 : Nat) : Int) from by omega) (by omega)) ?_ | refine TS.still rfl (Wt.none rfl) rfl rfl (Yv.indexAr rfl rfl rfl (show (k : Int) % 64 = ((k % 64 : Nat) : Int) from by omega) (by omega)) ?_
      first | refine TS.still rfl (Wt.none rfl) rfl rfl (Yv.indexSl rfl rfl rfl rfl (by omega)) ?_ | refine TS.still rfl (Wt.none rfl) rfl rfl (Yv.indexAr rfl rfl rfl rfl (by omega)) ?_ | refine TS.still rfl (Wt.none rfl) rfl rfl (Yv.indexSl rfl rfl rfl (show (k : Int) / 64 = ((k / 64 : Nat) : Int) from by omega) (by omega)) ?_ | refine TS.still rfl (Wt.none rfl) rfl rfl (Yv.indexSl rfl rfl rfl (show (k : Int) % 64 = ((k % 64 : Nat) : Int) from by omega) (by omega)) ?_ | refine TS.still rfl (Wt.none rfl) rfl rfl (Yv.indexAr rfl rfl rfl (show (k : Int) / 64 = ((k / 64 : Nat) : Int) from by omega) (by omega)) ?_ | refine TS.still rfl (Wt.none rfl) rfl rfl (Yv.indexAr rfl rfl rfl (show (k : Int) % 64 = ((k % 64 : Nat) : Int) from by omega) (by omega)) ?_
      refine TS.eff ?_
      first | refine TSo.yv rfl (Wt.none rfl) rfl rfl (Yv.loadS 0 (v := .int .u8 ((cx.getD k 0 : Nat) : Int)) rfl rfl rfl (by rw [show 0 + k / 64 * 64 + k % 64 * 1 = k from by omega]; exact u8s_get (by omega))) (by repeat (first | exact List.Sublist.refl _ | exact List.nil_sublist _ | refine List.Sublist.cons_cons _ ?_ | refine List.Sublist.cons _ ?_)) ?_ | refine TSo.yv rfl (Wt.none rfl) rfl rfl (Yv.loadO 0 rfl rfl rfl rfl) (by repeat (first | exact List.Sublist.refl _ | exact List.nil_sublist _ | refine List.Sublist.cons_cons _ ?_ | refine List.Sublist.cons _ ?_)) ?_ | refine TSo.yv rfl (Wt.none rfl) rfl rfl (Yv.loadO 1 rfl rfl rfl rfl) (by repeat (first | exact List.Sublist.refl _ | exact List.nil_sublist _ | refine List.Sublist.cons_cons _ ?_ | refine List.Sublist.cons _ ?_)) ?_ | refine TSo.yv rfl (Wt.none rfl) rfl rfl (Yv.loadO 2 rfl rfl rfl rfl) (by repeat (first | exact List.Sublist.refl _ | exact List.nil_sublist _ | refine List.Sublist.cons_cons _ ?_ | refine List.Sublist.cons _ ?_)) ?_ | refine TSo.yv rfl (Wt.none rfl) rfl rfl (Yv.loadB rfl rfl (by assumption) (fun h => h)) (by repeat (first | exact List.Sublist.refl _ | exact List.nil_sublist _ | refine List.Sublist.cons_cons _ ?_ | refine List.Sublist.cons _ ?_)) ?_ | refine TSo.yv rfl (Wt.none rfl) rfl rfl (Yv.loadS 0 rfl rfl rfl (by first | rfl | assumption)) (by repeat (first | exact List.Sublist.refl _ | exact List.nil_sublist _ | refine List.Sublist.cons_cons _ ?_ | refine List.Sublist.cons _ ?_)) ?_ | refine TSo.yv rfl (Wt.none rfl) rfl rfl (Yv.loadS 1 rfl rfl rfl (by first | rfl | assumption)) (by repeat (first | exact List.Sublist.refl _ | exact List.nil_sublist _ | refine List.Sublist.cons_cons _ ?_ | refine List.Sublist.cons _ ?_)) ?_ | refine TSo.yv rfl (Wt.none rfl) rfl rfl (Yv.loadS 2 rfl rfl rfl (by first | rfl | assumption)) (by repeat (first | exact List.Sublist.refl _ | exact List.nil_sublist _ | refine List.Sublist.cons_cons _ ?_ | refine List.Sublist.cons _ ?_)) ?_
      first | refine TS.still rfl (Wt.none rfl) rfl rfl (Yv.addK rfl rfl rfl (IntWalk.u8_in _ (by have := hcx k; omega))) ?_ | refine TS.still rfl (Wt.none rfl) rfl rfl (Yv.addI rfl rfl rfl (by omega)) ?_ | refine TS.still rfl (Wt.none rfl) rfl rfl (Yv.pur rfl) ?_
      first | refine TS.still rfl (Wt.none rfl) rfl rfl (Yv.indexSl rfl rfl rfl rfl (by omega)) ?_ | refine TS.still rfl (Wt.none rfl) rfl rfl (Yv.indexAr rfl rfl rfl rfl (by omega)) ?_ | refine TS.still rfl (Wt.none rfl) rfl rfl (Yv.indexSl rfl rfl rfl (show (k : Int) / 64 = ((k / 64 : Nat) : Int) from by omega) (by omega)) ?_ | refine TS.still rfl (Wt.none rfl) rfl rfl (Yv.indexSl rfl rfl rfl (show (k : Int) % 64 = ((k % 64 : Nat) : Int) from by omega) (by omega)) ?_ | refine TS.still rfl (Wt.none rfl) rfl rfl (Yv.indexAr rfl rfl rfl (show (k : Int) / 64 = ((k / 64 : Nat) : Int) from by omega) (by omega)) ?_ | refine TS.still rfl (Wt.none rfl) rfl rfl (Yv.indexAr rfl rfl rfl (show (k : Int) % 64 = ((k % 64 : Nat) : Int) from by omega) (by omega)) ?_
      refine TS.eff ?_
      first | (refine TSo.ew0 rfl (Wt.none rfl) rfl (Ew.storeS 0 rfl rfl rfl rfl (by rw [u8s_len]; omega)) ?_; rintro _ _ ⟨rfl, rfl⟩; refine ⟨(by repeat (first | exact List.Sublist.refl _ | exact List.nil_sublist _ | refine List.Sublist.cons_cons _ ?_ | refine List.Sublist.cons _ ?_)), ?_⟩) | (refine TSo.ew0 rfl (Wt.none rfl) rfl (Ew.store1 0 rfl rfl rfl rfl (by decide)) ?_; rintro _ _ ⟨rfl, rfl⟩; refine ⟨(by repeat (first | exact List.Sublist.refl _ | exact List.nil_sublist _ | refine List.Sublist.cons_cons _ ?_ | refine List.Sublist.cons _ ?_)), ?_⟩) | (refine TSo.ew0 rfl (Wt.none rfl) rfl (Ew.store1 1 rfl rfl rfl rfl (by decide)) ?_; rintro _ _ ⟨rfl, rfl⟩; refine ⟨(by repeat (first | exact List.Sublist.refl _ | exact List.nil_sublist _ | refine List.Sublist.cons_cons _ ?_ | refine List.Sublist.cons _ ?_)), ?_⟩) | (refine TSo.ew0 rfl (Wt.none rfl) rfl (Ew.store1 2 rfl rfl rfl rfl (by decide)) ?_; rintro _ _ ⟨rfl, rfl⟩; refine ⟨(by repeat (first | exact List.Sublist.refl _ | exact List.nil_sublist _ | refine List.Sublist.cons_cons _ ?_ | refine List.Sublist.cons _ ?_)), ?_⟩) | (refine TSo.ew0 rfl (Wt.none rfl) rfl (Ew.store1 0 rfl rfl rfl rfl (by first | omega | simpa)) ?_; rintro _ _ ⟨rfl, rfl⟩; refine ⟨(by repeat (first | exact List.Sublist.refl _ | exact List.nil_sublist _ | refine List.Sublist.cons_cons _ ?_ | refine List.Sublist.cons _ ?_)), ?_⟩) | (refine TSo.ew0 rfl (Wt.none rfl) rfl (Ew.store1 1 rfl rfl rfl rfl (by first | omega | simpa)) ?_; rintro _ _ ⟨rfl, rfl⟩; refine ⟨(by repeat (first | exact List.Sublist.refl _ | exact List.nil_sublist _ | refine List.Sublist.cons_cons _ ?_ | refine List.Sublist.cons _ ?_)), ?_⟩) | (refine TSo.ew0 rfl (Wt.none rfl) rfl (Ew.store1 2 rfl rfl rfl rfl (by first | omega | simpa)) ?_; rintro _ _ ⟨rfl, rfl⟩; refine ⟨(by repeat (first | exact List.Sublist.refl _ | exact List.nil_sublist _ | refine List.Sublist.cons_cons _ ?_ | refine List.Sublist.cons _ ?_)), ?_⟩)
      refine TS.done ?_
      refine K.seq ?_
      refine T.seq ?_
      refine T.region ?_
      refine TL.yv (Wt.none rfl) rfl rfl (Yv.pur rfl) ?_
      refine TL.yv (Wt.none rfl) rfl rfl (Yv.pur rfl) ?_
      refine TL.nil ?_
      refine K.seq ?_
      refine T.ret ?_
      rw [show 0 + k / 64 * 64 + k % 64 * 1 = k from by omega, show ((cx.getD k 0 : Nat) : Int) + 1 = ((cx.getD k 0 + 1 : Nat) : Int) from by omega, u8s_set]
      exact K.ret1 rfl rfl (fun w' hw => ⟨(_, nx, cx.set k (cx.getD k 0 + 1)), fun j => by
        rw [getD_set _ _ _ _ (by omega), hcx j]
        by_cases e : j = k
        · subst e; rw [if_pos rfl, if_pos rfl, hcx j]
        · rw [if_neg e, if_neg e]; rfl, rfl, hw⟩)
end Go.Proofs.Ytphpmjnpjnmdmaa
