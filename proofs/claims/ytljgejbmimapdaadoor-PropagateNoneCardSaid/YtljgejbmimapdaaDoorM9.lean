/- The examples of the chapter. -/
import Derived.Test.YtljgejbmimapdaaDoorPs
set_option maxRecDepth 100000
set_option maxHeartbeats 4000000
set_option linter.unusedSimpArgs false
set_option linter.unusedVariables false
set_option linter.unusedSectionVars false
namespace Go.Proofs.YtljgejbmimapdaaDoor
open Go.RowKit
theorem known_ret (w : World) (htab : Tab w) : Calls Tryd.prog 10 #[] w fun e w' => e = .returned (.bool true) ∧ Below w.heap.size w w' := by
  refine calls_T (M := fun _ => False) (hs := []) Tryd.func10 rfl rfl rfl (Hp.refl _ _) ?_
  refine T.seq ?_
  refine T.region ?_
  refine TL.yv (Wt.none rfl) rfl rfl (Yv.pur rfl) ?_
  refine TL.nil ?_
  refine K.seq ?_
  refine T.seq ?_
  refine T.region ?_
  (refine TL.ew (Wt.none rfl) rfl rfl (Ew.callH rfl rfl rfl (fun w hw => sample_ret _)) ?_; rintro _ _ ⟨s1, -, rfl, rfl⟩)
  (refine TL.ew (Wt.none rfl) rfl rfl (Ew.callH rfl rfl rfl (fun w hw => new_ok s1.pb _ _ _ _ w (s1.prob hw) (htab.keptF hw) (sm_ok _ _ _))) ?_; rintro _ _ ⟨⟨g1, gl, tp, Y, L0, c0, w0⟩, hN, rfl, rfl⟩)
  dsimp only at hN
  dsimp only [List.cons_append, List.nil_append]
  have hTb := hN.tb
  have hYok := sm_tok hTb
  have hYn := sm_n hTb
  have hI0 := hN.is (Pb.good (sm_ok _ _ _))
  obtain ⟨rfl, rfl⟩ := sm_new hTb hI0
  have hT := hN.at'
  rw [show s1.pb.ds.length = 3 from rfl]
  refine TL.yv (Wt.none rfl) rfl rfl (Yv.pur rfl) ?_
  refine TL.yv (Wt.none rfl) rfl rfl (Yv.pur rfl) ?_
  refine TL.yv (Wt.none rfl) rfl rfl (Yv.pur rfl) ?_
  refine TL.yv (Wt.none rfl) rfl rfl (Yv.pur rfl) ?_
  refine TL.yv (Wt.none rfl) rfl rfl (Yv.pur rfl) ?_
  refine TL.nil ?_
  refine K.seq ?_
  refine T.seq ?_
  refine T.seq ?_
  refine T.region ?_
  refine TL.yv (Wt.none rfl) rfl rfl (Yv.pur rfl) ?_
  refine TL.yv (Wt.none rfl) rfl rfl (Yv.binR rfl rfl rfl (eq46s _ _ _)) ?_
  refine TL.yv (Wt.none rfl) rfl rfl (Yv.pur rfl) ?_
  refine TL.yv (Wt.some rfl rfl rfl rfl) rfl rfl (Yv.pur rfl) ?_
  refine TL.yv (Wt.some rfl rfl rfl rfl) rfl rfl (Yv.pur rfl) ?_
  refine TL.yv (Wt.none rfl) rfl rfl (Yv.pickF rfl rfl rfl rfl) ?_
  refine TL.yv (Wt.none rfl) rfl rfl (Yv.pur rfl) ?_
  refine TL.yv (Wt.some rfl rfl rfl rfl) rfl rfl (Yv.pur rfl) ?_
  (refine TL.ew (Wt.some rfl rfl rfl rfl) rfl rfl (Ew.callD rfl rfl rfl (fun w hw => removed_ret g1 Y l0 false w (StF.of (Y := Y) hw hT (Ent.fz_ok.1 (hw.own (Ent.fz w0) (by simp))) (htab.keptF hw) 0 1 (by rw [hYn]; rfl) (by rw [hYn]; rfl) (by rw [hYn]; rfl)).st hYok (by rw [sm_total hTb]; decide))) ?_; rintro _ _ ⟨rfl, rfl⟩)
  rw [sm_rem0 hTb]
  refine TL.yv (Wt.some rfl rfl rfl rfl) rfl rfl (Yv.pur rfl) ?_
  refine TL.yv (Wt.none rfl) rfl rfl (Yv.pickF rfl rfl rfl rfl) ?_
  refine TL.yv (Wt.none rfl) rfl rfl (Yv.pur rfl) ?_
  refine TL.yv (Wt.some rfl rfl rfl rfl) rfl rfl (Yv.pur rfl) ?_
  (refine TL.ew (Wt.some rfl rfl rfl rfl) rfl rfl (Ew.callH rfl rfl rfl (fun w hw => domains_ok g1 Y l0 w (StF.of (Y := Y) hw hT (Ent.fz_ok.1 (hw.own (Ent.fz w0) (by simp))) (htab.keptF hw) 0 1 (by rw [hYn]; rfl) (by rw [hYn]; rfl) (by rw [hYn]; rfl)).st hYok)) ?_; rintro _ _ ⟨y24, hd24, rfl, rfl⟩)
  dsimp only [List.cons_append, List.nil_append]
  rw [sm_doms0 hTb] at hd24
  (refine TL.ew (Wt.some rfl rfl rfl rfl) rfl rfl (Ew.callH rfl rfl rfl (fun w hw => sample_ret _)) ?_; rintro _ _ ⟨s2, -, rfl, rfl⟩)
  refine TL.yv (Wt.some rfl rfl rfl rfl) rfl rfl (Yv.field rfl rfl rfl) ?_
  (refine TL.ew (Wt.some rfl rfl rfl rfl) rfl rfl (Ew.callD rfl rfl rfl (fun w hw => sameDomains_ret y24.2 s2.pb.ds _ _ w (DomsAt.own hw 7 8 rfl rfl) (s2.prob hw).ds (by rw [pl_len hd24]; decide) (pl_chs hd24 _ (by decide)))) ?_; rintro _ _ ⟨rfl, rfl⟩)
  rw [show decide (y24.2.map Dx.pl = s2.pb.ds.map Dx.pl) = true from decide_eq_true (by rw [hd24]; rfl)]
  refine TL.yv (Wt.some rfl rfl rfl rfl) rfl rfl (Yv.pur rfl) ?_
  refine TL.yv (Wt.none rfl) rfl rfl (Yv.pickF rfl rfl rfl rfl) ?_
  refine TL.nil ?_
  refine K.seq ?_
  refine T.condF rfl rfl ?_
  refine T.skip ?_
  refine K.seq ?_
  refine T.seq ?_
  refine T.weaken (hs' := [sRow g1 gl tp 3 false, sLeft gl 3 l0, Ent.fz w0]) Sub.refl (by repeat (first | exact List.Sublist.refl _ | exact List.nil_sublist _ | refine List.Sublist.cons_cons _ ?_ | refine List.Sublist.cons _ ?_)) ?_
  refine T.region ?_
  (refine TL.ew (Wt.none rfl) rfl rfl (Ew.callH rfl rfl rfl (fun w hw => sample_ret _)) ?_; rintro _ _ ⟨s3, -, rfl, rfl⟩)
  refine TL.yv (Wt.none rfl) rfl rfl (Yv.build rfl rfl) ?_
  (refine TL.ew (Wt.none rfl) rfl rfl (Ew.buildSlice rfl rfl rfl (by decide)) ?_; rintro _ _ ⟨g33, rfl, rfl⟩)
  (refine TL.ew (Wt.none rfl) rfl rfl (Ew.callH rfl rfl rfl (fun w hw => run_fine s3.pb _ _ _ _ ⟨1, 14⟩ _ w (s3.prob (by exact hw.sub (List.sublist_cons_self _ _))) (SlOf.lit (enc := Ch.cells) (size := 2) (fun _ => rfl) [⟨1, 14⟩] (Ent.row_ok.1 (hw.get (i := 0) rfl)) rfl rfl) (htab.keptF hw) (sm_ok _ _ _) (by decide) (fun Z hZ => by rw [sm_check hZ]; decide +kernel) (fun Z K d hZ hI => (sm_new hZ hI).2) (fun Z K d hZ hI => by rw [show s3.pb.left = (smp _ _ _).left from rfl, sm_asm1 hZ] at hI; exact (sm_one hZ hI).2))) ?_; rintro _ _ ⟨y34, ⟨Y1, L1, hT1, hI1, hd1⟩, rfl, rfl⟩)
  dsimp only [List.cons_append, List.nil_append]
  have hL1 : L1 = k1 := by rw [show s3.pb.left = (smp _ _ _).left from rfl, sm_asm1 hT1] at hI1; exact (sm_one hT1 hI1).1
  subst hL1
  rw [sm_doms1 hT1] at hd1
  have hlen34 : y34.2.length = 3 := pl_len hd1
  refine TL.yv (Wt.none rfl) rfl rfl (Yv.pur rfl) ?_
  refine TL.yv (Wt.none rfl) rfl rfl (Yv.pur rfl) ?_
  refine TL.yv (Wt.none rfl) rfl rfl (Yv.pur rfl) ?_
  refine TL.yv (Wt.none rfl) rfl rfl (Yv.pur rfl) ?_
  refine TL.yv (Wt.none rfl) rfl rfl (Yv.pur rfl) ?_
  refine TL.yv (Wt.none rfl) rfl rfl (Yv.pur rfl) ?_
  refine TL.yv (Wt.none rfl) rfl rfl (Yv.pur rfl) ?_
  refine TL.nil ?_
  refine K.seq ?_
  refine T.seq ?_
  refine T.weaken (hs' := [.sl y34.1 64 2 y34.2.length (y34.2.flatMap Dx.cells), .bag (y34.2.map dE), sRow g1 gl tp 3 false, sLeft gl 3 l0, Ent.fz w0]) Sub.refl (by repeat (first | exact List.Sublist.refl _ | exact List.nil_sublist _ | refine List.Sublist.cons_cons _ ?_ | refine List.Sublist.cons _ ?_)) ?_
  refine T.region ?_
  refine TL.yv (Wt.none rfl) rfl rfl (Yv.build rfl rfl) ?_
  refine TL.yv (Wt.none rfl) rfl rfl (Yv.build rfl rfl) ?_
  refine TL.yv (Wt.none rfl) rfl rfl (Yv.build rfl rfl) ?_
  (refine TL.ew (Wt.none rfl) rfl rfl (Ew.buildSlice rfl rfl rfl (by decide)) ?_; rintro _ _ ⟨g41, rfl, rfl⟩)
  refine TL.yv (Wt.none rfl) rfl rfl (Yv.pur rfl) ?_
  refine TL.nil ?_
  refine K.seq ?_
  refine T.seq ?_
  refine T.seq ?_
  refine T.region ?_
  refine TL.yv (Wt.none rfl) rfl rfl (Yv.pur rfl) ?_
  refine TL.yv (Wt.none rfl) rfl rfl (Yv.pur rfl) ?_
  refine TL.yv (Wt.none rfl) rfl rfl (Yv.pur rfl) ?_
  refine TL.yv (Wt.some rfl rfl rfl rfl) rfl rfl (Yv.pur rfl) ?_
  refine TL.yv (Wt.none rfl) rfl rfl (Yv.pickF rfl rfl rfl rfl) ?_
  refine TL.yv (Wt.none rfl) rfl rfl (Yv.pur rfl) ?_
  refine TL.yv (Wt.some rfl rfl rfl rfl) rfl rfl (Yv.pur rfl) ?_
  refine TL.yv (Wt.some rfl rfl rfl rfl) rfl rfl (Yv.lenE 1 rfl rfl rfl) ?_
  refine TL.yv (Wt.some rfl rfl rfl rfl) rfl rfl (Yv.pur rfl) ?_
  refine TL.yv (Wt.none rfl) rfl rfl (Yv.pickF rfl rfl rfl rfl) ?_
  refine TL.yv (Wt.none rfl) rfl rfl (Yv.pur rfl) ?_
  refine TL.yv (Wt.some rfl rfl rfl (by rw [hlen34]; rfl)) rfl rfl (Yv.pur rfl) ?_
  (refine TL.ew (Wt.some rfl rfl rfl (by rw [hlen34]; rfl)) rfl rfl (Ew.callH rfl rfl rfl (fun w hw => dfixed_ret y34.2 _ w (DomsAt.own hw 1 2 rfl rfl) (by omega))) ?_; rintro v54 _ ⟨_, -, rfl, rfl⟩)
  dsimp only [List.cons_append, List.nil_append]
  rw [show dfix y34.2 y34.2.length = want from by rw [dfix_pl, hd1]; decide]
  refine TL.yv (Wt.some rfl rfl rfl (by rw [hlen34]; rfl)) rfl rfl (Yv.pur rfl) ?_
  (refine TL.ew (Wt.some rfl rfl rfl (by rw [hlen34]; rfl)) rfl rfl (Ew.callD rfl rfl rfl (fun w hw => sameList_ret want want _ _ w (SlOf.ownAt (enc := Ch.cells) (fun _ => rfl) hw 0 rfl rfl) (SlOf.lit (enc := Ch.cells) (size := 2) (fun _ => rfl) want (Ent.row_ok.1 (hw.get (i := 1) rfl)) rfl rfl) (by decide))) ?_; rintro _ _ ⟨rfl, rfl⟩)
  rw [show decide (want = want) = true from decide_eq_true rfl]
  refine TL.yv (Wt.some rfl rfl rfl (by rw [hlen34]; rfl)) rfl rfl (Yv.pur rfl) ?_
  refine TL.yv (Wt.none rfl) rfl rfl (Yv.pickF rfl rfl (by rw [hlen34]; rfl) rfl) ?_
  refine TL.nil ?_
  refine K.seq ?_
  refine T.condF rfl rfl ?_
  refine T.skip ?_
  refine K.seq ?_
  refine T.seq ?_
  refine T.weaken (hs' := [.row g41 40 (want.flatMap Ch.cells), sRow g1 gl tp 3 false, sLeft gl 3 l0, Ent.fz w0]) Sub.refl (by repeat (first | exact List.Sublist.refl _ | exact List.nil_sublist _ | refine List.Sublist.cons_cons _ ?_ | refine List.Sublist.cons _ ?_)) ?_
  refine T.region ?_
  (refine TL.ew (Wt.none rfl) rfl rfl (Ew.callH rfl rfl rfl (fun w hw => sample_ret _)) ?_; rintro _ _ ⟨s4, -, rfl, rfl⟩)
  refine TL.yv (Wt.none rfl) rfl rfl (Yv.build rfl rfl) ?_
  (refine TL.ew (Wt.none rfl) rfl rfl (Ew.buildSlice rfl rfl rfl (by decide)) ?_; rintro _ _ ⟨g62, rfl, rfl⟩)
  (refine TL.ew (Wt.none rfl) rfl rfl (Ew.callD rfl rfl rfl (fun w hw => run_conf s4.pb _ _ _ _ ⟨3, 15⟩ _ w (s4.prob (by exact hw.sub (List.sublist_cons_self _ _))) (SlOf.lit (enc := Ch.cells) (size := 2) (fun _ => rfl) [⟨3, 15⟩] (Ent.row_ok.1 (hw.get (i := 0) rfl)) rfl rfl) (htab.keptF hw) (sm_ok _ _ _) (by decide) (fun Z hZ => by rw [sm_check hZ]; decide +kernel) (fun Z K d hZ hI => (sm_new hZ hI).2) (fun Z K d hZ hI => by rw [show s4.pb.left = (smp _ _ _).left from rfl, sm_asm3 hZ] at hI; exact sm_three hZ hI))) ?_; rintro _ _ ⟨rfl, rfl⟩)
  refine TL.yv (Wt.none rfl) rfl rfl (Yv.pur rfl) ?_
  refine TL.yv (Wt.none rfl) rfl rfl (Yv.pur rfl) ?_
  refine TL.yv (Wt.none rfl) rfl rfl (Yv.pur rfl) ?_
  refine TL.yv (Wt.none rfl) rfl rfl (Yv.pur rfl) ?_
  refine TL.yv (Wt.none rfl) rfl rfl (Yv.pur rfl) ?_
  refine TL.yv (Wt.none rfl) rfl rfl (Yv.pur rfl) ?_
  refine TL.yv (Wt.none rfl) rfl rfl (Yv.pur rfl) ?_
  refine TL.nil ?_
  refine K.seq ?_
  refine T.seq ?_
  refine T.weaken (hs' := [.row g41 40 (want.flatMap Ch.cells), sRow g1 gl tp 3 false, sLeft gl 3 l0, Ent.fz w0]) Sub.refl (by repeat (first | exact List.Sublist.refl _ | exact List.nil_sublist _ | refine List.Sublist.cons_cons _ ?_ | refine List.Sublist.cons _ ?_)) ?_
  refine T.permH (List.perm_append_comm (l₁ := [Ent.row g41 40 (want.flatMap Ch.cells)])) ?_
  dsimp only [List.cons_append, List.nil_append]
  refine T.region ?_
  refine TL.yv (Wt.none rfl) rfl rfl (Yv.pur rfl) ?_
  refine TL.yv (Wt.none rfl) rfl rfl (Yv.pur rfl) ?_
  refine TL.yv (Wt.none rfl) rfl rfl (Yv.pur rfl) ?_
  refine TL.yv (Wt.some rfl rfl rfl rfl) rfl rfl (Yv.pur rfl) ?_
  refine TL.yv (Wt.none rfl) rfl rfl (Yv.pickT rfl rfl rfl rfl) ?_
  refine TL.yv (Wt.none rfl) rfl rfl (Yv.pur rfl) ?_
  refine TL.yv (Wt.some rfl rfl rfl rfl) rfl rfl (Yv.pur rfl) ?_
  refine TL.yv (Wt.some rfl rfl rfl rfl) rfl rfl (Yv.lenSl rfl rfl) ?_
  refine TL.yv (Wt.some rfl rfl rfl rfl) rfl rfl (Yv.pur rfl) ?_
  refine TL.yv (Wt.none rfl) rfl rfl (Yv.pickT rfl rfl rfl rfl) ?_
  refine TL.yv (Wt.none rfl) rfl rfl (Yv.pur rfl) ?_
  refine TL.yv (Wt.some rfl rfl rfl rfl) rfl rfl (Yv.pur rfl) ?_
  refine TL.yv (Wt.some rfl rfl rfl rfl) rfl rfl (Yv.build rfl rfl) ?_
  rw [← hYn]
  (refine TL.ew (Wt.some rfl rfl rfl rfl) rfl rfl (Ew.callL [sRow g1 gl tp Y.n false, sLeft gl Y.n l0] [Ent.fz w0, Ent.row g41 40 (want.flatMap Ch.cells)] rfl rfl rfl (List.Perm.refl _) (fun w hw hw2 => forbid_ok w0 g1 gl tp Y l0 w hT hYok (Ent.fz_ok.1 (hw2.own (Ent.fz w0) (by simp))) (htab.keptF hw) hw2.part (fun g hg hc => hw2.sep (f := Ent.fz w0) (by simp) g hg (Ent.fz_fp.2 hc)) (hw2.no0 htab) (by rw [hYn]; rfl) (sm_closed hTb rfl closed0).calm hTb.ixn ⟨1, 15⟩ (by rw [sm_check hTb]; decide +kernel))) ?_; rintro _ _ ⟨y80, hpost, rfl, rfl⟩)
  dsimp only [List.cons_append, List.nil_append]
  rw [hYn]
  have hI80 := hI0.cut hYok (by rw [sm_check hTb, hYn]; decide +kernel) (Is.of hYok (by unfold cutL; rw [List.length_set, hYn]; rfl) hpost)
  obtain ⟨L8, c8⟩ := y80
  dsimp only at hI80 ⊢
  have hI81 : Is Y t1 L8 c8 := by rw [← sm_fbd1 hTb]; exact hI80
  obtain ⟨rfl, rfl⟩ := sm_one hTb hI81
  refine TL.yv (Wt.some rfl rfl rfl rfl) rfl rfl (Yv.pur rfl) ?_
  refine TL.yv (Wt.none rfl) rfl rfl (Yv.pickT rfl rfl rfl rfl) ?_
  refine TL.yv (Wt.none rfl) rfl rfl (Yv.pur rfl) ?_
  refine TL.yv (Wt.some rfl rfl rfl rfl) rfl rfl (Yv.pur rfl) ?_
  (refine TL.ew (Wt.some rfl rfl rfl rfl) rfl rfl (Ew.callH rfl rfl rfl (fun w hw => fixed_ret g1 Y k1 w (StF.of (Y := Y) hw hT (Ent.fz_ok.1 (hw.own (Ent.fz w0) (by simp))) (htab.keptF hw) 0 1 (by rw [hYn]; rfl) (by rw [hYn]; rfl) (by rw [hYn]; rfl)).st hYok)) ?_; rintro v85 _ ⟨_, -, rfl, rfl⟩)
  dsimp only [List.cons_append, List.nil_append]
  rw [sm_fix1 hTb]
  refine TL.yv (Wt.some rfl rfl rfl rfl) rfl rfl (Yv.pur rfl) ?_
  (refine TL.ew (Wt.some rfl rfl rfl rfl) rfl rfl (Ew.callD rfl rfl rfl (fun w hw => sameList_ret want want _ _ w (SlOf.ownAt (enc := Ch.cells) (fun _ => rfl) hw 0 rfl rfl) (SlOf.lit (enc := Ch.cells) (size := 2) (fun _ => rfl) want (Ent.row_ok.1 (hw.get (i := 4) rfl)) rfl rfl) (by decide))) ?_; rintro _ _ ⟨rfl, rfl⟩)
  rw [show decide (want = want) = true from decide_eq_true rfl]
  refine TL.yv (Wt.none rfl) rfl rfl (Yv.pickT rfl rfl rfl rfl) ?_
  refine TL.yv (Wt.none rfl) rfl rfl (Yv.pur rfl) ?_
  refine TL.yv (Wt.some rfl rfl rfl rfl) rfl rfl (Yv.pur rfl) ?_
  (refine TL.ew (Wt.some rfl rfl rfl rfl) rfl rfl (Ew.callD rfl rfl rfl (fun w hw => removed_ret g1 Y k1 false w (StF.of (Y := Y) hw hT (Ent.fz_ok.1 (hw.own (Ent.fz w0) (by simp))) (htab.keptF hw) 1 2 (by rw [hYn]; rfl) (by rw [hYn]; rfl) (by rw [hYn]; rfl)).st hYok (by rw [sm_total hTb]; decide))) ?_; rintro _ _ ⟨rfl, rfl⟩)
  rw [sm_rem1 hTb]
  refine TL.yv (Wt.some rfl rfl rfl rfl) rfl rfl (Yv.pur rfl) ?_
  refine TL.yv (Wt.none rfl) rfl rfl (Yv.pickT rfl rfl rfl rfl) ?_
  refine TL.yv (Wt.none rfl) rfl rfl (Yv.pur rfl) ?_
  refine TL.yv (Wt.some rfl rfl rfl rfl) rfl rfl (Yv.pur rfl) ?_
  (refine TL.ew (Wt.some rfl rfl rfl rfl) rfl rfl (Ew.callD rfl rfl rfl (fun w hw => conflict_ret g1 Y k1 false w (StF.of (Y := Y) hw hT (Ent.fz_ok.1 (hw.own (Ent.fz w0) (by simp))) (htab.keptF hw) 1 2 (by rw [hYn]; rfl) (by rw [hYn]; rfl) (by rw [hYn]; rfl)).st)) ?_; rintro _ _ ⟨rfl, rfl⟩)
  refine TL.yv (Wt.some rfl rfl rfl rfl) rfl rfl (Yv.pur rfl) ?_
  refine TL.yv (Wt.none rfl) rfl rfl (Yv.pickT rfl rfl rfl rfl) ?_
  refine TL.yv (Wt.none rfl) rfl rfl (Yv.pur rfl) ?_
  refine TL.nil ?_
  refine K.seq ?_
  refine T.ret ?_
  refine K.ret1 rfl rfl (fun w' hw => ⟨?_, hw.isBelow⟩)
  rfl
end Go.Proofs.YtljgejbmimapdaaDoor
