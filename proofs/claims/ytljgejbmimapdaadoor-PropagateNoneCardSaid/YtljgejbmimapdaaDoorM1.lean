/- A new state. -/
import Derived.Test.YtljgejbmimapdaaDoorJ4
set_option maxRecDepth 100000
set_option maxHeartbeats 4000000
set_option linter.unusedSimpArgs false
set_option linter.unusedVariables false
set_option linter.unusedSectionVars false
namespace Go.Proofs.YtljgejbmimapdaaDoor
open Go.RowKit

theorem Hp.part {B w : World} {M : Nat → Prop} {es rest : HS} (h : Hp B M (es ++ rest) w) : Hp w (fps es) es w := Hp.startL (fun e he => h.own e (List.mem_append_left _ he)) (List.pairwise_append.1 h.apart).1
theorem Hp.sep {B w : World} {M : Nat → Prop} {es rest : HS} (h : Hp B M (es ++ rest) w) {f : Ent} (hf : f ∈ rest) : ∀ g, fps es g → ¬ f.fp g := fun g ⟨e, he, hg⟩ hfg => (List.pairwise_append.1 h.apart).2.2 e he f hf g hg hfg
theorem Hp.no0 {B w : World} {es rest : HS} (h : Hp B (fun _ => False) (es ++ rest) w) (ht : Tab B) : ¬ fps es 0 := fun ⟨e, he, hg⟩ => by
  rcases h.new e (List.mem_append_left _ he) 0 hg with hh | hh
  · exact hh
  · have := ht.size; omega
def Pb.left (P : Pb) : Ws := P.ds.map fun d => maskOf d.chs
theorem left_cells {P : Pb} : fillL (fun j => U (maskOf (nth P.ds j).chs)) (.int .u64 0) P.ds.length P.ds.length = Ws.cells P.left := by
  unfold fillL Pb.left
  apply List.ext_getElem?
  intro i
  by_cases h : i < P.ds.length
  · simp [h, nth]
  · simp [h]
theorem all_cells (n : Nat) : fillL (fun j => .int .i64 (j : Int)) (.int .i64 0) n n = nums (List.range n) := by
  unfold fillL nums; simp
theorem SInv.first {Y : Tb} {L : Ws} (hok : Y.Ok) (hl : L.length = Y.n) : SInv Y L L (List.range Y.n) sNil false where
  reach := .refl
  len := hl
  ws8 := rfl
  wsn j _ hb := by rw [sBit_nil] at hb; cases hb
  qn j hj := List.mem_range.1 hj
  q512 := by rw [List.length_range]; exact hok.n
  bad h := by cases h
  good _ i hi := .inl (List.mem_range.2 hi)
/-- What New makes of a valid problem. -/
structure NewIs (P : Pb) (Y : Tb) (L : Ws) (c : Bool) (tp : Nat) (w0 : World) : Prop where
  tb : TbOf P Y
  at' : TablesAt w0 tp Y
  post : SPost Y P.left L c

theorem new_bad (P : Pb) (vd vp vl vc : Value) (w : World) (h : ProbAt w vd vp vl vc P) (hok : P.ok = false) : Calls Tryd.prog 17 #[.agg [vd, vp, vl, vc].toArray] w fun e w' => e = .returned (.tuple #[.pointer none, .int .i64 2]) ∧ Below w.heap.size w w' := by
  obtain ⟨A, cap, rfl, hsl⟩ := h.ds.sl.op
  obtain ⟨A1, cap1, rfl, -⟩ := h.ru.ps.op
  obtain ⟨A2, cap2, rfl, -⟩ := h.ru.ls.op
  obtain ⟨A3, cap3, rfl, -⟩ := h.ru.cs.op
  refine calls_T (M := fun _ => False) (hs := []) Tryd.func17 rfl rfl rfl (Hp.refl _ _) ?_
  refine T.seq ?_
  refine T.region ?_
  (refine TL.ew (Wt.none rfl) rfl rfl (Ew.boxA rfl rfl) ?_; rintro _ _ ⟨g1, rfl, rfl⟩)
  refine TL.yv (Wt.none rfl) rfl rfl (Yv.pur rfl) ?_
  refine TL.yv (Wt.none rfl) rfl rfl (Yv.pur rfl) ?_
  refine TL.nil ?_
  refine K.seq ?_
  refine T.seq ?_
  refine T.seq ?_
  refine T.region ?_
  refine TL.yv (Wt.none rfl) rfl rfl (Yv.loadAO 0 rfl rfl rfl rfl) ?_
  (refine TL.ew (Wt.none rfl) rfl rfl (Ew.callD rfl rfl rfl (fun w hw => valid_ret P _ _ _ _ w (h.kept hw))) ?_; rintro _ _ ⟨rfl, rfl⟩)
  refine TL.yv (Wt.none rfl) rfl rfl (Yv.pur rfl) ?_
  refine TL.nil ?_
  refine K.seq ?_
  refine T.condT rfl (by rw [hok]; rfl) ?_
  refine T.seq ?_
  refine T.region ?_
  refine TL.yv (Wt.none rfl) rfl rfl (Yv.pur rfl) ?_
  refine TL.yv (Wt.none rfl) rfl rfl (Yv.pur rfl) ?_
  refine TL.nil ?_
  refine K.seq ?_
  refine T.ret ?_
  refine K.then_ret ?_
  refine K.ret2 rfl rfl rfl (fun w' hw => ⟨?_, hw.isBelow⟩)
  rfl
theorem new_ok (P : Pb) (vd vp vl vc : Value) (w : World) (h : ProbAt w vd vp vl vc P) (htab : Tab w) (hok : P.ok = true) : Calls Tryd.prog 17 #[.agg [vd, vp, vl, vc].toArray] w fun e w' => ∃ y : Nat × Nat × Nat × Tb × Ws × Bool × World, NewIs P y.2.2.2.1 y.2.2.2.2.1 y.2.2.2.2.2.1 y.2.2.1 y.2.2.2.2.2.2 ∧ e = .returned (.tuple #[.pointer (some ⟨y.1, 0, none⟩), .int .i64 0]) ∧ Hp w (fun _ => False) [sRow y.1 y.2.1 y.2.2.1 P.ds.length y.2.2.2.2.2.1, sLeft y.2.1 P.ds.length y.2.2.2.2.1, Ent.fz y.2.2.2.2.2.2] w' := by
  obtain ⟨A, cap, rfl, hsl⟩ := h.ds.sl.op
  obtain ⟨A1, cap1, rfl, -⟩ := h.ru.ps.op
  obtain ⟨A2, cap2, rfl, -⟩ := h.ru.ls.op
  obtain ⟨A3, cap3, rfl, -⟩ := h.ru.cs.op
  have hG := Pb.good hok
  have hn512 := hG.n
  refine calls_T (M := fun _ => False) (hs := []) Tryd.func17 rfl rfl rfl (Hp.refl _ _) ?_
  refine T.seq ?_
  refine T.region ?_
  (refine TL.ew (Wt.none rfl) rfl rfl (Ew.boxA rfl rfl) ?_; rintro _ _ ⟨g1, rfl, rfl⟩)
  refine TL.yv (Wt.none rfl) rfl rfl (Yv.pur rfl) ?_
  refine TL.yv (Wt.none rfl) rfl rfl (Yv.pur rfl) ?_
  refine TL.nil ?_
  refine K.seq ?_
  refine T.seq ?_
  refine T.seq ?_
  refine T.region ?_
  refine TL.yv (Wt.none rfl) rfl rfl (Yv.loadAO 0 rfl rfl rfl rfl) ?_
  (refine TL.ew (Wt.none rfl) rfl rfl (Ew.callD rfl rfl rfl (fun w hw => valid_ret P _ _ _ _ w (h.kept hw))) ?_; rintro _ _ ⟨rfl, rfl⟩)
  refine TL.yv (Wt.none rfl) rfl rfl (Yv.pur rfl) ?_
  refine TL.nil ?_
  refine K.seq ?_
  refine T.condF rfl (by rw [hok]; rfl) ?_
  refine T.skip ?_
  refine K.seq ?_
  refine T.seq ?_
  refine T.region ?_
  refine TL.yv (Wt.none rfl) rfl rfl (Yv.loadAO 0 rfl rfl rfl rfl) ?_
  (refine TL.ew (Wt.none rfl) rfl rfl (Ew.callH rfl rfl rfl (fun w hw => arrange_ret P _ _ _ _ w (h.kept hw) hok)) ?_; rintro _ _ ⟨⟨tp, Y, w0⟩, ⟨hTb, hT⟩, rfl, rfl⟩)
  dsimp only [List.cons_append, List.nil_append]
  have hYn : Y.n = P.ds.length := by unfold Tb.n; rw [hTb.st]; simp
  have hYok := hTb.ok hG
  have hLl : P.left.length = Y.n := by rw [hYn]; simp [Pb.left]
  refine TL.yv (Wt.none rfl) rfl rfl (Yv.build rfl rfl) ?_
  (refine TL.ew (Wt.none rfl) rfl rfl (Ew.boxA rfl rfl) ?_; rintro _ _ ⟨g14, rfl, rfl⟩)
  refine TL.yv (Wt.none rfl) rfl rfl (Yv.pur rfl) ?_
  refine TL.nil ?_
  refine K.seq ?_
  refine T.seq ?_
  refine T.region ?_
  refine TL.yv (Wt.none rfl) rfl rfl (Yv.pur rfl) ?_
  refine TL.yv (Wt.none rfl) rfl rfl (Yv.fieldAddr rfl rfl) ?_
  refine TL.yv (Wt.none rfl) rfl rfl (Yv.loadO 2 rfl rfl rfl rfl) ?_
  refine TL.yv (Wt.none rfl) rfl rfl (Yv.lenSl rfl rfl) ?_
  (refine TL.ew (Wt.none rfl) rfl rfl (Ew.makeSlice rfl rfl rfl rfl rfl (by omega) (by omega)) ?_; rintro _ _ ⟨g19, rfl, rfl⟩)
  refine TL.yv (Wt.none rfl) rfl rfl (Yv.pur rfl) ?_
  refine TL.yv (Wt.none rfl) rfl rfl (Yv.fieldAddr rfl rfl) ?_
  (refine TL.ew0 (Wt.none rfl) rfl (Ew.store1 1 rfl rfl rfl rfl (by first | omega | simp)) ?_; rintro _ _ ⟨rfl, rfl⟩)
  refine TL.nil ?_
  refine K.seq ?_
  refine T.seq ?_
  rw [made_one (.int .u64 0)]
  refine T.region ?_
  refine TL.yv (Wt.none rfl) rfl rfl (Yv.fieldAddr rfl rfl) ?_
  refine TL.yv (Wt.none rfl) rfl rfl (Yv.loadO 3 rfl rfl rfl rfl) ?_
  refine TL.yv (Wt.none rfl) rfl rfl (Yv.lenSl rfl rfl) ?_
  (refine TL.ew (Wt.none rfl) rfl rfl (Ew.makeSlice rfl rfl rfl rfl rfl (by omega) (by omega)) ?_; rintro _ _ ⟨g25, rfl, rfl⟩)
  refine TL.yv (Wt.none rfl) rfl rfl (Yv.pur rfl) ?_
  refine TL.nil ?_
  refine K.seq ?_
  refine T.cut (gs := [(4, .pointer (some ⟨g14, 0, none⟩)), (5, sV g25 P.ds.length)]) (hs' := [.sl (sV g25 P.ds.length) 3 1 P.ds.length (nums (List.range P.ds.length)), sLeft g19 P.ds.length P.left, sRow g14 g19 tp P.ds.length false, Ent.fz w0]) ?_ ?_
  · skip
    refine T.seq ?_
    rw [made_one (.int .i64 0)]
    refine T.region ?_
    refine TL.yv (Wt.none rfl) rfl rfl (Yv.fieldAddr rfl rfl) ?_
    refine TL.yv (Wt.none rfl) rfl rfl (Yv.loadO 4 rfl rfl rfl rfl) ?_
    refine TL.yv (Wt.none rfl) rfl rfl (Yv.lenSl rfl rfl) ?_
    refine TL.yv (Wt.none rfl) rfl rfl (Yv.pur rfl) ?_
    refine TL.nil ?_
    refine K.seq ?_
    refine T.block ?_
    refine T.loop (ι := Nat) (fun k => [(4, .pointer (some ⟨g14, 0, none⟩)), (5, sV g25 P.ds.length), (27, .slice A P.ds.length cap), (28, .int .i64 (P.ds.length : Int)), (29, .int .i64 (k : Int))]) (fun k => [.sl (sV g25 P.ds.length) 3 1 P.ds.length (fillL (fun j => .int .i64 (j : Int)) (.int .i64 0) P.ds.length k), .sl (sV g19 P.ds.length) 93 1 P.ds.length (fillL (fun j => U (maskOf (nth P.ds j).chs)) (.int .u64 0) P.ds.length k), sRow g14 g19 tp P.ds.length false, Ent.fz w0]) (fun k => k ≤ P.ds.length) (fun k => P.ds.length - k) 0 ?_ ?_ ?_ ?_
    · omega
    · exact (by repeat (first | exact Sub.nil | refine Sub.cons rfl ?_))
    · exact (by repeat (first | exact List.Sublist.refl _ | exact List.nil_sublist _ | refine List.Sublist.cons_cons _ ?_ | refine List.Sublist.cons _ ?_))
    · intro k hphi
      refine T.seq ?_
      refine T.region ?_
      refine TL.yv (Wt.none rfl) rfl rfl (Yv.pur rfl) ?_
      refine TL.nil ?_
      refine K.seq ?_
      refine T.seq ?_
      refine T.cond rfl (fun h1 => ?_) (fun h1 => ?_)
      · have p1 := h1
        try simp only [decide_eq_true_eq, decide_eq_false_iff_not, Int.not_lt, Int.not_le, Bool.not_eq_true', Bool.not_eq_false', Decidable.not_not, Bool.and_eq_true, Bool.or_eq_true, Bool.and_eq_false_iff, Bool.or_eq_false_iff] at p1
        obtain ⟨g, off, rfl, hc⟩ := hsl (by omega)
        have hk := hc k (by omega)
        haveI := (h.ds.at (k := k) (by omega)).one
        simp only [Dx.cells] at hk
        obtain ⟨hcl, hcr⟩ := hG.chs _ (nth_mem (xs := P.ds) (k := k) (by omega))
        refine T.skip ?_
        refine K.seq ?_
        refine T.seq ?_
        refine T.block ?_
        refine T.seq ?_
        refine T.region ?_
        refine TL.yv (Wt.none rfl) rfl rfl (Yv.pur rfl) ?_
        refine TL.yv (Wt.none rfl) rfl rfl (Yv.indexSl rfl rfl rfl rfl (by omega)) ?_
        refine TL.yv (Wt.none rfl) rfl rfl (Yv.loadAB rfl rfl hk rfl (fun h => h)) ?_
        (refine TL.ew (Wt.none rfl) rfl rfl (Ew.alloc rfl) ?_; rintro _ _ ⟨g7, rfl, rfl⟩)
        refine TL.yv (Wt.none rfl) rfl rfl (Yv.pur rfl) ?_
        (refine TL.ew0 (Wt.none rfl) rfl (Ew.storeAll 0 rfl rfl rfl rfl rfl rfl) ?_; rintro _ _ ⟨rfl, rfl⟩)
        refine TL.nil ?_
        refine K.seq ?_
        refine T.seq ?_
        refine T.draw (.still 0 (.still 1 (.still 2 (.still 3 (.still 4 (.still 5 (.still 6 (.eff 7 (.still 8 (.eff 9 .done)))))))))) (List.eraseIdx _ 2) (by kernel_rfl) (List.eraseIdx_sublist _ _) ?_
        refine TS.still rfl (Wt.none rfl) rfl rfl (Yv.pur rfl) ?_
        refine TS.still rfl (Wt.none rfl) rfl rfl (Yv.pur rfl) ?_
        refine TS.still rfl (Wt.none rfl) rfl rfl (Yv.fieldAddr rfl rfl) ?_
        refine TS.still rfl (Wt.none rfl) rfl rfl (Yv.loadO 2 rfl rfl rfl rfl) ?_
        refine TS.still rfl (Wt.none rfl) rfl rfl (Yv.pur rfl) ?_
        refine TS.still rfl (Wt.none rfl) rfl rfl (Yv.fieldAddr rfl rfl) ?_
        refine TS.still rfl (Wt.none rfl) rfl rfl (Yv.loadO 0 rfl rfl rfl rfl) ?_
        refine TS.eff ?_
        (refine TSo.ew rfl (Wt.none rfl) rfl rfl (Ew.callD rfl rfl rfl (fun w hw => mask_ret (nth P.ds k).chs _ w ((h.ds.at (k := k) (by omega)).kept hw) (by omega) hcr)) ?_; rintro _ _ ⟨rfl, rfl⟩; refine ⟨(by repeat (first | exact List.Sublist.refl _ | exact List.nil_sublist _ | refine List.Sublist.cons_cons _ ?_ | refine List.Sublist.cons _ ?_)), ?_⟩)
        refine TS.still rfl (Wt.none rfl) rfl rfl (Yv.indexSl rfl rfl rfl rfl (by omega)) ?_
        refine TS.eff ?_
        (refine TSo.ew0 rfl (Wt.none rfl) rfl (Ew.storeSE 2 (fillL (fun j => U (maskOf (nth P.ds j).chs)) (.int .u64 0) P.ds.length (k + 1)) rfl rfl rfl rfl (by rw [fillL_len (by omega)]; omega) (fillL_set (by omega) (by omega))) ?_; rintro _ _ ⟨rfl, rfl⟩; refine ⟨(by repeat (first | exact List.Sublist.refl _ | exact List.nil_sublist _ | refine List.Sublist.cons_cons _ ?_ | refine List.Sublist.cons _ ?_)), ?_⟩)
        refine TS.done ?_
        refine K.seq ?_
        refine T.region ?_
        refine TL.yv (Wt.none rfl) rfl rfl (Yv.pur rfl) ?_
        refine TL.yv (Wt.none rfl) rfl rfl (Yv.pur rfl) ?_
        refine TL.yv (Wt.none rfl) rfl rfl (Yv.pur rfl) ?_
        refine TL.yv (Wt.none rfl) rfl rfl (Yv.indexSl rfl rfl rfl rfl (by omega)) ?_
        (refine TL.ew0 (Wt.none rfl) rfl (Ew.storeSE 1 (fillL (fun j => .int .i64 (j : Int)) (.int .i64 0) P.ds.length (k + 1)) rfl rfl rfl rfl (by rw [fillL_len (by omega)]; omega) (fillL_set (f := fun j => .int .i64 (j : Int)) (by omega) (by omega))) ?_; rintro _ _ ⟨rfl, rfl⟩)
        refine TL.nil ?_
        refine K.blk_normal ?_
        refine K.seq ?_
        refine T.region ?_
        refine TL.yv (Wt.none rfl) rfl rfl (Yv.addI rfl rfl rfl (by omega)) ?_
        refine TL.yv (Wt.none rfl) rfl rfl (Yv.pur rfl) ?_
        refine TL.nil ?_
        exact K.next (k + 1) (by omega) (by omega) (by repeat (first | exact Sub.nil | refine Sub.cons rfl ?_)) (by repeat (first | exact List.Sublist.refl _ | exact List.nil_sublist _ | refine List.Sublist.cons_cons _ ?_ | refine List.Sublist.cons _ ?_))
      · have p1 := h1
        try simp only [decide_eq_true_eq, decide_eq_false_iff_not, Int.not_lt, Int.not_le, Bool.not_eq_true', Bool.not_eq_false', Decidable.not_not, Bool.and_eq_true, Bool.or_eq_true, Bool.and_eq_false_iff, Bool.or_eq_false_iff] at p1
        refine T.exit ?_
        refine K.then_exit ?_
        refine K.then_exit ?_
        refine K.blk_exit_eq ?_
        obtain rfl : k = P.ds.length := by omega
        rw [left_cells, all_cells]
        exact K.at (by repeat (first | exact Sub.nil | refine Sub.cons rfl ?_)) (by repeat (first | exact List.Sublist.refl _ | exact List.nil_sublist _ | refine List.Sublist.cons_cons _ ?_ | refine List.Sublist.cons _ ?_))
  · skip
    refine T.seq ?_
    refine T.region ?_
    refine TL.yv (Wt.none rfl) rfl rfl (Yv.pur rfl) ?_
    refine TL.yv (Wt.none rfl) rfl rfl (Yv.pur rfl) ?_
    rw [← hYn]
    refine TL.conv 0 _ (Ent.qu (sV g25 Y.n) (List.range Y.n)) rfl (fun w hh => qu_of_sl (by rw [List.length_range]) hh) (fun g hg => Ent.sl_fp.2 (Ent.qu_fp.1 hg)) ?_
    (refine TL.ew (Wt.none rfl) rfl rfl (Ew.callL [sRow g14 g19 tp Y.n false, sLeft g19 Y.n P.left, Ent.qu (sV g25 Y.n) (List.range Y.n)] [Ent.fz w0] rfl rfl rfl ((List.reverse_perm [sRow g14 g19 tp Y.n false, sLeft g19 Y.n P.left, Ent.qu (sV g25 Y.n) (List.range Y.n)]).append_right _) (fun w hw hw2 => settle_ret w0 g14 g19 tp Y P.left false _ (List.range Y.n) w hT hYok (Ent.fz_ok.1 (hw2.own (Ent.fz w0) (by simp))) (htab.keptF hw) hw2.part (fun g hg hc => hw2.sep (f := Ent.fz w0) (by simp) g hg (Ent.fz_fp.2 hc)) (hw2.no0 htab) (SInv.first hYok hLl))) ?_; rintro _ _ ⟨y50, hpost, rfl, rfl⟩)
    dsimp only [List.cons_append, List.nil_append]
    refine TL.nil ?_
    refine K.seq ?_
    refine T.seq ?_
    refine T.region ?_
    refine TL.yv (Wt.none rfl) rfl rfl (Yv.pur rfl) ?_
    refine TL.yv (Wt.none rfl) rfl rfl (Yv.pur rfl) ?_
    refine TL.yv (Wt.none rfl) rfl rfl (Yv.pur rfl) ?_
    refine TL.nil ?_
    refine K.seq ?_
    refine T.ret ?_
    exact K.ret2 rfl rfl rfl (fun w' hw => ⟨(g14, g19, tp, Y, y50.1, y50.2, w0), ⟨hTb, hT, hpost⟩, rfl, hw.sub (by repeat (first | exact List.Sublist.refl _ | exact List.nil_sublist _ | refine List.Sublist.cons_cons _ ?_ | refine List.Sublist.cons _ ?_))⟩)
end Go.Proofs.YtljgejbmimapdaaDoor
