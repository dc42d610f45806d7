/- Running. -/
import Derived.Test.YtljgejbmimapdaaDoorPm
set_option maxRecDepth 100000
set_option maxHeartbeats 4000000
set_option linter.unusedSimpArgs false
set_option linter.unusedVariables false
set_option linter.unusedSectionVars false
namespace Go.Proofs.YtljgejbmimapdaaDoor
open Go.RowKit

theorem ix_le (ds : List Dx) : ∀ k j, 0 ≤ ixAt ds k j ∧ ixAt ds k j ≤ (k : Int)
  | 0, j => by simp [ixAt]
  | k + 1, j => by
    have := ix_le ds k j
    show 0 ≤ (if j = (nth ds k).st.toNat then (k : Int) + 1 else ixAt ds k j) ∧ (if j = (nth ds k).st.toNat then (k : Int) + 1 else ixAt ds k j) ≤ ((k + 1 : Nat) : Int)
    split <;> omega
theorem TbOf.n {P : Pb} {Y : Tb} (h : TbOf P Y) : Y.n = P.ds.length := by unfold Tb.n; rw [h.st]; simp
theorem TbOf.ixn {P : Pb} {Y : Tb} (h : TbOf P Y) : ∀ j, 0 ≤ Y.ix j ∧ Y.ix j ≤ Y.n := fun j => by rw [h.ix, h.n]; exact ix_le _ _ _
theorem NewIs.is {P : Pb} {Y : Tb} {L : Ws} {c : Bool} {tp : Nat} {w0 : World} (hG : P.Good) (h : NewIs P Y L c tp w0) : Is Y P.left L c := Is.of (h.tb.ok hG) (by rw [h.tb.n]; simp [Pb.left]) h.post
theorem assume_is {Y : Tb} {T L L' : Ws} {c : Bool} {i : Nat} {g : BitVec 64} (hok : Y.Ok) (hi : i < Y.n) (h : Is Y T L false) (k : SPost Y (cutL L i g) L' c) : Is Y (cutL T i g) L' c :=
  h.cut hok hi (Is.of hok (by unfold cutL; rw [List.length_set, h.len]) k)
/-- The channels when a choice is assumed. -/
def asm (Y : Tb) (T : Ws) (x : Ch) : Ws := cutL T (checkF Y false x).1.toNat (~~~(1#64 <<< x.ch.toNat))
def fbd (Y : Tb) (T : Ws) (x : Ch) : Ws := cutL T (checkF Y false x).1.toNat (1#64 <<< x.ch.toNat)
theorem check_at {Y : Tb} {x : Ch} (h : (checkF Y false x).2 = 0) : (atF Y x.st).2 = true := by
  unfold checkF at h
  split at h
  · cases h
  · rw [if_neg (by simp)] at h
    split at h
    · cases h
    · rename_i h3; simpa using h3


theorem runPerm (a b c d : Ent) : [a, b, c, d].Perm ([b, c] ++ [a, d]) := by
  have h1 : ([a] ++ [b, c]).Perm ([b, c] ++ [a]) := List.perm_append_comm
  exact h1.append_right [d]


theorem K.ret3 {n : Nat} {B D : World} {M : Nat → Prop} {P : Program} {fs : SFs} {hs : HS} {fn : Func} {R : Ending → World → Prop} {t u s : Nat} {v x y : Value} (hr : fn.results = #[.tmp t, .tmp u, .tmp s]) (hv : look fs t = some v) (hx : look fs u = some x) (hy : look fs s = some y) (h : ∀ w, Hp B M hs w → R (.returned (.tuple #[v, x, y])) w) : K n B D M (bodyQ P fn R) .ret fs hs :=
  (K.leave (fun a w ha _ => by
    have e : (results fn a.tmps).run P w = .ok (.tuple #[a.tmps.getD t undef, a.tmps.getD u undef, a.tmps.getD s undef]) w := by simp [results, hr]
    rw [e]; simp only [Array.getD_eq_getD_getElem?, ha.get t v hv, ha.get u x hx, ha.get s y hy]; rfl) h).1

theorem run_conf (P : Pb) (vd vp vl vc : Value) (x : Ch) (vx : Value) (w : World) (h : ProbAt w vd vp vl vc P) (hx : ChsAt w vx [x]) (htab : Tab w) (hok : P.ok = true) (hlx : listOk [x] = true) (hck : ∀ Y, TbOf P Y → (checkF Y false x).2 = 0) (hbef : ∀ Y L c, TbOf P Y → Is Y P.left L c → c = false) (hfin0 : ∀ Y L c, TbOf P Y → Is Y (asm Y P.left x) L c → c = true) : Calls Tryd.prog 11 #[.agg [vd, vp, vl, vc].toArray, vx] w fun e w' => e = .returned (.tuple #[.slice none 0 0, .bool true, .int .i64 0]) ∧ Below w.heap.size w w' := by
  obtain ⟨A, cap, rfl, hsl⟩ := h.ds.sl.op
  obtain ⟨A1, cap1, rfl, -⟩ := h.ru.ps.op
  obtain ⟨A2, cap2, rfl, -⟩ := h.ru.ls.op
  obtain ⟨A3, cap3, rfl, -⟩ := h.ru.cs.op
  obtain ⟨AX, capX, rfl, hslX⟩ := hx.op
  have hG := Pb.good hok
  have hn512 := hG.n
  obtain ⟨gX, oX, rfl, hcX⟩ := hslX (by simp)
  have hkX := hcX 0 (by simp)
  simp only [Ch.cells] at hkX
  rw [show nth [x] 0 = x from rfl] at hkX
  simp only [List.length_singleton] at hx ⊢
  refine calls_T (M := fun _ => False) (hs := []) Tryd.func11 rfl rfl rfl (Hp.refl _ _) ?_
  refine T.seq ?_
  refine T.region ?_
  (refine TL.ew (Wt.none rfl) rfl rfl (Ew.boxA rfl rfl) ?_; rintro _ _ ⟨g2, rfl, rfl⟩)
  refine TL.yv (Wt.none rfl) rfl rfl (Yv.pur rfl) ?_
  refine TL.yv (Wt.none rfl) rfl rfl (Yv.pur rfl) ?_
  refine TL.yv (Wt.none rfl) rfl rfl (Yv.pur rfl) ?_
  refine TL.nil ?_
  refine K.seq ?_
  refine T.seq ?_
  refine T.region ?_
  refine TL.yv (Wt.none rfl) rfl rfl (Yv.loadAO 0 rfl rfl rfl rfl) ?_
  (refine TL.ew (Wt.none rfl) rfl rfl (Ew.callH rfl rfl rfl (fun w hw => new_ok P _ _ _ _ w (h.kept hw) (htab.keptF hw) hok)) ?_; rintro _ _ ⟨⟨g7, gl, tp, Y, L0, c0, w0⟩, hN, rfl, rfl⟩)
  dsimp only at hN
  dsimp only [List.cons_append, List.nil_append]
  have hYok := hN.tb.ok hG
  have hYn := hN.tb.n
  have hI0 := hN.is hG
  obtain rfl := hbef Y L0 c0 hN.tb hI0
  have hx0 := hck Y hN.tb
  have hT := hN.at'
  obtain ⟨hc1, hc2, hc3, hc4⟩ := check_facts hN.tb.ixn hx0
  refine TL.yv (Wt.none rfl) rfl rfl (Yv.pur rfl) ?_
  refine TL.yv (Wt.none rfl) rfl rfl (Yv.pur rfl) ?_
  refine TL.yv (Wt.none rfl) rfl rfl (Yv.pur rfl) ?_
  refine TL.yv (Wt.none rfl) rfl rfl (Yv.pur rfl) ?_
  refine TL.yv (Wt.none rfl) rfl rfl (Yv.pur rfl) ?_
  refine TL.nil ?_
  refine K.seq ?_
  refine T.seq ?_
  refine T.seq ?_
  refine T.region ?_
  refine TL.yv (Wt.none rfl) rfl rfl (Yv.pur rfl) ?_
  refine TL.yv (Wt.none rfl) rfl rfl (Yv.pur rfl) ?_
  refine TL.nil ?_
  refine K.seq ?_
  refine T.condF rfl (by rfl) ?_
  refine T.skip ?_
  refine K.seq ?_
  refine T.seq ?_
  refine T.seq ?_
  refine T.region ?_
  refine TL.yv (Wt.none rfl) rfl rfl (Yv.pur rfl) ?_
  (refine TL.ew (Wt.none rfl) rfl rfl (Ew.callD rfl rfl rfl (fun w hw => validList_ret [x] _ w (hx.kept hw) (by simp))) ?_; rintro _ _ ⟨rfl, rfl⟩)
  refine TL.yv (Wt.none rfl) rfl rfl (Yv.pur rfl) ?_
  refine TL.nil ?_
  refine K.seq ?_
  refine T.condF rfl (by rw [hlx]; rfl) ?_
  refine T.skip ?_
  refine K.seq ?_
  refine T.seq ?_
  refine T.seq ?_
  refine T.region ?_
  refine TL.yv (Wt.none rfl) rfl rfl (Yv.pur rfl) ?_
  refine TL.yv (Wt.none rfl) rfl rfl (Yv.lenSl rfl rfl) ?_
  refine TL.yv (Wt.none rfl) rfl rfl (Yv.pur rfl) ?_
  refine TL.nil ?_
  refine K.seq ?_
  refine T.block ?_
  refine T.loop (ι := Nat) (fun k => [(1, .slice (some ⟨gX, oX, none⟩) 1 capX), (7, .pointer (some ⟨g7, 0, none⟩)), (26, .slice (some ⟨gX, oX, none⟩) 1 capX), (27, .int .i64 1), (28, .int .i64 (k : Int))]) (fun k => [sRow g7 gl tp P.ds.length false, sLeft gl P.ds.length L0, Ent.fz w0]) (fun k => k ≤ 1) (fun k => 1 - k) 0 ?_ ?_ ?_ ?_
  · omega
  · exact (by repeat (first | exact Sub.nil | refine Sub.cons rfl ?_))
  · exact (by repeat (first | exact List.Sublist.refl _ | exact List.nil_sublist _ | refine List.Sublist.cons_cons _ ?_ | refine List.Sublist.cons _ ?_))
  · intro k hphi
    refine T.seq ?_
    refine T.region ?_
    refine TL.yv (Wt.none rfl) rfl rfl (Yv.pur rfl) ?_
    refine TL.nil ?_
    refine K.seq ?_
    refine T.seq ?_
    refine T.cond rfl (fun h1 => ?_) (fun h1 => ?_)
    · have p1 := h1
      try simp only [decide_eq_true_eq, decide_eq_false_iff_not, Int.not_lt, Int.not_le, Bool.not_eq_true', Bool.not_eq_false', Decidable.not_not, Bool.and_eq_true, Bool.or_eq_true, Bool.and_eq_false_iff, Bool.or_eq_false_iff] at p1
      refine T.skip ?_
      refine K.seq ?_
      refine T.seq ?_
      refine T.block ?_
      refine T.seq ?_
      obtain rfl : k = 0 := by omega
      refine T.region ?_
      refine TL.yv (Wt.none rfl) rfl rfl (Yv.indexSl rfl rfl rfl rfl (by omega)) ?_
      refine TL.yv (Wt.none rfl) rfl rfl (Yv.loadAB rfl rfl hkX rfl (fun h => h)) ?_
      (refine TL.ew (Wt.none rfl) rfl rfl (Ew.alloc rfl) ?_; rintro _ _ ⟨g10, rfl, rfl⟩)
      (refine TL.ew0 (Wt.none rfl) rfl (Ew.storeAll 0 rfl rfl rfl rfl rfl rfl) ?_; rintro _ _ ⟨rfl, rfl⟩)
      refine TL.nil ?_
      refine K.seq ?_
      refine T.seq ?_
      refine T.draw (.still 0 (.still 1 (.still 2 (.still 3 (.still 4 (.still 5 (.eff 6 (.still 7 (.still 8 (.still 9 (.still 10 (.still 11 .done)))))))))))) _ (by kernel_rfl) (List.Sublist.refl _) ?_
      refine TS.still rfl (Wt.none rfl) rfl rfl (Yv.pur rfl) ?_
      refine TS.still rfl (Wt.none rfl) rfl rfl (Yv.pur rfl) ?_
      refine TS.still rfl (Wt.none rfl) rfl rfl (Yv.fieldAddr rfl rfl) ?_
      refine TS.still rfl (Wt.none rfl) rfl rfl (Yv.loadO 1 rfl rfl rfl rfl) ?_
      refine TS.still rfl (Wt.none rfl) rfl rfl (Yv.fieldAddr rfl rfl) ?_
      refine TS.still rfl (Wt.none rfl) rfl rfl (Yv.loadO 0 rfl rfl rfl rfl) ?_
      refine TS.eff ?_
      (refine TSo.ew rfl (Wt.none rfl) rfl rfl (Ew.callD rfl rfl rfl (fun w hw => at_ret tp Y x.st w (hT.later (Ent.fz_ok.1 (hw.own (Ent.fz w0) (by simp)))) (Y.ix512 hYok hN.tb.ixn))) ?_; rintro _ _ ⟨rfl, rfl⟩; refine ⟨(by repeat (first | exact List.Sublist.refl _ | exact List.nil_sublist _ | refine List.Sublist.cons_cons _ ?_ | refine List.Sublist.cons _ ?_)), ?_⟩)
      refine TS.still rfl (Wt.none rfl) rfl rfl (Yv.pur rfl) ?_
      refine TS.still rfl (Wt.none rfl) rfl rfl (Yv.pur rfl) ?_
      refine TS.still rfl (Wt.none rfl) rfl rfl (Yv.pur rfl) ?_
      refine TS.still rfl (Wt.none rfl) rfl rfl (Yv.pur rfl) ?_
      refine TS.still rfl (Wt.none rfl) rfl rfl (Yv.pur rfl) ?_
      refine TS.done ?_
      refine K.seq ?_
      refine T.seq ?_
      refine T.region ?_
      refine TL.yv (Wt.none rfl) rfl rfl (Yv.pur rfl) ?_
      refine TL.yv (Wt.none rfl) rfl rfl (Yv.pur rfl) ?_
      refine TL.nil ?_
      refine K.seq ?_
      refine T.condF rfl (by rw [check_at hx0]; rfl) ?_
      refine T.skip ?_
      refine K.blk_normal ?_
      refine K.seq ?_
      refine T.region ?_
      refine TL.yv (Wt.none rfl) rfl rfl (Yv.addI rfl rfl rfl (by omega)) ?_
      refine TL.yv (Wt.none rfl) rfl rfl (Yv.pur rfl) ?_
      refine TL.nil ?_
      exact K.next 1 (by omega) (by omega) (by repeat (first | exact Sub.nil | refine Sub.cons rfl ?_)) (by repeat (first | exact List.Sublist.refl _ | exact List.nil_sublist _ | refine List.Sublist.cons_cons _ ?_ | refine List.Sublist.cons _ ?_))
    · have p1 := h1
      try simp only [decide_eq_true_eq, decide_eq_false_iff_not, Int.not_lt, Int.not_le, Bool.not_eq_true', Bool.not_eq_false', Decidable.not_not, Bool.and_eq_true, Bool.or_eq_true, Bool.and_eq_false_iff, Bool.or_eq_false_iff] at p1
      refine T.exit ?_
      refine K.then_exit ?_
      refine K.then_exit ?_
      refine K.blk_exit_eq ?_
      refine K.seq ?_
      refine T.seq ?_
      refine T.seq ?_
      refine T.region ?_
      refine TL.yv (Wt.none rfl) rfl rfl (Yv.pur rfl) ?_
      refine TL.yv (Wt.none rfl) rfl rfl (Yv.lenSl rfl rfl) ?_
      refine TL.yv (Wt.none rfl) rfl rfl (Yv.pur rfl) ?_
      refine TL.nil ?_
      refine K.seq ?_
      refine T.block ?_
      refine T.loop (ι := Nat × Ws × Bool) (fun z => [(7, .pointer (some ⟨g7, 0, none⟩)), (45, .slice (some ⟨gX, oX, none⟩) 1 capX), (46, .int .i64 1), (47, .int .i64 (z.1 : Int))]) (fun z => [sRow g7 gl tp P.ds.length z.2.2, sLeft gl P.ds.length z.2.1, Ent.fz w0]) (fun z => z.1 ≤ 1 ∧ (z.1 = 0 → Is Y P.left z.2.1 z.2.2) ∧ (z.1 < 1 → z.2.2 = false) ∧ (z.1 = 1 → Is Y (asm Y P.left x) z.2.1 z.2.2)) (fun z => 1 - z.1) (0, L0, false) ?_ ?_ ?_ ?_
      · exact ⟨by simp, fun _ => hI0, fun _ => rfl, fun hh => by cases hh⟩
      · exact (by repeat (first | exact Sub.nil | refine Sub.cons rfl ?_))
      · exact (by repeat (first | exact List.Sublist.refl _ | exact List.nil_sublist _ | refine List.Sublist.cons_cons _ ?_ | refine List.Sublist.cons _ ?_))
      · intro z hphi
        obtain ⟨k, L, c1⟩ := z
        dsimp only at hphi ⊢
        obtain ⟨hk1, hI0k, hf0, hI1k⟩ := hphi
        refine T.seq ?_
        refine T.region ?_
        refine TL.yv (Wt.none rfl) rfl rfl (Yv.pur rfl) ?_
        refine TL.nil ?_
        refine K.seq ?_
        refine T.seq ?_
        refine T.cond rfl (fun h2 => ?_) (fun h2 => ?_)
        · have p2 := h2
          try simp only [decide_eq_true_eq, decide_eq_false_iff_not, Int.not_lt, Int.not_le, Bool.not_eq_true', Bool.not_eq_false', Decidable.not_not, Bool.and_eq_true, Bool.or_eq_true, Bool.and_eq_false_iff, Bool.or_eq_false_iff] at p2
          refine T.skip ?_
          refine K.seq ?_
          refine T.seq ?_
          refine T.block ?_
          refine T.seq ?_
          obtain rfl : k = 0 := by omega
          obtain rfl := hf0 (by omega)
          have hI := hI0k rfl
          refine T.region ?_
          refine TL.yv (Wt.none rfl) rfl rfl (Yv.indexSl rfl rfl rfl rfl (by omega)) ?_
          refine TL.yv (Wt.none rfl) rfl rfl (Yv.loadAB rfl rfl hkX rfl (fun h => h)) ?_
          (refine TL.ew (Wt.none rfl) rfl rfl (Ew.alloc rfl) ?_; rintro _ _ ⟨g14, rfl, rfl⟩)
          (refine TL.ew0 (Wt.none rfl) rfl (Ew.storeAll 0 rfl rfl rfl rfl rfl rfl) ?_; rintro _ _ ⟨rfl, rfl⟩)
          refine TL.nil ?_
          refine K.seq ?_
          refine T.seq ?_
          refine T.seq ?_
          refine T.region ?_
          refine TL.yv (Wt.none rfl) rfl rfl (Yv.pur rfl) ?_
          refine TL.yv (Wt.none rfl) rfl rfl (Yv.pur rfl) ?_
          refine TL.yv (Wt.none rfl) rfl rfl (Yv.fieldAddr rfl rfl) ?_
          refine TL.yv (Wt.none rfl) rfl rfl (Yv.loadO 1 rfl rfl rfl rfl) ?_
          refine TL.nil ?_
          refine K.seq ?_
          refine T.condF rfl rfl ?_
          refine T.skip ?_
          refine K.seq ?_
          refine T.region ?_
          refine TL.yv (Wt.none rfl) rfl rfl (Yv.pur rfl) ?_
          refine TL.yv (Wt.none rfl) rfl rfl (Yv.loadAO 0 rfl rfl rfl rfl) ?_
          rw [← hYn]
          (refine TL.ew (Wt.none rfl) rfl rfl (Ew.callL [sRow g7 gl tp Y.n false, sLeft gl Y.n L] [Ent.row g14 40 [.int .i64 x.st, .int .i64 x.ch], Ent.fz w0] rfl rfl rfl (runPerm _ _ _ _) (fun w hw hw2 => assume_ok w0 g7 gl tp Y L w hT hYok (Ent.fz_ok.1 (hw2.own (Ent.fz w0) (by simp))) (htab.keptF hw) hw2.part (fun g hg hc => hw2.sep (f := Ent.fz w0) (by simp) g hg (Ent.fz_fp.2 hc)) (hw2.no0 htab) hI.len (hI.good rfl).calm hN.tb.ixn x hx0)) ?_; rintro _ _ ⟨y57, hpost, rfl, rfl⟩)
          dsimp only [List.cons_append, List.nil_append]
          rw [hYn]
          refine TL.nil ?_
          refine K.blk_normal ?_
          refine K.seq ?_
          refine T.region ?_
          refine TL.yv (Wt.none rfl) rfl rfl (Yv.addI rfl rfl rfl (by omega)) ?_
          refine TL.yv (Wt.none rfl) rfl rfl (Yv.pur rfl) ?_
          refine TL.nil ?_
          exact K.next (1, y57.1, y57.2) ⟨by simp, (fun hh => by cases hh), (fun hh => absurd hh (by simp)), fun _ => assume_is hYok (by omega) hI hpost⟩ (by simp) (by repeat (first | exact Sub.nil | refine Sub.cons rfl ?_)) (by repeat (first | exact List.Sublist.refl _ | exact List.nil_sublist _ | refine List.Sublist.cons_cons _ ?_ | refine List.Sublist.cons _ ?_))
        · have p2 := h2
          try simp only [decide_eq_true_eq, decide_eq_false_iff_not, Int.not_lt, Int.not_le, Bool.not_eq_true', Bool.not_eq_false', Decidable.not_not, Bool.and_eq_true, Bool.or_eq_true, Bool.and_eq_false_iff, Bool.or_eq_false_iff] at p2
          refine T.exit ?_
          refine K.then_exit ?_
          refine K.then_exit ?_
          refine K.blk_exit_eq ?_
          refine K.seq ?_
          refine T.seq ?_
          obtain rfl : k = 1 := by omega
          have hI := hI1k rfl
          obtain rfl := hfin0 Y L c1 hN.tb hI
          refine T.draw (.still 0 (.still 2 (.still 3 (.still 4 (.still 5 (.eff 1 (.still 6 (.still 7 (.still 8 .done))))))))) _ (by kernel_rfl) (List.Sublist.refl _) ?_
          refine TS.still rfl (Wt.none rfl) rfl rfl (Yv.pur rfl) ?_
          refine TS.still rfl (Wt.none rfl) rfl rfl (Yv.pur rfl) ?_
          refine TS.still rfl (Wt.none rfl) rfl rfl (Yv.pur rfl) ?_
          refine TS.still rfl (Wt.none rfl) rfl rfl (Yv.fieldAddr rfl rfl) ?_
          refine TS.still rfl (Wt.none rfl) rfl rfl (Yv.loadO 0 rfl rfl rfl rfl) ?_
          refine TS.eff ?_
          (refine TSo.ew rfl (Wt.none rfl) rfl rfl (Ew.callD rfl rfl rfl (fun w hw => domains_bad g7 Y L w (StF.of (Y := Y) (by rw [← hYn] at hw; exact hw) hT (Ent.fz_ok.1 (hw.own (Ent.fz w0) (by simp))) (htab.keptF hw) 0 1 rfl rfl hI.len).st)) ?_; rintro _ _ ⟨rfl, rfl⟩; refine ⟨(by repeat (first | exact List.Sublist.refl _ | exact List.nil_sublist _ | refine List.Sublist.cons_cons _ ?_ | refine List.Sublist.cons _ ?_)), ?_⟩)
          refine TS.still rfl (Wt.none rfl) rfl rfl (Yv.pur rfl) ?_
          refine TS.still rfl (Wt.none rfl) rfl rfl (Yv.pur rfl) ?_
          refine TS.still rfl (Wt.none rfl) rfl rfl (Yv.pur rfl) ?_
          refine TS.done ?_
          refine K.seq ?_
          refine T.ret ?_
          exact K.ret3 rfl rfl rfl rfl (fun w' hw => ⟨rfl, hw.isBelow⟩)
theorem run_fine (P : Pb) (vd vp vl vc : Value) (x : Ch) (vx : Value) (w : World) (h : ProbAt w vd vp vl vc P) (hx : ChsAt w vx [x]) (htab : Tab w) (hok : P.ok = true) (hlx : listOk [x] = true) (hck : ∀ Y, TbOf P Y → (checkF Y false x).2 = 0) (hbef : ∀ Y L c, TbOf P Y → Is Y P.left L c → c = false) (hfin0 : ∀ Y L c, TbOf P Y → Is Y (asm Y P.left x) L c → c = false) : Calls Tryd.prog 11 #[.agg [vd, vp, vl, vc].toArray, vx] w fun e w' => ∃ y : Value × List Dx, (∃ Y L, TbOf P Y ∧ Is Y (asm Y P.left x) L false ∧ y.2.map Dx.pl = domsF Y L Y.n) ∧ e = .returned (.tuple #[y.1, .bool false, .int .i64 0]) ∧ Hp w (fun _ => False) [.sl y.1 64 2 y.2.length (y.2.flatMap Dx.cells), .bag (y.2.map dE)] w' := by
  obtain ⟨A, cap, rfl, hsl⟩ := h.ds.sl.op
  obtain ⟨A1, cap1, rfl, -⟩ := h.ru.ps.op
  obtain ⟨A2, cap2, rfl, -⟩ := h.ru.ls.op
  obtain ⟨A3, cap3, rfl, -⟩ := h.ru.cs.op
  obtain ⟨AX, capX, rfl, hslX⟩ := hx.op
  have hG := Pb.good hok
  have hn512 := hG.n
  obtain ⟨gX, oX, rfl, hcX⟩ := hslX (by simp)
  have hkX := hcX 0 (by simp)
  simp only [Ch.cells] at hkX
  rw [show nth [x] 0 = x from rfl] at hkX
  simp only [List.length_singleton] at hx ⊢
  refine calls_T (M := fun _ => False) (hs := []) Tryd.func11 rfl rfl rfl (Hp.refl _ _) ?_
  refine T.seq ?_
  refine T.region ?_
  (refine TL.ew (Wt.none rfl) rfl rfl (Ew.boxA rfl rfl) ?_; rintro _ _ ⟨g2, rfl, rfl⟩)
  refine TL.yv (Wt.none rfl) rfl rfl (Yv.pur rfl) ?_
  refine TL.yv (Wt.none rfl) rfl rfl (Yv.pur rfl) ?_
  refine TL.yv (Wt.none rfl) rfl rfl (Yv.pur rfl) ?_
  refine TL.nil ?_
  refine K.seq ?_
  refine T.seq ?_
  refine T.region ?_
  refine TL.yv (Wt.none rfl) rfl rfl (Yv.loadAO 0 rfl rfl rfl rfl) ?_
  (refine TL.ew (Wt.none rfl) rfl rfl (Ew.callH rfl rfl rfl (fun w hw => new_ok P _ _ _ _ w (h.kept hw) (htab.keptF hw) hok)) ?_; rintro _ _ ⟨⟨g7, gl, tp, Y, L0, c0, w0⟩, hN, rfl, rfl⟩)
  dsimp only at hN
  dsimp only [List.cons_append, List.nil_append]
  have hYok := hN.tb.ok hG
  have hYn := hN.tb.n
  have hI0 := hN.is hG
  obtain rfl := hbef Y L0 c0 hN.tb hI0
  have hx0 := hck Y hN.tb
  have hT := hN.at'
  obtain ⟨hc1, hc2, hc3, hc4⟩ := check_facts hN.tb.ixn hx0
  refine TL.yv (Wt.none rfl) rfl rfl (Yv.pur rfl) ?_
  refine TL.yv (Wt.none rfl) rfl rfl (Yv.pur rfl) ?_
  refine TL.yv (Wt.none rfl) rfl rfl (Yv.pur rfl) ?_
  refine TL.yv (Wt.none rfl) rfl rfl (Yv.pur rfl) ?_
  refine TL.yv (Wt.none rfl) rfl rfl (Yv.pur rfl) ?_
  refine TL.nil ?_
  refine K.seq ?_
  refine T.seq ?_
  refine T.seq ?_
  refine T.region ?_
  refine TL.yv (Wt.none rfl) rfl rfl (Yv.pur rfl) ?_
  refine TL.yv (Wt.none rfl) rfl rfl (Yv.pur rfl) ?_
  refine TL.nil ?_
  refine K.seq ?_
  refine T.condF rfl (by rfl) ?_
  refine T.skip ?_
  refine K.seq ?_
  refine T.seq ?_
  refine T.seq ?_
  refine T.region ?_
  refine TL.yv (Wt.none rfl) rfl rfl (Yv.pur rfl) ?_
  (refine TL.ew (Wt.none rfl) rfl rfl (Ew.callD rfl rfl rfl (fun w hw => validList_ret [x] _ w (hx.kept hw) (by simp))) ?_; rintro _ _ ⟨rfl, rfl⟩)
  refine TL.yv (Wt.none rfl) rfl rfl (Yv.pur rfl) ?_
  refine TL.nil ?_
  refine K.seq ?_
  refine T.condF rfl (by rw [hlx]; rfl) ?_
  refine T.skip ?_
  refine K.seq ?_
  refine T.seq ?_
  refine T.seq ?_
  refine T.region ?_
  refine TL.yv (Wt.none rfl) rfl rfl (Yv.pur rfl) ?_
  refine TL.yv (Wt.none rfl) rfl rfl (Yv.lenSl rfl rfl) ?_
  refine TL.yv (Wt.none rfl) rfl rfl (Yv.pur rfl) ?_
  refine TL.nil ?_
  refine K.seq ?_
  refine T.block ?_
  refine T.loop (ι := Nat) (fun k => [(1, .slice (some ⟨gX, oX, none⟩) 1 capX), (7, .pointer (some ⟨g7, 0, none⟩)), (26, .slice (some ⟨gX, oX, none⟩) 1 capX), (27, .int .i64 1), (28, .int .i64 (k : Int))]) (fun k => [sRow g7 gl tp P.ds.length false, sLeft gl P.ds.length L0, Ent.fz w0]) (fun k => k ≤ 1) (fun k => 1 - k) 0 ?_ ?_ ?_ ?_
  · omega
  · exact (by repeat (first | exact Sub.nil | refine Sub.cons rfl ?_))
  · exact (by repeat (first | exact List.Sublist.refl _ | exact List.nil_sublist _ | refine List.Sublist.cons_cons _ ?_ | refine List.Sublist.cons _ ?_))
  · intro k hphi
    refine T.seq ?_
    refine T.region ?_
    refine TL.yv (Wt.none rfl) rfl rfl (Yv.pur rfl) ?_
    refine TL.nil ?_
    refine K.seq ?_
    refine T.seq ?_
    refine T.cond rfl (fun h1 => ?_) (fun h1 => ?_)
    · have p1 := h1
      try simp only [decide_eq_true_eq, decide_eq_false_iff_not, Int.not_lt, Int.not_le, Bool.not_eq_true', Bool.not_eq_false', Decidable.not_not, Bool.and_eq_true, Bool.or_eq_true, Bool.and_eq_false_iff, Bool.or_eq_false_iff] at p1
      refine T.skip ?_
      refine K.seq ?_
      refine T.seq ?_
      refine T.block ?_
      refine T.seq ?_
      obtain rfl : k = 0 := by omega
      refine T.region ?_
      refine TL.yv (Wt.none rfl) rfl rfl (Yv.indexSl rfl rfl rfl rfl (by omega)) ?_
      refine TL.yv (Wt.none rfl) rfl rfl (Yv.loadAB rfl rfl hkX rfl (fun h => h)) ?_
      (refine TL.ew (Wt.none rfl) rfl rfl (Ew.alloc rfl) ?_; rintro _ _ ⟨g10, rfl, rfl⟩)
      (refine TL.ew0 (Wt.none rfl) rfl (Ew.storeAll 0 rfl rfl rfl rfl rfl rfl) ?_; rintro _ _ ⟨rfl, rfl⟩)
      refine TL.nil ?_
      refine K.seq ?_
      refine T.seq ?_
      refine T.draw (.still 0 (.still 1 (.still 2 (.still 3 (.still 4 (.still 5 (.eff 6 (.still 7 (.still 8 (.still 9 (.still 10 (.still 11 .done)))))))))))) _ (by kernel_rfl) (List.Sublist.refl _) ?_
      refine TS.still rfl (Wt.none rfl) rfl rfl (Yv.pur rfl) ?_
      refine TS.still rfl (Wt.none rfl) rfl rfl (Yv.pur rfl) ?_
      refine TS.still rfl (Wt.none rfl) rfl rfl (Yv.fieldAddr rfl rfl) ?_
      refine TS.still rfl (Wt.none rfl) rfl rfl (Yv.loadO 1 rfl rfl rfl rfl) ?_
      refine TS.still rfl (Wt.none rfl) rfl rfl (Yv.fieldAddr rfl rfl) ?_
      refine TS.still rfl (Wt.none rfl) rfl rfl (Yv.loadO 0 rfl rfl rfl rfl) ?_
      refine TS.eff ?_
      (refine TSo.ew rfl (Wt.none rfl) rfl rfl (Ew.callD rfl rfl rfl (fun w hw => at_ret tp Y x.st w (hT.later (Ent.fz_ok.1 (hw.own (Ent.fz w0) (by simp)))) (Y.ix512 hYok hN.tb.ixn))) ?_; rintro _ _ ⟨rfl, rfl⟩; refine ⟨(by repeat (first | exact List.Sublist.refl _ | exact List.nil_sublist _ | refine List.Sublist.cons_cons _ ?_ | refine List.Sublist.cons _ ?_)), ?_⟩)
      refine TS.still rfl (Wt.none rfl) rfl rfl (Yv.pur rfl) ?_
      refine TS.still rfl (Wt.none rfl) rfl rfl (Yv.pur rfl) ?_
      refine TS.still rfl (Wt.none rfl) rfl rfl (Yv.pur rfl) ?_
      refine TS.still rfl (Wt.none rfl) rfl rfl (Yv.pur rfl) ?_
      refine TS.still rfl (Wt.none rfl) rfl rfl (Yv.pur rfl) ?_
      refine TS.done ?_
      refine K.seq ?_
      refine T.seq ?_
      refine T.region ?_
      refine TL.yv (Wt.none rfl) rfl rfl (Yv.pur rfl) ?_
      refine TL.yv (Wt.none rfl) rfl rfl (Yv.pur rfl) ?_
      refine TL.nil ?_
      refine K.seq ?_
      refine T.condF rfl (by rw [check_at hx0]; rfl) ?_
      refine T.skip ?_
      refine K.blk_normal ?_
      refine K.seq ?_
      refine T.region ?_
      refine TL.yv (Wt.none rfl) rfl rfl (Yv.addI rfl rfl rfl (by omega)) ?_
      refine TL.yv (Wt.none rfl) rfl rfl (Yv.pur rfl) ?_
      refine TL.nil ?_
      exact K.next 1 (by omega) (by omega) (by repeat (first | exact Sub.nil | refine Sub.cons rfl ?_)) (by repeat (first | exact List.Sublist.refl _ | exact List.nil_sublist _ | refine List.Sublist.cons_cons _ ?_ | refine List.Sublist.cons _ ?_))
    · have p1 := h1
      try simp only [decide_eq_true_eq, decide_eq_false_iff_not, Int.not_lt, Int.not_le, Bool.not_eq_true', Bool.not_eq_false', Decidable.not_not, Bool.and_eq_true, Bool.or_eq_true, Bool.and_eq_false_iff, Bool.or_eq_false_iff] at p1
      refine T.exit ?_
      refine K.then_exit ?_
      refine K.then_exit ?_
      refine K.blk_exit_eq ?_
      refine K.seq ?_
      refine T.seq ?_
      refine T.seq ?_
      refine T.region ?_
      refine TL.yv (Wt.none rfl) rfl rfl (Yv.pur rfl) ?_
      refine TL.yv (Wt.none rfl) rfl rfl (Yv.lenSl rfl rfl) ?_
      refine TL.yv (Wt.none rfl) rfl rfl (Yv.pur rfl) ?_
      refine TL.nil ?_
      refine K.seq ?_
      refine T.block ?_
      refine T.loop (ι := Nat × Ws × Bool) (fun z => [(7, .pointer (some ⟨g7, 0, none⟩)), (45, .slice (some ⟨gX, oX, none⟩) 1 capX), (46, .int .i64 1), (47, .int .i64 (z.1 : Int))]) (fun z => [sRow g7 gl tp P.ds.length z.2.2, sLeft gl P.ds.length z.2.1, Ent.fz w0]) (fun z => z.1 ≤ 1 ∧ (z.1 = 0 → Is Y P.left z.2.1 z.2.2) ∧ (z.1 < 1 → z.2.2 = false) ∧ (z.1 = 1 → Is Y (asm Y P.left x) z.2.1 z.2.2)) (fun z => 1 - z.1) (0, L0, false) ?_ ?_ ?_ ?_
      · exact ⟨by simp, fun _ => hI0, fun _ => rfl, fun hh => by cases hh⟩
      · exact (by repeat (first | exact Sub.nil | refine Sub.cons rfl ?_))
      · exact (by repeat (first | exact List.Sublist.refl _ | exact List.nil_sublist _ | refine List.Sublist.cons_cons _ ?_ | refine List.Sublist.cons _ ?_))
      · intro z hphi
        obtain ⟨k, L, c1⟩ := z
        dsimp only at hphi ⊢
        obtain ⟨hk1, hI0k, hf0, hI1k⟩ := hphi
        refine T.seq ?_
        refine T.region ?_
        refine TL.yv (Wt.none rfl) rfl rfl (Yv.pur rfl) ?_
        refine TL.nil ?_
        refine K.seq ?_
        refine T.seq ?_
        refine T.cond rfl (fun h2 => ?_) (fun h2 => ?_)
        · have p2 := h2
          try simp only [decide_eq_true_eq, decide_eq_false_iff_not, Int.not_lt, Int.not_le, Bool.not_eq_true', Bool.not_eq_false', Decidable.not_not, Bool.and_eq_true, Bool.or_eq_true, Bool.and_eq_false_iff, Bool.or_eq_false_iff] at p2
          refine T.skip ?_
          refine K.seq ?_
          refine T.seq ?_
          refine T.block ?_
          refine T.seq ?_
          obtain rfl : k = 0 := by omega
          obtain rfl := hf0 (by omega)
          have hI := hI0k rfl
          refine T.region ?_
          refine TL.yv (Wt.none rfl) rfl rfl (Yv.indexSl rfl rfl rfl rfl (by omega)) ?_
          refine TL.yv (Wt.none rfl) rfl rfl (Yv.loadAB rfl rfl hkX rfl (fun h => h)) ?_
          (refine TL.ew (Wt.none rfl) rfl rfl (Ew.alloc rfl) ?_; rintro _ _ ⟨g14, rfl, rfl⟩)
          (refine TL.ew0 (Wt.none rfl) rfl (Ew.storeAll 0 rfl rfl rfl rfl rfl rfl) ?_; rintro _ _ ⟨rfl, rfl⟩)
          refine TL.nil ?_
          refine K.seq ?_
          refine T.seq ?_
          refine T.seq ?_
          refine T.region ?_
          refine TL.yv (Wt.none rfl) rfl rfl (Yv.pur rfl) ?_
          refine TL.yv (Wt.none rfl) rfl rfl (Yv.pur rfl) ?_
          refine TL.yv (Wt.none rfl) rfl rfl (Yv.fieldAddr rfl rfl) ?_
          refine TL.yv (Wt.none rfl) rfl rfl (Yv.loadO 1 rfl rfl rfl rfl) ?_
          refine TL.nil ?_
          refine K.seq ?_
          refine T.condF rfl rfl ?_
          refine T.skip ?_
          refine K.seq ?_
          refine T.region ?_
          refine TL.yv (Wt.none rfl) rfl rfl (Yv.pur rfl) ?_
          refine TL.yv (Wt.none rfl) rfl rfl (Yv.loadAO 0 rfl rfl rfl rfl) ?_
          rw [← hYn]
          (refine TL.ew (Wt.none rfl) rfl rfl (Ew.callL [sRow g7 gl tp Y.n false, sLeft gl Y.n L] [Ent.row g14 40 [.int .i64 x.st, .int .i64 x.ch], Ent.fz w0] rfl rfl rfl (runPerm _ _ _ _) (fun w hw hw2 => assume_ok w0 g7 gl tp Y L w hT hYok (Ent.fz_ok.1 (hw2.own (Ent.fz w0) (by simp))) (htab.keptF hw) hw2.part (fun g hg hc => hw2.sep (f := Ent.fz w0) (by simp) g hg (Ent.fz_fp.2 hc)) (hw2.no0 htab) hI.len (hI.good rfl).calm hN.tb.ixn x hx0)) ?_; rintro _ _ ⟨y57, hpost, rfl, rfl⟩)
          dsimp only [List.cons_append, List.nil_append]
          rw [hYn]
          refine TL.nil ?_
          refine K.blk_normal ?_
          refine K.seq ?_
          refine T.region ?_
          refine TL.yv (Wt.none rfl) rfl rfl (Yv.addI rfl rfl rfl (by omega)) ?_
          refine TL.yv (Wt.none rfl) rfl rfl (Yv.pur rfl) ?_
          refine TL.nil ?_
          exact K.next (1, y57.1, y57.2) ⟨by simp, (fun hh => by cases hh), (fun hh => absurd hh (by simp)), fun _ => assume_is hYok (by omega) hI hpost⟩ (by simp) (by repeat (first | exact Sub.nil | refine Sub.cons rfl ?_)) (by repeat (first | exact List.Sublist.refl _ | exact List.nil_sublist _ | refine List.Sublist.cons_cons _ ?_ | refine List.Sublist.cons _ ?_))
        · have p2 := h2
          try simp only [decide_eq_true_eq, decide_eq_false_iff_not, Int.not_lt, Int.not_le, Bool.not_eq_true', Bool.not_eq_false', Decidable.not_not, Bool.and_eq_true, Bool.or_eq_true, Bool.and_eq_false_iff, Bool.or_eq_false_iff] at p2
          refine T.exit ?_
          refine K.then_exit ?_
          refine K.then_exit ?_
          refine K.blk_exit_eq ?_
          refine K.seq ?_
          refine T.seq ?_
          obtain rfl : k = 1 := by omega
          have hI := hI1k rfl
          obtain rfl := hfin0 Y L c1 hN.tb hI
          refine T.draw (.still 0 (.still 2 (.still 3 (.still 4 (.still 5 (.eff 1 (.still 6 (.still 7 (.still 8 .done))))))))) _ (by kernel_rfl) (List.Sublist.refl _) ?_
          refine TS.still rfl (Wt.none rfl) rfl rfl (Yv.pur rfl) ?_
          refine TS.still rfl (Wt.none rfl) rfl rfl (Yv.pur rfl) ?_
          refine TS.still rfl (Wt.none rfl) rfl rfl (Yv.pur rfl) ?_
          refine TS.still rfl (Wt.none rfl) rfl rfl (Yv.fieldAddr rfl rfl) ?_
          refine TS.still rfl (Wt.none rfl) rfl rfl (Yv.loadO 0 rfl rfl rfl rfl) ?_
          refine TS.eff ?_
          (refine TSo.ew rfl (Wt.none rfl) rfl rfl (Ew.callH rfl rfl rfl (fun w hw => domains_ok g7 Y L w (StF.of (Y := Y) (by rw [← hYn] at hw; exact hw) hT (Ent.fz_ok.1 (hw.own (Ent.fz w0) (by simp))) (htab.keptF hw) 0 1 rfl rfl hI.len).st hYok)) ?_; rintro _ _ ⟨y60, hdom, rfl, rfl⟩; refine ⟨(by repeat (first | exact List.Sublist.refl _ | exact List.nil_sublist _ | refine List.Sublist.cons_cons _ ?_ | refine List.Sublist.cons _ ?_)), ?_⟩)
          refine TS.still rfl (Wt.none rfl) rfl rfl (Yv.pur rfl) ?_
          refine TS.still rfl (Wt.none rfl) rfl rfl (Yv.pur rfl) ?_
          refine TS.still rfl (Wt.none rfl) rfl rfl (Yv.pur rfl) ?_
          refine TS.done ?_
          refine K.seq ?_
          refine T.ret ?_
          exact K.ret3 rfl rfl rfl rfl (fun w' hw => ⟨y60, ⟨Y, L, hN.tb, hI, hdom⟩, rfl, hw.sub (by repeat (first | exact List.Sublist.refl _ | exact List.nil_sublist _ | refine List.Sublist.cons_cons _ ?_ | refine List.Sublist.cons _ ?_))⟩)
end Go.Proofs.YtljgejbmimapdaaDoor
