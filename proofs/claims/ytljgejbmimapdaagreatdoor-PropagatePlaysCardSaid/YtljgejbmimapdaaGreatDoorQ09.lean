/- M8 Pf Cd Ce Sa Sb: shortened and put together by squeeze.py. -/
import Derived.Test.YtljgejbmimapdaaGreatDoorQ08
set_option maxRecDepth 100000
set_option maxHeartbeats 4000000
set_option linter.unusedVariables false
set_option linter.unusedSectionVars false
set_option linter.unusedSimpArgs false
namespace Go.Proofs.YtljgejbmimapdaaGreatDoor
open Go.RowKit
theorem ix_le (ds : List Dx) : ∀ k j, 0 ≤ ixAt ds k j ∧ ixAt ds k j ≤ (k : Int)
  | 0, j => by simp [ixAt]
  | k + 1, j => by
    have := ix_le ds k j
    show 0 ≤ (if j = (nth ds k).st.toNat then (k : Int) + 1 else ixAt ds k j) ∧ (if j = (nth ds k).st.toNat then (k : Int) + 1 else ixAt ds k j) ≤ ((k + 1 : Nat) : Int)
    split <;> omega
theorem TbOf.n {P : Pb} {Y : Tb} (h : TbOf P Y) : Y.n = P.ds.length := by unfold Tb.n; rw [h.st]; simp
theorem TbOf.ixn {P : Pb} {Y : Tb} (h : TbOf P Y) : ∀ j, 0 ≤ Y.ix j ∧ Y.ix j ≤ Y.n := fun j => by rw [h.ix, h.n]; exact ix_le _ _ _
theorem NewIs.is {P : Pb} {Y : Tb} {L : Ws} {c : Bool} {tp : Nat} {w0 : World} (hG : P.Good) (h : NewIs P Y L c tp w0) : Is Y P.left L c := Is.of (h.tb.ok hG) (by rw [h.tb.n]; simp [Pb.left]) h.post
theorem assume_is {Y : Tb} {T L L' : Ws} {c : Bool} {i : Nat} {g : BitVec 64} (hok : Y.Ok) (hi : i < Y.n) (h : Is Y T L false) (k : SPost Y (cutL L i g) L' c) : Is Y (cutL T i g) L' c :=
  h.cut hok hi (Is.of hok (by unfold cutL; rw [List.length_set, h.len]) k)
def asm (Y : Tb) (T : Ws) (x : Ch) : Ws := cutL T (checkF Y false x).1.toNat (~~~(1#64 <<< x.ch.toNat))
def fbd (Y : Tb) (T : Ws) (x : Ch) : Ws := cutL T (checkF Y false x).1.toNat (1#64 <<< x.ch.toNat)
theorem check_at {Y : Tb} {x : Ch} (h : (checkF Y false x).2 = 0) : (atF Y x.st).2 = true := by
  unfold checkF at h
  split at h
  · cases h
  · rw [if_neg (by simp)] at h
    split at h
    · cases h
    · rename_i h3; simpa using h3
theorem runPerm (a b c d : Ent) : [a, b, c, d].Perm ([b, c] ++ [a, d]) := by
  have h1 : ([a] ++ [b, c]).Perm ([b, c] ++ [a]) := List.perm_append_comm; exact h1.append_right [d]
theorem K.ret3 {n : Nat} {B D : World} {M : Nat → Prop} {P : Program} {fs : SFs} {hs : HS} {fn : Func} {R : Ending → World → Prop} {t u s : Nat} {v x y : Value} (hr : fn.results = #[.tmp t, .tmp u, .tmp s]) (hv : look fs t = some v) (hx : look fs u = some x) (hy : look fs s = some y) (h : ∀ w, Hp B M hs w → R (.returned (.tuple #[v, x, y])) w) : K n B D M (bodyQ P fn R) .ret fs hs :=
  (K.leave (fun a w ha _ => by
    (have e : (results fn a.tmps).run P w = .ok (.tuple #[a.tmps.getD t undef, a.tmps.getD u undef, a.tmps.getD s undef]) w := by simp [results, hr])
    rw [e]; simp only [Array.getD_eq_getD_getElem?, ha.get t v hv, ha.get u x hx, ha.get s y hy]; rfl) h).1
theorem run_conf (P : Pb) (vd vp vl vc : Value) (x : Ch) (vx : Value) (w : World) (h : ProbAt w vd vp vl vc P) (hx : ChsAt w vx [x]) (htab : Tab w) (hok : P.ok = true) (hlx : listOk [x] = true) (hck : ∀ Y, TbOf P Y → (checkF Y false x).2 = 0) (hbef : ∀ Y L c, TbOf P Y → Is Y P.left L c → c = false) (hfin0 : ∀ Y L c, TbOf P Y → Is Y (asm Y P.left x) L c → c = true) : Calls Tryz.prog 20 #[.agg [vd, vp, vl, vc].toArray, vx] w fun e w' => e = .returned (.tuple #[.slice none 0 0, .bool true, .int .i64 0]) ∧ Below w.heap.size w w' := by
  obtain ⟨A, cap, rfl, hsl⟩ := h.ds.sl.op; obtain ⟨A1, cap1, rfl, -⟩ := h.ru.ps.op; obtain ⟨A2, cap2, rfl, -⟩ := h.ru.ls.op; obtain ⟨A3, cap3, rfl, -⟩ := h.ru.cs.op; obtain ⟨AX, capX, rfl, hslX⟩ := hx.op; have hG := Pb.good hok; have hn512 := hG.n; obtain ⟨gX, oX, rfl, hcX⟩ := hslX (by simp); have hkX := hcX 0 (by simp); simp only [Ch.cells] at hkX; rw [show nth [x] 0 = x from rfl] at hkX; simp only [List.length_singleton] at hx ⊢; refine calls_T (M := fun _ => False) (hs := []) Tryz.func20 rfl rfl rfl (Hp.refl _ _) ?_; refine T.seq (T.region ?_); (refine TL.ew (Wt.none rfl) rfl rfl (Ew.boxA rfl rfl) ?_; rintro _ _ ⟨g2, rfl, rfl⟩); refine TL.run 3 rfl ?_; refine TL.nil (K.seq (T.seq (T.region ?_))); refine TL.y (Yv.loadAO 0 rfl rfl rfl rfl) ?_; (refine TL.ew (Wt.none rfl) rfl rfl (Ew.callH rfl rfl rfl (fun w hw => new_ok P _ _ _ _ w (h.kept hw) (htab.keptF hw) hok)) ?_; rintro _ _ ⟨⟨g7, gl, tp, Y, L0, c0, w0⟩, hN, rfl, rfl⟩); dsimp only at hN; dsimp only [List.cons_append, List.nil_append]; have hYok := hN.tb.ok hG; have hYn := hN.tb.n; have hI0 := hN.is hG; obtain rfl := hbef Y L0 c0 hN.tb hI0; have hx0 := hck Y hN.tb; have hT := hN.at'; obtain ⟨hc1, hc2, hc3, hc4⟩ := check_facts hN.tb.ixn hx0; refine TL.run 5 rfl ?_; refine TL.nil (K.seq (T.seq (T.seq (T.region ?_)))); refine TL.run 2 rfl ?_; refine TL.nil (K.seq ?_); refine T.condF rfl (by rfl) ?_; refine T.skip (K.seq (T.seq (T.seq (T.region ?_)))); refine TL.run 1 rfl ?_; (refine TL.ew (Wt.none rfl) rfl rfl (Ew.callD rfl rfl rfl (fun w hw => validList_ret [x] _ w (hx.kept hw) (by simp))) ?_; rintro _ _ ⟨rfl, rfl⟩); refine TL.run 1 rfl ?_; refine TL.nil (K.seq ?_); refine T.condF rfl (by rw [hlx]; rfl) ?_; refine T.skip (K.seq (T.seq (T.seq (T.region ?_)))); refine TL.run 1 rfl ?_; refine TL.y (Yv.lenSl rfl rfl) ?_; refine TL.run 1 rfl ?_; refine TL.nil (K.seq (T.block ?_)); refine T.loop (ι := Nat) (fun k => [(1, .slice (some ⟨gX, oX, none⟩) 1 capX), (7, .pointer (some ⟨g7, 0, none⟩)), (26, .slice (some ⟨gX, oX, none⟩) 1 capX), (27, .int .i64 1), (28, .int .i64 (k : Int))]) (fun k => [sRow g7 gl tp P.ds.length false, sLeft gl P.ds.length L0, Ent.fz w0]) (fun k => k ≤ 1) (fun k => 1 - k) 0 ?_ ?_ ?_ ?_
  · omega
  · exact (by repeat (first | exact Sub.nil | refine Sub.cons rfl ?_))
  · exact (by repeat first | exact S0 | exact S1 | refine S2 ?_ | refine S3 ?_)
  · intro k hphi; refine T.seq (T.region ?_); refine TL.run 1 rfl ?_; refine TL.nil (K.seq (T.seq ?_)); refine T.cond rfl (fun h1 => ?_) (fun h1 => ?_)
    · have p1 := h1; (try simp only [nfB] at p1); refine T.skip (K.seq (T.seq (T.block (T.seq ?_)))); (obtain rfl : k = 0 := by omega); refine T.region ?_; refine TL.y (Yv.indexSl rfl rfl rfl rfl (by omega)) ?_; refine TL.y (Yv.loadAB rfl rfl hkX rfl (fun h => h)) ?_; (refine TL.ew (Wt.none rfl) rfl rfl (Ew.alloc rfl) ?_; rintro _ _ ⟨g10, rfl, rfl⟩); (refine TL.ew0 (Wt.none rfl) rfl (Ew.storeAll 0 rfl rfl rfl rfl rfl rfl) ?_; rintro _ _ ⟨rfl, rfl⟩); refine TL.nil (K.seq (T.seq ?_)); refine T.draw (.still 0 (.still 1 (.still 2 (.still 3 (.still 4 (.still 5 (.eff 6 (.still 7 (.still 8 (.still 9 (.still 10 (.still 11 .done)))))))))))) _ (by kernel_rfl) (List.Sublist.refl _) ?_; refine TS.run 2 rfl ?_; refine TS.y rfl (Yv.fieldAddr rfl rfl) ?_; refine TS.y rfl (Yv.loadO 1 rfl rfl rfl rfl) ?_; refine TS.y rfl (Yv.fieldAddr rfl rfl) ?_; refine TS.y rfl (Yv.loadO 0 rfl rfl rfl rfl) ?_; refine TS.eff ?_; (refine TSo.ew rfl (Wt.none rfl) rfl rfl (Ew.callD rfl rfl rfl (fun w hw => at_ret tp Y x.st w (hT.later (Ent.fz_ok.1 (hw.own (Ent.fz w0) (by simp)))) (Y.ix512 hYok hN.tb.ixn))) ?_; rintro _ _ ⟨rfl, rfl⟩; refine ⟨(by repeat first | exact S0 | exact S1 | refine S2 ?_ | refine S3 ?_), ?_⟩); refine TS.run 5 rfl ?_; refine TS.done ?_; refine K.seq (T.seq (T.region ?_)); refine TL.run 2 rfl ?_; refine TL.nil (K.seq ?_); refine T.condF rfl (by rw [check_at hx0]; rfl) ?_; refine T.skip (K.blk_normal (K.seq (T.region ?_))); refine TL.y (Yv.addI rfl rfl rfl (by omega)) ?_; refine TL.run 1 rfl ?_; refine TL.nil ?_; exact K.next 1 (by omega) (by omega) (by repeat (first | exact Sub.nil | refine Sub.cons rfl ?_)) (by repeat first | exact S0 | exact S1 | refine S2 ?_ | refine S3 ?_)
    · have p1 := h1; (try simp only [nfB] at p1); refine T.exit (K.then_exit (K.then_exit (K.blk_exit_eq (K.seq (T.seq (T.seq (T.region ?_))))))); refine TL.run 1 rfl ?_; refine TL.y (Yv.lenSl rfl rfl) ?_; refine TL.run 1 rfl ?_; refine TL.nil (K.seq (T.block ?_)); refine T.loop (ι := Nat × Ws × Bool) (fun z => [(7, .pointer (some ⟨g7, 0, none⟩)), (45, .slice (some ⟨gX, oX, none⟩) 1 capX), (46, .int .i64 1), (47, .int .i64 (z.1 : Int))]) (fun z => [sRow g7 gl tp P.ds.length z.2.2, sLeft gl P.ds.length z.2.1, Ent.fz w0]) (fun z => z.1 ≤ 1 ∧ (z.1 = 0 → Is Y P.left z.2.1 z.2.2) ∧ (z.1 < 1 → z.2.2 = false) ∧ (z.1 = 1 → Is Y (asm Y P.left x) z.2.1 z.2.2)) (fun z => 1 - z.1) (0, L0, false) ?_ ?_ ?_ ?_
      · exact ⟨by simp, fun _ => hI0, fun _ => rfl, fun hh => by cases hh⟩
      · exact (by repeat (first | exact Sub.nil | refine Sub.cons rfl ?_))
      · exact (by repeat first | exact S0 | exact S1 | refine S2 ?_ | refine S3 ?_)
      · intro z hphi; obtain ⟨k, L, c1⟩ := z; dsimp only at hphi ⊢; obtain ⟨hk1, hI0k, hf0, hI1k⟩ := hphi; refine T.seq (T.region ?_); refine TL.run 1 rfl ?_; refine TL.nil (K.seq (T.seq ?_)); refine T.cond rfl (fun h2 => ?_) (fun h2 => ?_)
        · have p2 := h2; (try simp only [nfB] at p2); refine T.skip (K.seq (T.seq (T.block (T.seq ?_)))); (obtain rfl : k = 0 := by omega); obtain rfl := hf0 (by omega); have hI := hI0k rfl; refine T.region ?_; refine TL.y (Yv.indexSl rfl rfl rfl rfl (by omega)) ?_; refine TL.y (Yv.loadAB rfl rfl hkX rfl (fun h => h)) ?_; (refine TL.ew (Wt.none rfl) rfl rfl (Ew.alloc rfl) ?_; rintro _ _ ⟨g14, rfl, rfl⟩); (refine TL.ew0 (Wt.none rfl) rfl (Ew.storeAll 0 rfl rfl rfl rfl rfl rfl) ?_; rintro _ _ ⟨rfl, rfl⟩); refine TL.nil (K.seq (T.seq (T.seq (T.region ?_)))); refine TL.run 2 rfl ?_; refine TL.y (Yv.fieldAddr rfl rfl) ?_; refine TL.y (Yv.loadO 1 rfl rfl rfl rfl) ?_; refine TL.nil (K.seq ?_); refine T.condF rfl rfl ?_; refine T.skip (K.seq (T.region ?_)); refine TL.run 1 rfl ?_; refine TL.y (Yv.loadAO 0 rfl rfl rfl rfl) ?_; rw [← hYn]; (refine TL.ew (Wt.none rfl) rfl rfl (Ew.callL [sRow g7 gl tp Y.n false, sLeft gl Y.n L] [Ent.row g14 46 [.int .i64 x.st, .int .i64 x.ch], Ent.fz w0] rfl rfl rfl (runPerm _ _ _ _) (fun w hw hw2 => assume_ok w0 g7 gl tp Y L w hT hYok (Ent.fz_ok.1 (hw2.own (Ent.fz w0) (by simp))) (htab.keptF hw) hw2.part (fun g hg hc => hw2.sep (f := Ent.fz w0) (by simp) g hg (Ent.fz_fp.2 hc)) (hw2.no0 htab) hI.len (hI.good rfl).calm hN.tb.ixn x hx0)) ?_; rintro _ _ ⟨y57, hpost, rfl, rfl⟩); dsimp only [List.cons_append, List.nil_append]; rw [hYn]; refine TL.nil (K.blk_normal (K.seq (T.region ?_))); refine TL.y (Yv.addI rfl rfl rfl (by omega)) ?_; refine TL.run 1 rfl ?_; refine TL.nil ?_; exact K.next (1, y57.1, y57.2) ⟨by simp, (fun hh => by cases hh), (fun hh => absurd hh (by simp)), fun _ => assume_is hYok (by omega) hI hpost⟩ (by simp) (by repeat (first | exact Sub.nil | refine Sub.cons rfl ?_)) (by repeat first | exact S0 | exact S1 | refine S2 ?_ | refine S3 ?_)
        · have p2 := h2; (try simp only [nfB] at p2); refine T.exit (K.then_exit (K.then_exit (K.blk_exit_eq (K.seq (T.seq ?_))))); (obtain rfl : k = 1 := by omega); have hI := hI1k rfl; obtain rfl := hfin0 Y L c1 hN.tb hI; refine T.draw (.still 0 (.still 2 (.still 3 (.still 4 (.still 5 (.eff 1 (.still 6 (.still 7 (.still 8 .done))))))))) _ (by kernel_rfl) (List.Sublist.refl _) ?_; refine TS.run 3 rfl ?_; refine TS.y rfl (Yv.fieldAddr rfl rfl) ?_; refine TS.y rfl (Yv.loadO 0 rfl rfl rfl rfl) ?_; refine TS.eff ?_; (refine TSo.ew rfl (Wt.none rfl) rfl rfl (Ew.callD rfl rfl rfl (fun w hw => domains_bad g7 Y L w (StF.of (Y := Y) (by rw [← hYn] at hw; exact hw) hT (Ent.fz_ok.1 (hw.own (Ent.fz w0) (by simp))) (htab.keptF hw) 0 1 rfl rfl hI.len).st)) ?_; rintro _ _ ⟨rfl, rfl⟩; refine ⟨(by repeat first | exact S0 | exact S1 | refine S2 ?_ | refine S3 ?_), ?_⟩); refine TS.run 3 rfl ?_; refine TS.done ?_; refine K.seq (T.ret ?_); exact K.ret3 rfl rfl rfl rfl (fun w' hw => ⟨rfl, hw.isBelow⟩)
theorem run_fine (P : Pb) (vd vp vl vc : Value) (x : Ch) (vx : Value) (w : World) (h : ProbAt w vd vp vl vc P) (hx : ChsAt w vx [x]) (htab : Tab w) (hok : P.ok = true) (hlx : listOk [x] = true) (hck : ∀ Y, TbOf P Y → (checkF Y false x).2 = 0) (hbef : ∀ Y L c, TbOf P Y → Is Y P.left L c → c = false) (hfin0 : ∀ Y L c, TbOf P Y → Is Y (asm Y P.left x) L c → c = false) : Calls Tryz.prog 20 #[.agg [vd, vp, vl, vc].toArray, vx] w fun e w' => ∃ y : Value × List Dx, (∃ Y L, TbOf P Y ∧ Is Y (asm Y P.left x) L false ∧ y.2.map Dx.pl = domsF Y L Y.n) ∧ e = .returned (.tuple #[y.1, .bool false, .int .i64 0]) ∧ Hp w (fun _ => False) [.sl y.1 57 2 y.2.length (y.2.flatMap Dx.cells), .bag (y.2.map dE)] w' := by
  obtain ⟨A, cap, rfl, hsl⟩ := h.ds.sl.op; obtain ⟨A1, cap1, rfl, -⟩ := h.ru.ps.op; obtain ⟨A2, cap2, rfl, -⟩ := h.ru.ls.op; obtain ⟨A3, cap3, rfl, -⟩ := h.ru.cs.op; obtain ⟨AX, capX, rfl, hslX⟩ := hx.op; have hG := Pb.good hok; have hn512 := hG.n; obtain ⟨gX, oX, rfl, hcX⟩ := hslX (by simp); have hkX := hcX 0 (by simp); simp only [Ch.cells] at hkX; rw [show nth [x] 0 = x from rfl] at hkX; simp only [List.length_singleton] at hx ⊢; refine calls_T (M := fun _ => False) (hs := []) Tryz.func20 rfl rfl rfl (Hp.refl _ _) ?_; refine T.seq (T.region ?_); (refine TL.ew (Wt.none rfl) rfl rfl (Ew.boxA rfl rfl) ?_; rintro _ _ ⟨g2, rfl, rfl⟩); refine TL.run 3 rfl ?_; refine TL.nil (K.seq (T.seq (T.region ?_))); refine TL.y (Yv.loadAO 0 rfl rfl rfl rfl) ?_; (refine TL.ew (Wt.none rfl) rfl rfl (Ew.callH rfl rfl rfl (fun w hw => new_ok P _ _ _ _ w (h.kept hw) (htab.keptF hw) hok)) ?_; rintro _ _ ⟨⟨g7, gl, tp, Y, L0, c0, w0⟩, hN, rfl, rfl⟩); dsimp only at hN; dsimp only [List.cons_append, List.nil_append]; have hYok := hN.tb.ok hG; have hYn := hN.tb.n; have hI0 := hN.is hG; obtain rfl := hbef Y L0 c0 hN.tb hI0; have hx0 := hck Y hN.tb; have hT := hN.at'; obtain ⟨hc1, hc2, hc3, hc4⟩ := check_facts hN.tb.ixn hx0; refine TL.run 5 rfl ?_; refine TL.nil (K.seq (T.seq (T.seq (T.region ?_)))); refine TL.run 2 rfl ?_; refine TL.nil (K.seq ?_); refine T.condF rfl (by rfl) ?_; refine T.skip (K.seq (T.seq (T.seq (T.region ?_)))); refine TL.run 1 rfl ?_; (refine TL.ew (Wt.none rfl) rfl rfl (Ew.callD rfl rfl rfl (fun w hw => validList_ret [x] _ w (hx.kept hw) (by simp))) ?_; rintro _ _ ⟨rfl, rfl⟩); refine TL.run 1 rfl ?_; refine TL.nil (K.seq ?_); refine T.condF rfl (by rw [hlx]; rfl) ?_; refine T.skip (K.seq (T.seq (T.seq (T.region ?_)))); refine TL.run 1 rfl ?_; refine TL.y (Yv.lenSl rfl rfl) ?_; refine TL.run 1 rfl ?_; refine TL.nil (K.seq (T.block ?_)); refine T.loop (ι := Nat) (fun k => [(1, .slice (some ⟨gX, oX, none⟩) 1 capX), (7, .pointer (some ⟨g7, 0, none⟩)), (26, .slice (some ⟨gX, oX, none⟩) 1 capX), (27, .int .i64 1), (28, .int .i64 (k : Int))]) (fun k => [sRow g7 gl tp P.ds.length false, sLeft gl P.ds.length L0, Ent.fz w0]) (fun k => k ≤ 1) (fun k => 1 - k) 0 ?_ ?_ ?_ ?_
  · omega
  · exact (by repeat (first | exact Sub.nil | refine Sub.cons rfl ?_))
  · exact (by repeat first | exact S0 | exact S1 | refine S2 ?_ | refine S3 ?_)
  · intro k hphi; refine T.seq (T.region ?_); refine TL.run 1 rfl ?_; refine TL.nil (K.seq (T.seq ?_)); refine T.cond rfl (fun h1 => ?_) (fun h1 => ?_)
    · have p1 := h1; (try simp only [nfB] at p1); refine T.skip (K.seq (T.seq (T.block (T.seq ?_)))); (obtain rfl : k = 0 := by omega); refine T.region ?_; refine TL.y (Yv.indexSl rfl rfl rfl rfl (by omega)) ?_; refine TL.y (Yv.loadAB rfl rfl hkX rfl (fun h => h)) ?_; (refine TL.ew (Wt.none rfl) rfl rfl (Ew.alloc rfl) ?_; rintro _ _ ⟨g10, rfl, rfl⟩); (refine TL.ew0 (Wt.none rfl) rfl (Ew.storeAll 0 rfl rfl rfl rfl rfl rfl) ?_; rintro _ _ ⟨rfl, rfl⟩); refine TL.nil (K.seq (T.seq ?_)); refine T.draw (.still 0 (.still 1 (.still 2 (.still 3 (.still 4 (.still 5 (.eff 6 (.still 7 (.still 8 (.still 9 (.still 10 (.still 11 .done)))))))))))) _ (by kernel_rfl) (List.Sublist.refl _) ?_; refine TS.run 2 rfl ?_; refine TS.y rfl (Yv.fieldAddr rfl rfl) ?_; refine TS.y rfl (Yv.loadO 1 rfl rfl rfl rfl) ?_; refine TS.y rfl (Yv.fieldAddr rfl rfl) ?_; refine TS.y rfl (Yv.loadO 0 rfl rfl rfl rfl) ?_; refine TS.eff ?_; (refine TSo.ew rfl (Wt.none rfl) rfl rfl (Ew.callD rfl rfl rfl (fun w hw => at_ret tp Y x.st w (hT.later (Ent.fz_ok.1 (hw.own (Ent.fz w0) (by simp)))) (Y.ix512 hYok hN.tb.ixn))) ?_; rintro _ _ ⟨rfl, rfl⟩; refine ⟨(by repeat first | exact S0 | exact S1 | refine S2 ?_ | refine S3 ?_), ?_⟩); refine TS.run 5 rfl ?_; refine TS.done ?_; refine K.seq (T.seq (T.region ?_)); refine TL.run 2 rfl ?_; refine TL.nil (K.seq ?_); refine T.condF rfl (by rw [check_at hx0]; rfl) ?_; refine T.skip (K.blk_normal (K.seq (T.region ?_))); refine TL.y (Yv.addI rfl rfl rfl (by omega)) ?_; refine TL.run 1 rfl ?_; refine TL.nil ?_; exact K.next 1 (by omega) (by omega) (by repeat (first | exact Sub.nil | refine Sub.cons rfl ?_)) (by repeat first | exact S0 | exact S1 | refine S2 ?_ | refine S3 ?_)
    · have p1 := h1; (try simp only [nfB] at p1); refine T.exit (K.then_exit (K.then_exit (K.blk_exit_eq (K.seq (T.seq (T.seq (T.region ?_))))))); refine TL.run 1 rfl ?_; refine TL.y (Yv.lenSl rfl rfl) ?_; refine TL.run 1 rfl ?_; refine TL.nil (K.seq (T.block ?_)); refine T.loop (ι := Nat × Ws × Bool) (fun z => [(7, .pointer (some ⟨g7, 0, none⟩)), (45, .slice (some ⟨gX, oX, none⟩) 1 capX), (46, .int .i64 1), (47, .int .i64 (z.1 : Int))]) (fun z => [sRow g7 gl tp P.ds.length z.2.2, sLeft gl P.ds.length z.2.1, Ent.fz w0]) (fun z => z.1 ≤ 1 ∧ (z.1 = 0 → Is Y P.left z.2.1 z.2.2) ∧ (z.1 < 1 → z.2.2 = false) ∧ (z.1 = 1 → Is Y (asm Y P.left x) z.2.1 z.2.2)) (fun z => 1 - z.1) (0, L0, false) ?_ ?_ ?_ ?_
      · exact ⟨by simp, fun _ => hI0, fun _ => rfl, fun hh => by cases hh⟩
      · exact (by repeat (first | exact Sub.nil | refine Sub.cons rfl ?_))
      · exact (by repeat first | exact S0 | exact S1 | refine S2 ?_ | refine S3 ?_)
      · intro z hphi; obtain ⟨k, L, c1⟩ := z; dsimp only at hphi ⊢; obtain ⟨hk1, hI0k, hf0, hI1k⟩ := hphi; refine T.seq (T.region ?_); refine TL.run 1 rfl ?_; refine TL.nil (K.seq (T.seq ?_)); refine T.cond rfl (fun h2 => ?_) (fun h2 => ?_)
        · have p2 := h2; (try simp only [nfB] at p2); refine T.skip (K.seq (T.seq (T.block (T.seq ?_)))); (obtain rfl : k = 0 := by omega); obtain rfl := hf0 (by omega); have hI := hI0k rfl; refine T.region ?_; refine TL.y (Yv.indexSl rfl rfl rfl rfl (by omega)) ?_; refine TL.y (Yv.loadAB rfl rfl hkX rfl (fun h => h)) ?_; (refine TL.ew (Wt.none rfl) rfl rfl (Ew.alloc rfl) ?_; rintro _ _ ⟨g14, rfl, rfl⟩); (refine TL.ew0 (Wt.none rfl) rfl (Ew.storeAll 0 rfl rfl rfl rfl rfl rfl) ?_; rintro _ _ ⟨rfl, rfl⟩); refine TL.nil (K.seq (T.seq (T.seq (T.region ?_)))); refine TL.run 2 rfl ?_; refine TL.y (Yv.fieldAddr rfl rfl) ?_; refine TL.y (Yv.loadO 1 rfl rfl rfl rfl) ?_; refine TL.nil (K.seq ?_); refine T.condF rfl rfl ?_; refine T.skip (K.seq (T.region ?_)); refine TL.run 1 rfl ?_; refine TL.y (Yv.loadAO 0 rfl rfl rfl rfl) ?_; rw [← hYn]; (refine TL.ew (Wt.none rfl) rfl rfl (Ew.callL [sRow g7 gl tp Y.n false, sLeft gl Y.n L] [Ent.row g14 46 [.int .i64 x.st, .int .i64 x.ch], Ent.fz w0] rfl rfl rfl (runPerm _ _ _ _) (fun w hw hw2 => assume_ok w0 g7 gl tp Y L w hT hYok (Ent.fz_ok.1 (hw2.own (Ent.fz w0) (by simp))) (htab.keptF hw) hw2.part (fun g hg hc => hw2.sep (f := Ent.fz w0) (by simp) g hg (Ent.fz_fp.2 hc)) (hw2.no0 htab) hI.len (hI.good rfl).calm hN.tb.ixn x hx0)) ?_; rintro _ _ ⟨y57, hpost, rfl, rfl⟩); dsimp only [List.cons_append, List.nil_append]; rw [hYn]; refine TL.nil (K.blk_normal (K.seq (T.region ?_))); refine TL.y (Yv.addI rfl rfl rfl (by omega)) ?_; refine TL.run 1 rfl ?_; refine TL.nil ?_; exact K.next (1, y57.1, y57.2) ⟨by simp, (fun hh => by cases hh), (fun hh => absurd hh (by simp)), fun _ => assume_is hYok (by omega) hI hpost⟩ (by simp) (by repeat (first | exact Sub.nil | refine Sub.cons rfl ?_)) (by repeat first | exact S0 | exact S1 | refine S2 ?_ | refine S3 ?_)
        · have p2 := h2; (try simp only [nfB] at p2); refine T.exit (K.then_exit (K.then_exit (K.blk_exit_eq (K.seq (T.seq ?_))))); (obtain rfl : k = 1 := by omega); have hI := hI1k rfl; obtain rfl := hfin0 Y L c1 hN.tb hI; refine T.draw (.still 0 (.still 2 (.still 3 (.still 4 (.still 5 (.eff 1 (.still 6 (.still 7 (.still 8 .done))))))))) _ (by kernel_rfl) (List.Sublist.refl _) ?_; refine TS.run 3 rfl ?_; refine TS.y rfl (Yv.fieldAddr rfl rfl) ?_; refine TS.y rfl (Yv.loadO 0 rfl rfl rfl rfl) ?_; refine TS.eff ?_; (refine TSo.ew rfl (Wt.none rfl) rfl rfl (Ew.callH rfl rfl rfl (fun w hw => domains_ok g7 Y L w (StF.of (Y := Y) (by rw [← hYn] at hw; exact hw) hT (Ent.fz_ok.1 (hw.own (Ent.fz w0) (by simp))) (htab.keptF hw) 0 1 rfl rfl hI.len).st hYok)) ?_; rintro _ _ ⟨y60, hdom, rfl, rfl⟩; refine ⟨(by repeat first | exact S0 | exact S1 | refine S2 ?_ | refine S3 ?_), ?_⟩); refine TS.run 3 rfl ?_; refine TS.done ?_; refine K.seq (T.ret ?_); exact K.ret3 rfl rfl rfl rfl (fun w' hw => ⟨y60, ⟨Y, L, hN.tb, hI, hdom⟩, rfl, hw.sub (by repeat first | exact S0 | exact S1 | refine S2 ?_ | refine S3 ?_)⟩)
end Go.Proofs.YtljgejbmimapdaaGreatDoor
namespace Go.Proofs.YtljgejbmimapdaaGreatDoor
open Go.RowKit
structure Ac where
  kind : Int
  ch : Ch
deriving DecidableEq, Inhabited
def Ac.cells (a : Ac) : List Value := [.int .i64 a.kind, .int .i64 a.ch.st, .int .i64 a.ch.ch]
def Ac.bits (a : Ac) : BitVec 64 := if a.kind = 0 then ~~~(1#64 <<< a.ch.ch.toNat) else 1#64 <<< a.ch.ch.toNat
def actT (Y : Tb) (T : Ws) (a : Ac) : Ws := if (checkF Y false a.ch).2 = 0 then cutL T (checkF Y false a.ch).1.toNat a.bits else T
structure Fin (Y : Tb) (T L : Ws) (c : Bool) : Prop where
  tlen : T.length = Y.n
  len : L.length = Y.n
  good : c = false → Is Y T L false
  bad : c = true → ∀ S, Closed Y S → ¬ Le' S T
section
variable {Y : Tb} {T L L' : Ws} {c c' : Bool}
theorem Is.fin (h : Is Y T L c) : Fin Y T L c where
  tlen := h.tlen
  len := h.len
  good hc := hc ▸ h
  bad hc S hS hle := by
    obtain ⟨i, hi, h0⟩ := h.bad hc; apply hS.ne i hi; apply BitVec.eq_of_getLsbD_eq; intro j _
    cases hh : (nth S i).getLsbD j with
    | false => rw [BitVec.getLsbD_zero]
    | true => have := h.best S hS hle i j hh; rw [h0, BitVec.getLsbD_zero] at this; cases this
theorem cutL_le {i : Nat} {g : BitVec 64} : Le' (cutL T i g) T := fun a j hj => by
  unfold cutL at hj; by_cases hi : i < T.length
  · rw [set_nth hi] at hj
    split at hj
    · rename_i e; subst e; rw [BitVec.getLsbD_and, Bool.and_eq_true] at hj; exact hj.1
    · exact hj
  · rw [List.set_eq_of_length_le (by omega)] at hj; exact hj
theorem actT_le {a : Ac} : Le' (actT Y T a) T := by
  unfold actT; split
  · exact cutL_le
  · exact fun _ _ h => h
theorem actT_len {a : Ac} : (actT Y T a).length = T.length := by
  unfold actT cutL; split <;> simp
theorem Fin.skip {a : Ac} (h : Fin Y T L true) : Fin Y (actT Y T a) L true :=
  ⟨by rw [actT_len, h.tlen], h.len, (fun hh => by cases hh), fun _ S hS hle => h.bad rfl S hS (fun i j hj => actT_le i j (hle i j hj))⟩
theorem Fin.step {a : Ac} (hok : Y.Ok) (hix : ∀ j, 0 ≤ Y.ix j ∧ Y.ix j ≤ Y.n) (h : Fin Y T L false) (he : (checkF Y false a.ch).2 = 0) (hp : SPost Y (cutL L (checkF Y false a.ch).1.toNat a.bits) L' c') : Fin Y (actT Y T a) L' c' := by
  unfold actT; rw [if_pos he]; have := check_facts hix he; exact (assume_is hok (by omega) (h.good rfl) hp).fin
theorem Fin.same (h : Fin Y T L c) (h' : Fin Y T L' c') : c = c' ∧ (c = false → L = L') := by
  have hc : c = c' := by
    cases c with
    | true =>
      cases c' with
      | true => rfl
      | false => exact absurd (h'.good rfl).sub (h.bad rfl L' ((h'.good rfl).good rfl))
    | false =>
      cases c' with
      | false => rfl
      | true => exact absurd (h.good rfl).sub (h'.bad rfl L ((h.good rfl).good rfl))
  subst hc; refine ⟨rfl, fun hf => ?_⟩; have a := h.good hf; have b := h'.good hf; exact Le'.antisymm (b.best L (a.good rfl) a.sub) (a.best L' (b.good rfl) b.sub) (by rw [h.len, h'.len])
end
end Go.Proofs.YtljgejbmimapdaaGreatDoor
namespace Go.Proofs.YtljgejbmimapdaaGreatDoor
open Go.RowKit
def Pr.er (x : Pr) : GPair := ⟨x.a, x.b, x.off, x.lo, x.hi⟩
def Ld.er (x : Ld) : GLoad := ⟨x.to, x.fr, x.wt, x.lo, x.hi⟩
def Cp.er (x : Cp) : GCap := ⟨x.st, x.mx, x.lo, x.hi⟩
def Dx.er (x : Dx) : GDomain := ⟨x.st, x.chs⟩
def Pb.er (P : Pb) : GProblem := ⟨P.ds.map Dx.er, ⟨P.ps.map Pr.er, P.ls.map Ld.er, P.cs.map Cp.er⟩⟩
def gd (Y : Tb) (L : Ws) : List GDomain := (List.range Y.n).map fun i => ⟨nth Y.st i, (chansN (nth L i)).map fun j : Nat => (j : Int)⟩
theorem gd_len {Y : Tb} {L : Ws} : (gd Y L).length = Y.n := by simp [gd]
theorem gd_nth {Y : Tb} {L : Ws} {i : Nat} (h : i < Y.n) : nth (gd Y L) i = ⟨nth Y.st i, (chansN (nth L i)).map fun j : Nat => (j : Int)⟩ := by
  rw [nth_eq (by rw [gd_len]; exact h)]; simp [gd]
theorem only_iff {b : BitVec 64} (hb : b ≠ 0#64) {c : Int} (hc : c ≠ 0) : (∀ j ∈ chansN b, (j : Int) = c) ↔ ((onlyB b : Nat) : Int) = c := by
  have hz := (ctz_bit hb 0).1; constructor
  · intro h; have h1 := h (ctz b) (chansN_mem.2 hz)
    have h2 : b &&& (b - 1#64) = 0#64 := by
      apply BitVec.eq_of_getLsbD_eq; intro j _; rw [low_off hb, BitVec.getLsbD_zero]
      cases hj : b.getLsbD j with
      | false => rfl
      | true => have := h j (chansN_mem.2 hj); simp; omega
    unfold onlyB; rw [if_pos ⟨hb, h2⟩]; exact h1
  · intro h j hj; unfold onlyB at h
    split at h
    · rename_i h2; have h3 := congrArg (fun v => BitVec.getLsbD v j) h2.2; simp only [low_off hb, BitVec.getLsbD_zero, chansN_mem.1 hj, Bool.true_and, Bool.not_eq_false', decide_eq_true_eq] at h3; rw [h3]; exact h
    · exact absurd h.symm hc
theorem any_congrM {α : Type} {p q : α → Bool} : ∀ {l : List α}, (∀ x ∈ l, p x = q x) → l.any p = l.any q
  | [], _ => rfl
  | x :: r, h => by rw [List.any_cons, List.any_cons, h x (by simp), any_congrM (l := r) (fun y hy => h y (by simp [hy]))]
theorem ls_le {P : Pb} (h : P.ok = true) : P.ls.length ≤ 1024 := by
  simp only [Pb.ok, Pb.rulesOk, Bool.and_eq_true, decide_eq_true_eq] at h; omega
section
variable {P : Pb} {Y : Tb} {L : Ws}
theorem TbOf.nth_st (hY : TbOf P Y) {i : Nat} (hi : i < Y.n) : nth Y.st i = (nth P.ds i).st := by
  rw [hY.st]; exact nth_mapF (by rw [← hY.n]; exact hi)
theorem st_inj (hG : P.Good) (hY : TbOf P Y) {i j : Nat} (hi : i < Y.n) (hj : j < Y.n) (h : nth Y.st i = nth Y.st j) : i = j := by
  rw [hY.nth_st hi, hY.nth_st hj] at h; have hn := hY.n; rcases Nat.lt_trichotomy i j with h1 | h1 | h1
  · have := hG.inc i j h1 (by omega); omega
  · exact h1
  · have := hG.inc j i h1 (by omega); omega
theorem only_gd (hG : P.Good) (hY : TbOf P Y) (hne : ∀ i, i < Y.n → nth L i ≠ 0#64) {k : Nat} (hk : k < Y.n) {c : Int} (hc : c ≠ 0) : onlyP (gd Y L) (nth Y.st k) c = true ↔ ((only L k : Nat) : Int) = c := by
  rw [onlyP_iff]; unfold only; rw [← only_iff (hne k hk) hc]; constructor
  · intro h j hj; exact h (nth (gd Y L) k) (nth_memG (by rw [gd_len]; exact hk)) (by rw [gd_nth hk]) j (by rw [gd_nth hk]; exact List.mem_map.2 ⟨j, hj, rfl⟩)
  · intro h x hx hs q hq; obtain ⟨i, hi, rfl⟩ := mem_nth hx; rw [gd_len] at hi; rw [gd_nth hi] at hs hq; obtain rfl := st_inj hG hY hi hk hs; obtain ⟨j, hj, rfl⟩ := List.mem_map.1 hq; exact h j hj
theorem ix_st (hG : P.Good) (hY : TbOf P Y) {i : Nat} (hi : i < Y.n) : P.ix (nth Y.st i) = (i : Int) := by
  rw [hY.nth_st hi]; exact Pb.ix_of hG (by rw [← hY.n]; exact hi)
theorem pairs_er (hG : P.Good) (hY : TbOf P Y) (hne : ∀ i, i < Y.n → nth L i ≠ 0#64) {i j : Nat} (hi : i < Y.n) (hj : j < 64) : P.er.Rules.Pairs.any (pairR (gd Y L) (nth Y.st i) j) = (Y.ps i).any (pairHit L i j) := by
  have hn := hY.n
  have key : ∀ x ∈ P.ps, ((decide ((P.rp x).a = (i : Int)) || decide ((P.rp x).b = (i : Int))) && pairHit L i j (P.rp x)) = pairR (gd Y L) (nth Y.st i) j x.er := by
    intro x hx; obtain ⟨hok, ⟨ia, hia, ha⟩, ⟨ib, hib, hb⟩⟩ := hG.ps x hx; simp only [Pr.ok, rngB, inB, Bool.and_eq_true, decide_eq_true_eq] at hok; (have hsa : x.a = nth Y.st ia := by rw [hY.nth_st (by omega)]; exact ha); (have hsb : x.b = nth Y.st ib := by rw [hY.nth_st (by omega)]; exact hb); (have e1 : (P.rp x).a = (ia : Int) := by unfold Pb.rp; dsimp only; rw [hsa, ix_st hG hY (by omega)]); (have e2 : (P.rp x).b = (ib : Int) := by unfold Pb.rp; dsimp only; rw [hsb, ix_st hG hY (by omega)]); have e3 : (P.rp x).off = x.off := rfl; have e4 : (P.rp x).lo = x.lo := rfl; have e5 : (P.rp x).hi = x.hi := rfl; have ea : x.a = nth Y.st i ↔ ia = i := ⟨fun h => st_inj hG hY (by omega) hi (hsa.symm.trans h), fun h => by rw [hsa, h]⟩; have eb : x.b = nth Y.st i ↔ ib = i := ⟨fun h => st_inj hG hY (by omega) hi (hsb.symm.trans h), fun h => by rw [hsb, h]⟩; have w1 : wI ((j : Int) + x.off) = (j : Int) + x.off := wI_in (by omega); have w2 : wI ((j : Int) - x.off) = (j : Int) - x.off := wI_in (by omega); rw [Bool.eq_iff_iff]; unfold pairHit pairR Pr.er; simp only [e1, e2, e3, e4, e5, w1, w2, Bool.and_eq_true, Bool.or_eq_true, decide_eq_true_eq, ea, eb, Int.toNat_natCast]; (have hab : ia ≠ ib := fun h => by subst h; omega); by_cases h1 : ia = i
    · subst h1; rw [if_pos rfl]; simp only [decide_eq_true_eq]; rw [hsb]; constructor
      · rintro ⟨_, h2, h3, h4, h5⟩; exact .inl ⟨⟨trivial, by omega, by omega⟩, (only_gd hG hY hne (by omega) (by omega)).2 (by omega)⟩
      · rintro (⟨⟨_, h2⟩, h3⟩ | ⟨⟨h2, _⟩, _⟩)
        · have := (only_gd hG hY hne (k := ib) (by omega) (by omega)).1 h3; exact ⟨.inl trivial, by omega, by omega, by omega, by omega⟩
        · exact absurd h2.symm hab
    · rw [if_neg (by omega)]; simp only [decide_eq_true_eq]; rw [hsa]; constructor
      · rintro ⟨h2, h3, h4, h5⟩; exact .inr ⟨⟨by omega, by omega, by omega⟩, (only_gd hG hY hne (by omega) (by omega)).2 (by omega)⟩
      · rintro (⟨⟨h2, _⟩, _⟩ | ⟨⟨h2, h3⟩, h4⟩)
        · exact absurd h2 h1
        · have := (only_gd hG hY hne (k := ia) (by omega) (by omega)).1 h4; exact ⟨.inr (by omega), by omega, by omega, by omega⟩
  show (P.ps.map Pr.er).any _ = _
  rw [hY.ps]; unfold Pb.psA; rw [List.take_length, List.any_map, List.any_filter, List.any_map]; exact any_congrM fun x hx => (key x hx).symm
theorem load_st (hG : P.Good) (hY : TbOf P Y) {x : Ld} (hx : x ∈ P.ls) : ∃ a b, a < Y.n ∧ b < Y.n ∧ x.to = nth Y.st a ∧ x.fr = nth Y.st b ∧ (P.rl x).to = (a : Int) ∧ (P.rl x).fr = (b : Int) ∧ 0 ≤ x.fr ∧ 1 ≤ x.wt ∧ x.wt ≤ 1073741824 ∧ 2 ≤ x.lo := by
  have hn := hY.n; obtain ⟨hok, ⟨ia, hia, ha⟩, ⟨ib, hib, hb⟩⟩ := hG.ls x hx; simp only [Ld.ok, rngB, inB, Bool.and_eq_true, decide_eq_true_eq] at hok; (have hsa : x.to = nth Y.st ia := by rw [hY.nth_st (by omega)]; exact ha); (have hsb : x.fr = nth Y.st ib := by rw [hY.nth_st (by omega)]; exact hb); refine ⟨ia, ib, by omega, by omega, hsa, hsb, ?_, ?_, by omega, by omega, by omega, by omega⟩
  · unfold Pb.rl; dsimp only; rw [hsa, ix_st hG hY (by omega)]
  · unfold Pb.rl; dsimp only; rw [hsb, ix_st hG hY (by omega)]
theorem loss_er (hG : P.Good) (hY : TbOf P Y) (hne : ∀ i, i < Y.n → nth L i ≠ 0#64) {t j : Nat} (ht : t < Y.n) (hj0 : j ≠ 0) : ∀ (l : List Ld), (∀ x ∈ l, x ∈ P.ls) → ∀ (f : Nat → Int), 0 ≤ f j → f j + 1073741824 * (l.length : Int) ≤ 4611686018427387904 →
    (l.map Ld.er).foldl (fun n x => bif loadC (gd Y L) (nth Y.st t) j (-1) x then wI (n + x.Weight) else n) (f j) = ((l.map P.rl).filter fun x => decide (x.to = (t : Int))).foldl (lossStep L) f j
  | [], _, f, _, _ => rfl
  | x :: r, hl, f, h0, hb => by
    obtain ⟨a, b, ha, hbn, hsa, hsb, e1, e2, h1, h2, h3, h4⟩ := load_st hG hY (hl x (by simp)); simp only [List.length_cons] at hb; have hw : wI (f j + x.wt) = f j + x.wt := wI_in (by omega); have hto : x.to = nth Y.st t ↔ a = t := ⟨fun h => st_inj hG hY ha ht (hsa.symm.trans h), fun h => by rw [hsa, h]⟩
    have hon : onlyP (gd Y L) x.fr j = true ↔ only L b = j := by
      rw [hsb, only_gd hG hY hne hbn (by omega)]; omega
    rw [List.map_cons, List.map_cons, List.foldl_cons, List.filter_cons]
    have hc : loadC (gd Y L) (nth Y.st t) j (-1) x.er = decide (a = t ∧ (x.lo ≤ (j : Int) ∧ (j : Int) ≤ x.hi) ∧ only L b = j) := by
      rw [Bool.eq_iff_iff]; unfold loadC Ld.er; simp only [Bool.and_eq_true, Bool.or_eq_true, decide_eq_true_eq, hto, hon]; constructor
      · rintro ⟨⟨h5, h6⟩, h7 | h7⟩
        · omega
        · exact ⟨h5, h6, h7⟩
      · rintro ⟨h5, h6, h7⟩; exact ⟨⟨h5, h6⟩, .inr h7⟩
    rw [hc]; by_cases hat : a = t
    · subst hat; rw [if_pos (by rw [e1]; simp), List.foldl_cons]
      have hs : lossStep L f (P.rl x) j = bif decide (a = a ∧ (x.lo ≤ (j : Int) ∧ (j : Int) ≤ x.hi) ∧ only L b = j) then wI (f j + x.er.Weight) else f j := by
        show (if x.lo ≤ (only L (P.rl x).fr.toNat : Int) ∧ (only L (P.rl x).fr.toNat : Int) ≤ x.hi ∧ only L (P.rl x).fr.toNat = j then f j + x.wt else f j) = _
        rw [e2, Int.toNat_natCast]; by_cases h5 : (x.lo ≤ (j : Int) ∧ (j : Int) ≤ x.hi) ∧ only L b = j
        · rw [if_pos ⟨by rw [h5.2]; omega, by rw [h5.2]; omega, h5.2⟩, decide_eq_true ⟨rfl, h5⟩, cond_true]; exact hw.symm
        · rw [if_neg (fun h6 => h5 ⟨by rw [← h6.2.2]; omega, h6.2.2⟩), decide_eq_false (fun h6 => h5 h6.2), cond_false]
      rw [← hs]; refine loss_er hG hY hne ht hj0 r (fun y hy => hl y (by simp [hy])) (lossStep L f (P.rl x)) ?_ ?_
      · rw [hs]; cases decide (a = a ∧ (x.lo ≤ (j : Int) ∧ (j : Int) ≤ x.hi) ∧ only L b = j)
        · exact h0
        · show 0 ≤ wI (f j + x.wt); rw [hw]; omega
      · rw [hs]; cases decide (a = a ∧ (x.lo ≤ (j : Int) ∧ (j : Int) ≤ x.hi) ∧ only L b = j)
        · rw [cond_false]; omega
        · show wI (f j + x.wt) + _ ≤ _; rw [hw]; omega
    · rw [if_neg (by rw [e1]; simp; omega), decide_eq_false (fun h => hat h.1), cond_false]; exact loss_er hG hY hne ht hj0 r (fun y hy => hl y (by simp [hy])) f h0 (by omega)
theorem sum_er (hG : P.Good) (hY : TbOf P Y) (hne : ∀ i, i < Y.n → nth L i ≠ 0#64) {t i j : Nat} (ht : t < Y.n) (hi : i < Y.n) (hj0 : j ≠ 0) : ∀ (l : List Ld), (∀ x ∈ l, x ∈ P.ls) → ∀ (n : Int), 0 ≤ n → n + 1073741824 * (l.length : Int) ≤ 4611686018427387904 →
    (l.map Ld.er).foldl (fun n x => bif loadC (gd Y L) (nth Y.st t) j (nth Y.st i) x then wI (n + x.Weight) else n) n = ((l.map P.rl).filter fun x => decide (x.to = (t : Int))).foldl (sumStep L i j) n
  | [], _, n, _, _ => rfl
  | x :: r, hl, n, h0, hb => by
    obtain ⟨a, b, ha, hbn, hsa, hsb, e1, e2, h1, h2, h3, h4⟩ := load_st hG hY (hl x (by simp)); simp only [List.length_cons] at hb; have hw : wI (n + x.wt) = n + x.wt := wI_in (by omega); have hto : x.to = nth Y.st t ↔ a = t := ⟨fun h => st_inj hG hY ha ht (hsa.symm.trans h), fun h => by rw [hsa, h]⟩; have hfr : x.fr = nth Y.st i ↔ b = i := ⟨fun h => st_inj hG hY hbn hi (hsb.symm.trans h), fun h => by rw [hsb, h]⟩
    have hon : onlyP (gd Y L) x.fr j = true ↔ only L b = j := by
      rw [hsb, only_gd hG hY hne hbn (by omega)]; omega
    rw [List.map_cons, List.map_cons, List.foldl_cons, List.filter_cons]
    have hc : loadC (gd Y L) (nth Y.st t) j (nth Y.st i) x.er = decide (a = t ∧ (x.lo ≤ (j : Int) ∧ (j : Int) ≤ x.hi) ∧ (b = i ∨ only L b = j)) := by
      rw [Bool.eq_iff_iff]; unfold loadC Ld.er; simp only [Bool.and_eq_true, Bool.or_eq_true, decide_eq_true_eq, hto, hon, hfr, and_assoc]
    rw [hc]; by_cases hat : a = t
    · subst hat; rw [if_pos (by rw [e1]; simp), List.foldl_cons]
      have hs : sumStep L i j n (P.rl x) = bif decide (a = a ∧ (x.lo ≤ (j : Int) ∧ (j : Int) ≤ x.hi) ∧ (b = i ∨ only L b = j)) then wI (n + x.er.Weight) else n := by
        show (if (x.lo ≤ (j : Int) ∧ (j : Int) ≤ x.hi) ∧ ((P.rl x).fr = (i : Int) ∨ only L (P.rl x).fr.toNat = j) then n + x.wt else n) = _
        rw [e2, Int.toNat_natCast]; by_cases h5 : (x.lo ≤ (j : Int) ∧ (j : Int) ≤ x.hi) ∧ (b = i ∨ only L b = j)
        · rw [if_pos ⟨h5.1, h5.2.imp (fun h => by omega) id⟩, decide_eq_true ⟨rfl, h5⟩, cond_true]; exact hw.symm
        · rw [if_neg (fun h6 => h5 ⟨h6.1, h6.2.imp (fun h => by omega) id⟩), decide_eq_false (fun h6 => h5 h6.2), cond_false]
      rw [← hs]; refine sum_er hG hY hne ht hi hj0 r (fun y hy => hl y (by simp [hy])) _ ?_ ?_
      · rw [hs]; cases decide (a = a ∧ (x.lo ≤ (j : Int) ∧ (j : Int) ≤ x.hi) ∧ (b = i ∨ only L b = j))
        · exact h0
        · show 0 ≤ wI (n + x.wt); rw [hw]; omega
      · rw [hs]; cases decide (a = a ∧ (x.lo ≤ (j : Int) ∧ (j : Int) ≤ x.hi) ∧ (b = i ∨ only L b = j))
        · rw [cond_false]; omega
        · show wI (n + x.wt) + _ ≤ _; rw [hw]; omega
    · rw [if_neg (by rw [e1]; simp; omega), decide_eq_false (fun h => hat h.1), cond_false]; exact sum_er hG hY hne ht hi hj0 r (fun y hy => hl y (by simp [hy])) n h0 (by omega)
theorem over_er (hG : P.Good) (hY : TbOf P Y) {t j : Nat} (ht : t < Y.n) {l : Int} : overP P.er (nth Y.st t) j l = true ↔ ∃ x ∈ Y.cs t, (x.lo ≤ (j : Int) ∧ (j : Int) ≤ x.hi) ∧ x.mx < l := by
  have hn := hY.n; unfold overP
  show (P.cs.map Cp.er).any _ = true ↔ _
  rw [hY.cs, List.any_eq_true]; unfold Pb.csA; rw [List.take_length]; constructor
  · rintro ⟨y, hy, h⟩; obtain ⟨x, hx, rfl⟩ := List.mem_map.1 hy; rw [Bool.and_eq_true, Bool.and_eq_true] at h; have h1 : x.st = nth Y.st t := of_decide_eq_true h.1.1; refine ⟨P.rc x, List.mem_filter.2 ⟨List.mem_map.2 ⟨x, hx, rfl⟩, ?_⟩, of_decide_eq_true h.1.2, of_decide_eq_true h.2⟩; unfold Pb.rc; dsimp only; rw [h1, ix_st hG hY ht]; simp
  · rintro ⟨y, hy, h⟩; obtain ⟨h1, h2⟩ := List.mem_filter.1 hy; obtain ⟨x, hx, rfl⟩ := List.mem_map.1 h1; refine ⟨x.er, List.mem_map.2 ⟨x, hx, rfl⟩, ?_⟩; obtain ⟨_, k, hk, hs⟩ := hG.cs x hx; (have hs' : x.st = nth Y.st k := by rw [hY.nth_st (by omega)]; exact hs); have h3 : P.ix x.st = (t : Int) := of_decide_eq_true h2; rw [hs', ix_st hG hY (by omega)] at h3; (have : k = t := by omega); subst this; rw [Bool.and_eq_true, Bool.and_eq_true]; exact ⟨⟨decide_eq_true hs', decide_eq_true h.1⟩, decide_eq_true h.2⟩
theorem sumP_loss (hG : P.Good) (hok : P.ok = true) (hY : TbOf P Y) (hne : ∀ i, i < Y.n → nth L i ≠ 0#64) {t j : Nat} (ht : t < Y.n) (hj0 : j ≠ 0) : sumP P.er (gd Y L) (nth Y.st t) j (-1) = lossOf L (Y.inn t) j := by
  have hl := ls_le hok; unfold sumP lossOf; rw [hY.inn]; unfold Pb.inA; rw [List.take_length]; exact loss_er hG hY hne ht hj0 P.ls (fun _ h => h) (fun _ => 0) (Int.le_refl _) (by omega)
theorem sumP_sum (hG : P.Good) (hok : P.ok = true) (hY : TbOf P Y) (hne : ∀ i, i < Y.n → nth L i ≠ 0#64) {t i j : Nat} (ht : t < Y.n) (hi : i < Y.n) (hj0 : j ≠ 0) : sumP P.er (gd Y L) (nth Y.st t) j (nth Y.st i) = sumOf L i j (Y.inn t) := by
  have hl := ls_le hok; unfold sumP sumOf; rw [hY.inn]; unfold Pb.inA; rw [List.take_length]; exact sum_er hG hY hne ht hi hj0 P.ls (fun _ h => h) 0 (Int.le_refl _) (by omega)
theorem rem_gone (hok : P.ok = true) (hY : TbOf P Y) (hne : ∀ i, i < Y.n → nth L i ≠ 0#64) {i j : Nat} (hi : i < Y.n) (hj0 : j ≠ 0) (hj : j < 64) : remP P.er (gd Y L) (nth Y.st i) j = (goneF Y L i).getLsbD j := by
  have hG := Pb.good hok; have hYo := hY.ok hG; unfold remP goneF; rw [BitVec.getLsbD_or, BitVec.getLsbD_or, pairs_bit hj, caps_bit hYo hi hj, loads_bit hj, pairs_er hG hY hne hi hj]
  congr 1
  · congr 1
    rw [Bool.eq_iff_iff, sumP_loss hG hok hY hne hi hj0, over_er hG hY hi, List.any_eq_true]; simp only [decide_eq_true_eq, and_assoc]
  · have key : ∀ x ∈ P.ls, (decide ((P.rl x).fr = (i : Int)) && loadHit Y L i j (P.rl x)) = loadR P.er (gd Y L) (nth Y.st i) j x.er := by
      intro x hx; obtain ⟨a, b, ha, hbn, hsa, hsb, e1, e2, h1, h2, h3, h4⟩ := load_st hG hY hx; have hfr : x.fr = nth Y.st i ↔ b = i := ⟨fun h => st_inj hG hY hbn hi (hsb.symm.trans h), fun h => by rw [hsb, h]⟩
      have hon : onlyP (gd Y L) x.to j = true ↔ only L a = j := by
        rw [hsa, only_gd hG hY hne ha (by omega)]; omega
      have hov : overP P.er x.to j (sumP P.er (gd Y L) x.to j (nth Y.st i)) = true ↔ ∃ c ∈ Y.cs a, (c.lo ≤ (j : Int) ∧ (j : Int) ≤ c.hi) ∧ c.mx < sumOf L i j (Y.inn a) := by
        rw [hsa, sumP_sum hG hok hY hne ha hi hj0, over_er hG hY ha]
      rw [Bool.eq_iff_iff]; unfold loadR; simp only [Bool.and_eq_true, decide_eq_true_eq]
      show _ ↔ ((x.fr = nth Y.st i ∧ x.lo ≤ (j : Int) ∧ (j : Int) ≤ x.hi) ∧ onlyP (gd Y L) x.to j = true) ∧ overP P.er x.to j (sumP P.er (gd Y L) x.to j (nth Y.st i)) = true
      rw [hfr, hon, hov]; unfold loadHit; rw [decide_eq_true_eq, e1, e2, Int.toNat_natCast]
      show _ ∧ x.lo ≤ (only L a : Int) ∧ (only L a : Int) ≤ x.hi ∧ _ ↔ _
      constructor
      · rintro ⟨h5, h6, h7, h8, h9⟩; exact ⟨⟨⟨by omega, by omega, by omega⟩, h8⟩, h9⟩
      · rintro ⟨⟨⟨h5, h6, h7⟩, h8⟩, h9⟩; exact ⟨by omega, by omega, by omega, h8, h9⟩
    show (P.ls.map Ld.er).any _ = _
    rw [hY.out]; unfold Pb.ouA; rw [List.take_length, List.any_map, List.any_filter, List.any_map]; exact any_congrM fun x hx => (key x hx).symm
end
end Go.Proofs.YtljgejbmimapdaaGreatDoor
namespace Go.Proofs.YtljgejbmimapdaaGreatDoor
open Go.RowKit
theorem chansN_sub {b : BitVec 64} : (chansN b).Sublist (List.range' 0 64) := by unfold chansN; exact List.filter_sublist
theorem chansN_nodup (b : BitVec 64) : (chansN b).Nodup := List.Nodup.sublist chansN_sub List.nodup_range'
theorem chansN_64 (b : BitVec 64) : (chansN b).length ≤ 64 := by have := (chansN_sub (b := b)).length_le; simpa using this
theorem chansN_ne {b : BitVec 64} (h : b ≠ 0#64) : chansN b ≠ [] := fun e => by
  have := chansN_mem.2 (ctz_bit h 0).1; rw [e] at this; cases this
theorem chansN_filter {b c : BitVec 64} (h : ∀ j, c.getLsbD j = true → b.getLsbD j = true) : chansN c = (chansN b).filter c.getLsbD := by
  unfold chansN; rw [List.filter_filter]; apply List.filter_congr; intro j _
  cases hc : c.getLsbD j with
  | false => rfl
  | true => rw [h j hc]; rfl
theorem sublist_filter {α : Type} [DecidableEq α] : ∀ {a l : List α}, a.Sublist l → l.Nodup → a = l.filter fun x => decide (x ∈ a)
  | a, [], h, _ => by cases h; rfl
  | a, y :: l, h, hn => by
    rw [List.nodup_cons] at hn
    cases h with
    | cons _ h =>
      have : y ∉ a := fun hy => hn.1 (h.subset hy); rw [List.filter_cons, if_neg (by simpa using this)]; exact sublist_filter h hn.2
    | cons_cons _ h =>
      rename_i a'; rw [List.filter_cons, if_pos (by simp)]
      congr 1
      conv => lhs; rw [sublist_filter h hn.2]
      apply List.filter_congr; intro x hx; have : x ≠ y := fun e => hn.1 (e ▸ hx); simp [this]
theorem sublist_ext {α : Type} [DecidableEq α] {a b l : List α} (ha : a.Sublist l) (hb : b.Sublist l) (hn : l.Nodup) (h : ∀ x, x ∈ a ↔ x ∈ b) : a = b := by
  rw [sublist_filter ha hn, sublist_filter hb hn]; apply List.filter_congr; intro x _; exact decide_eq_decide.2 (h x)
theorem mapI_mem {l : List Nat} {c : Int} : c ∈ l.map (fun j : Nat => (j : Int)) ↔ ∃ j ∈ l, c = (j : Int) := by
  rw [List.mem_map]; exact ⟨fun ⟨j, h, e⟩ => ⟨j, h, e.symm⟩, fun ⟨j, h, e⟩ => ⟨j, h, e.symm⟩⟩
theorem mapI_nodup {l : List Nat} (h : l.Nodup) : (l.map fun j : Nat => (j : Int)).Nodup := List.Pairwise.map _ (fun a b h e => h (by omega)) h
theorem mask_bitE (j : Nat) (hj : j < 64) : ∀ (l : List Int) (m : BitVec 64), (l.foldl (fun m c => m ||| 1#64 <<< c.toNat) m).getLsbD j = (m.getLsbD j || l.any fun c => decide (c.toNat = j))
  | [], m => by simp
  | x :: r, m => by rw [List.foldl_cons, mask_bitE j hj r, or_bit hj, List.any_cons, Bool.or_assoc]
theorem maskOf_bit {l : List Int} {j : Nat} (hl : ∀ c ∈ l, 0 ≤ c ∧ c < 64) : (maskOf l).getLsbD j = true ↔ (j : Int) ∈ l := by
  constructor
  · intro h; have hj := BitVec.lt_of_getLsbD h; unfold maskOf at h; rw [mask_bitE j hj, BitVec.getLsbD_zero, Bool.false_or, List.any_eq_true] at h; obtain ⟨c, hc, h⟩ := h; have := hl c hc; have h2 := of_decide_eq_true h; rw [show (j : Int) = c by omega]; exact hc
  · intro h; have := hl _ h; unfold maskOf; rw [mask_bitE j (by omega), BitVec.getLsbD_zero, Bool.false_or, List.any_eq_true]; exact ⟨_, h, by simp⟩
section
variable {P : Pb} {Y : Tb} {L T : Ws} {c : Bool}
def In51 (T : Ws) : Prop := ∀ i j, (nth T i).getLsbD j = true → 2 ≤ j ∧ j ≤ 51
theorem In51.le {S : Ws} (h : In51 T) (k : Le' S T) : In51 S := fun i j hj => h i j (k i j hj)
theorem gd_mem {i : Nat} (hi : i < Y.n) {q : Int} : q ∈ (nth (gd Y L) i).Channels ↔ ∃ j : Nat, (nth L i).getLsbD j = true ∧ q = (j : Int) := by
  rw [gd_nth hi]
  show q ∈ (chansN (nth L i)).map (fun j : Nat => (j : Int)) ↔ _
  rw [mapI_mem]; exact ⟨fun ⟨j, h, e⟩ => ⟨j, chansN_mem.1 h, e⟩, fun ⟨j, h, e⟩ => ⟨j, chansN_mem.2 h, e⟩⟩
theorem gd_sub {S : Ws} (h : Le' S T) : SubD (gd Y S) (gd Y T) := by
  refine ⟨by rw [gd_len, gd_len], fun i hi => ?_⟩; rw [gd_len] at hi; refine ⟨by rw [gd_nth hi, gd_nth hi], fun q hq => ?_⟩; obtain ⟨j, hj, rfl⟩ := (gd_mem hi).1 hq; exact (gd_mem hi).2 ⟨j, h i j hj, rfl⟩
theorem gd_bd (hn : Y.n ≤ 512) : Bd (gd Y L) := by
  refine ⟨by rw [gd_len]; omega, fun x hx => ?_⟩; obtain ⟨i, hi, rfl⟩ := mem_nth hx; rw [gd_len] at hi; rw [gd_nth hi]; refine ⟨?_, mapI_nodup (chansN_nodup _)⟩; have := chansN_64 (nth L i); simp; omega
theorem wt_er (hok : P.ok = true) : WtP P.er := by
  refine ⟨?_, fun x hx => ?_⟩
  · show (P.ls.map Ld.er).length ≤ 1024
    rw [List.length_map]; exact ls_le hok
  · obtain ⟨y, hy, rfl⟩ := List.mem_map.1 hx; have hok' := ((Pb.good hok).ls y hy).1; simp only [Ld.ok, rngB, inB, Bool.and_eq_true, decide_eq_true_eq] at hok'
    show 0 ≤ y.wt ∧ y.wt ≤ 1073741824
    omega
theorem closed_gd (hok : P.ok = true) (hY : TbOf P Y) (h : Closed Y L) (hb : In51 L) : ClosedD P.er (gd Y L) := by
  refine ⟨fun x hx => ?_, fun x hx q hq => ?_⟩
  · obtain ⟨i, hi, rfl⟩ := mem_nth hx; rw [gd_len] at hi; rw [gd_nth hi]; have := chansN_ne (h.ne i hi); simpa using this
  · obtain ⟨i, hi, rfl⟩ := mem_nth hx; rw [gd_len] at hi; obtain ⟨j, hj, rfl⟩ := (gd_mem hi).1 hq; have h2 := hb i j hj; rw [gd_nth hi]
    show remP P.er (gd Y L) (nth Y.st i) j = false
    rw [rem_gone hok hY h.ne hi (by omega) (by omega)]; have h3 := congrArg (fun v => BitVec.getLsbD v j) (h.calm i hi).2; simp only [BitVec.getLsbD_and, BitVec.getLsbD_zero, hj, Bool.true_and] at h3; exact h3
theorem closed_ws (hok : P.ok = true) (hY : TbOf P Y) (hb : In51 T) {S : List GDomain} (hS : ClosedD P.er S) (hs : SubD S (gd Y T)) : ∃ S' : Ws, Closed Y S' ∧ Le' S' T ∧ SubD S (gd Y S') := by
  (have hl : S.length = Y.n := by rw [hs.1, gd_len]); have hch : ∀ i, i < Y.n → ∀ q ∈ (nth S i).Channels, ∃ j : Nat, (nth T i).getLsbD j = true ∧ q = (j : Int) := fun i hi q hq => (gd_mem hi).1 ((hs.2 i (by rw [gd_len]; exact hi)).2 q hq)
  have hbit : ∀ i j, i < Y.n → ((nth (S.map fun x => maskOf x.Channels) i).getLsbD j = true ↔ (j : Int) ∈ (nth S i).Channels) := fun i j hi => by
    rw [nth_mapG (by rw [hl]; exact hi)]; refine maskOf_bit fun q hq => ?_; obtain ⟨k, hk, rfl⟩ := hch i hi q hq; have := hb i k hk; omega
  (have hlen : (S.map fun x => maskOf x.Channels).length = Y.n := by rw [List.length_map, hl])
  have hle : Le' (S.map fun x => maskOf x.Channels) T := fun i j hj => by
    rcases Nat.lt_or_ge i Y.n with hi | hi
    · obtain ⟨k, hk, e⟩ := hch i hi _ ((hbit i j hi).1 hj); rw [show j = k by omega]; exact hk
    · unfold nth at hj; rw [List.getD_eq_getElem?_getD, List.getElem?_eq_none (by rw [hlen]; exact hi)] at hj; have hj' : (0#64).getLsbD j = true := hj; rw [BitVec.getLsbD_zero] at hj'
      cases hj'
  have hsub : SubD S (gd Y (S.map fun x => maskOf x.Channels)) := by
    refine ⟨by rw [hl, gd_len], fun i hi => ?_⟩; rw [gd_len] at hi; refine ⟨?_, fun q hq => ?_⟩
    · rw [(hs.2 i (by rw [gd_len]; exact hi)).1, gd_nth hi, gd_nth hi]
    · obtain ⟨j, hj, rfl⟩ := hch i hi q hq; exact (gd_mem hi).2 ⟨j, (hbit i j hi).2 hq, rfl⟩
  have hne : ∀ i, i < Y.n → nth (S.map fun x => maskOf x.Channels) i ≠ 0#64 := fun i hi e => by
    have h1 := hS.ne _ (nth_memG (show i < S.length by rw [hl]; exact hi))
    cases hc : (nth S i).Channels with
    | nil => exact h1 hc
    | cons q r =>
      (have hq : q ∈ (nth S i).Channels := by rw [hc]; simp); obtain ⟨j, hj, rfl⟩ := hch i hi q hq; have := (hbit i j hi).2 hq; rw [e, BitVec.getLsbD_zero] at this
      cases this
  refine ⟨_, ⟨hlen, fun i hi => ⟨hne i hi, ?_⟩⟩, hle, hsub⟩; apply BitVec.eq_of_getLsbD_eq; intro j hj; rw [BitVec.getLsbD_and, BitVec.getLsbD_zero]
  cases h1 : (nth (S.map fun x => maskOf x.Channels) i).getLsbD j with
  | false => rfl
  | true =>
    have h2 := (hb.le hle) i j h1
    cases h3 : (goneF Y (S.map fun x => maskOf x.Channels) i).getLsbD j with
    | false => rfl
    | true =>
      rw [← rem_gone hok hY hne hi (by omega) (by omega)] at h3; have h4 := remP_mono (wt_er hok) hsub h3; have h5 := hS.calm _ (nth_memG (show i < S.length by rw [hl]; exact hi)) _ ((hbit i j hi).1 h1); rw [(hs.2 i (by rw [gd_len]; exact hi)).1, gd_nth hi] at h5; rw [h4] at h5
      cases h5
theorem prop_fin (hok : P.ok = true) (hY : TbOf P Y) (hb : In51 T) (hF : Fin Y T L c) {r : List GDomain × Bool} (hr : PropD P.er (gd Y T) r) : r = if c then ([], false) else (gd Y L, true) := by
  cases c with
  | true =>
    rcases hr with ⟨_, h2, h3, _⟩ | ⟨h, _⟩
    · obtain ⟨S', h4, h5, _⟩ := closed_ws hok hY hb h2 h3.1; exact absurd h5 (hF.bad rfl S' h4)
    · exact h
  | false =>
    have hI := hF.good rfl; have hC := hI.good rfl; have hbL := hb.le hI.sub; rcases hr with ⟨h1, h2, h3, h4⟩ | ⟨_, h⟩
    · have h5 := h4 _ (closed_gd hok hY hC hbL) (gd_sub hI.sub); obtain ⟨S', h6, h7, h8⟩ := closed_ws hok hY hb h2 h3.1; have h9 : SubD r.1 (gd Y L) := h8.trans (gd_sub (hI.best S' h6 h7))
      have e : r.1 = gd Y L := by
        refine ext_nth (by rw [h9.1]) fun i hi => ?_; (have hi' : i < Y.n := by rw [h9.1, gd_len] at hi; exact hi); have a1 := h9.2 i (by rw [gd_len]; exact hi'); have a2 := h5.2 i hi
        have hsub : (nth (gd Y L) i).Channels.Sublist (nth (gd Y T) i).Channels := by
          rw [gd_nth hi', gd_nth hi']
          show ((chansN (nth L i)).map _).Sublist ((chansN (nth T i)).map _)
          rw [chansN_filter (hI.sub i)]; exact List.filter_sublist.map _
        have hch : (nth r.1 i).Channels = (nth (gd Y L) i).Channels := by
          refine sublist_ext (h3.2 i (by rw [gd_len]; exact hi')) hsub ?_ (fun x => ⟨a1.2 x, a2.2 x⟩); rw [gd_nth hi']; exact mapI_nodup (chansN_nodup _)
        cases hx : nth r.1 i with
        | mk s1 c1 =>
          cases hy : nth (gd Y L) i with
          | mk s2 c2 =>
            have b1 := a1.1; rw [hx, hy] at b1 hch; simp only at b1 hch; rw [b1, hch]
      rw [if_neg (by simp), ← e, ← h1]
    · exact absurd (gd_sub hI.sub) (h _ (closed_gd hok hY hC hbL))
end
end Go.Proofs.YtljgejbmimapdaaGreatDoor
namespace Go.Proofs.YtljgejbmimapdaaGreatDoor
open Go.RowKit
theorem SlC.slof {α : Type} [Inhabited α] {F : Frz} {w : World} {v : Value} {size : Nat} {enc : α → List Value} {xs : List α} (h : SlC F v size (xs.map enc)) (hF : F.At w) : SlOf w v enc size xs := by
  obtain ⟨A, cap, h1, h2, h3, h4, h5⟩ := h; rw [List.length_map] at h1 h5; refine ⟨A, cap, h1, fun hl => ?_⟩; obtain ⟨g, off, rfl, hg, hc⟩ := h5 hl; refine ⟨g, off, rfl, fun i hi => ?_⟩; have := Cs.at hF hg (hc i hi)
  rwa [nth_mapF hi, nth_eq hi] at this
def GPair.b (x : GPair) : Pr := ⟨x.A, x.B, x.Offset, x.Low, x.High⟩
def GLoad.b (x : GLoad) : Ld := ⟨x.To, x.From, x.Weight, x.Low, x.High⟩
def GCap.b (x : GCap) : Cp := ⟨x.Station, x.Max, x.Low, x.High⟩
def GChoice.b (x : GChoice) : Ch := ⟨x.Station, x.Channel⟩
def Ch.er (x : Ch) : GChoice := ⟨x.st, x.ch⟩
theorem map_er {α β : Type} {f : α → β} {g : β → α} (h : ∀ x, g (f x) = x) (l : List α) : (l.map f).map g = l := by
  rw [List.map_map]
  conv => rhs; rw [← List.map_id l]
  congr 1
  funext x
  exact h x
theorem SlOf.ofMap {α β : Type} {w : World} {v : Value} {size : Nat} {enc : α → List Value} {enc' : β → List Value} {f : α → β} (he : ∀ x, enc' (f x) = enc x) {xs : List α} (h : SlOf w v enc size xs) : SlOf w v enc' size (xs.map f) := by
  obtain ⟨A, cap, h1, h2⟩ := h; refine ⟨A, cap, by rw [List.length_map]; exact h1, fun hl => ?_⟩; rw [List.length_map] at hl; obtain ⟨g, off, hA, hc⟩ := h2 hl; refine ⟨g, off, hA, fun i hi => ?_⟩; rw [List.length_map] at hi; rw [List.getElem_map, he]; exact hc i hi
structure PbF (F : Frz) (vd : Value) (cd : List (List Value)) (vp vl vc : Value) (p : GProblem) : Prop where
  ds : SlD GDomain.rep F vd 2 cd p.Domains
  ps : SlC F vp 5 (p.Rules.Pairs.map GPair.enc)
  ls : SlC F vl 5 (p.Rules.Loads.map GLoad.enc)
  cs : SlC F vc 4 (p.Rules.Caps.map GCap.enc)
theorem prob_of {F : Frz} {w : World} {vd vp vl vc : Value} {cd : List (List Value)} {p : GProblem} (h : PbF F vd cd vp vl vc p) (hF : F.At w) : ∃ P : Pb, P.er = p ∧ ProbAt w vd vp vl vc P := by
  obtain ⟨hd, hp, hl, hc⟩ := h; have hlen := hd.2.1
  have hrow : ∀ i, i < p.Domains.length → nth cd i = [.int .i64 (nth p.Domains i).Station, nth (nth cd i) 1] ∧ SlC F (nth (nth cd i) 1) 1 ((nth p.Domains i).Channels.map eI) := fun i hi => by
    obtain ⟨v1, h0, h1⟩ := hd.2.2 i hi; rw [h0]; exact ⟨rfl, h1⟩
  have eds : ((List.range p.Domains.length).map fun i => (⟨(nth p.Domains i).Station, nth (nth cd i) 1, (nth p.Domains i).Channels⟩ : Dx)).map Dx.er = p.Domains := by
    refine ext_nth (by simp) fun i hi => ?_; simp at hi; rw [nth_mapG (by simpa using hi), nth_eq (by simpa using hi)]; simp [Dx.er]
  refine ⟨⟨(List.range p.Domains.length).map fun i => ⟨(nth p.Domains i).Station, nth (nth cd i) 1, (nth p.Domains i).Channels⟩, p.Rules.Pairs.map GPair.b, p.Rules.Loads.map GLoad.b, p.Rules.Caps.map GCap.b⟩, ?_, ?_⟩
  · unfold Pb.er; dsimp only; rw [eds, map_er (g := Pr.er) (fun _ => rfl), map_er (g := Ld.er) (fun _ => rfl), map_er (g := Cp.er) (fun _ => rfl)]
  · refine ⟨⟨?_, ?_⟩, ⟨(hp.slof hF).ofMap (f := GPair.b) (enc' := Pr.cells) (fun _ => rfl), (hl.slof hF).ofMap (f := GLoad.b) (enc' := Ld.cells) (fun _ => rfl), (hc.slof hF).ofMap (f := GCap.b) (enc' := Cp.cells) (fun _ => rfl), ?_, ?_, ?_⟩, ?_, ?_⟩
    · obtain ⟨A, cap, h1, h2, h3, h4, h5⟩ := hd.1; dsimp only; refine ⟨A, cap, by rw [h1, hlen]; simp, fun hl0 => ?_⟩; simp at hl0; obtain ⟨g, off, rfl, hg, hcs⟩ := h5 (by omega); refine ⟨g, off, rfl, fun i hi => ?_⟩; simp at hi; have := Cs.at hF hg (hcs i (by omega)); rw [(hrow i hi).1] at this; simpa [Dx.cells] using this
    · intro d hd'; obtain ⟨i, hi, rfl⟩ := List.mem_map.1 hd'; have hi' := List.mem_range.1 hi; (exact ((hrow i hi').2.slof hF).ofMap (f := fun x => x) (enc' := Ie) (fun _ => rfl) |> fun q => by simpa using q)
    · have := hp.max; simpa using this
    · have := hl.max; simpa using this
    · have := hc.max; simpa using this
    · have := hd.1.max; simp; omega
    · intro d hd'; obtain ⟨i, hi, rfl⟩ := List.mem_map.1 hd'; have := (hrow i (List.mem_range.1 hi)).2.max; simpa using this
theorem Fx.hp {F : Frz} {w w' : World} {es : HS} (hF : F.At w) (h : Hp w (fun _ => False) es w') : ∃ G : Frz, Fx F w G w' ∧ G.w = w' ∧ ∀ e ∈ es, ∀ g, e.fp g → Cb w' g → G.S g := by
  have hb := h.isBelow; have hF' := hF.below hb; refine ⟨⟨fun g => F.S g ∨ ((∃ e ∈ es, e.fp g) ∧ Cb w' g), w', fun g hg => hg.elim (fun h => hF'.cb h) (fun h => h.2)⟩, ⟨fun g hg => ⟨.inl hg, hF' g hg⟩, fun g _ => rfl, fun g hg => ?_, hb⟩, rfl, fun e he g hg hc => .inr ⟨⟨e, he, hg⟩, hc⟩⟩; rcases hg with h1 | ⟨⟨e, he, hg⟩, _⟩
  · exact .inl h1
  · exact .inr ((h.new e he g hg).elim (fun h => h.elim) id)
theorem SlK.ent {G : Frz} {w' : World} {v : Value} {e : TypeId} {size k : Nat} {l : List Value} (hok : (Ent.sl v e size k l).ok w') (hw : G.w = w') (hS : ∀ g, (Ent.sl v e size k l).fp g → Cb w' g → G.S g) : SlK G v size k l := by
  have ho := Ent.sl_ok.1 hok; rcases ho.2 with ⟨rfl, h0⟩ | ⟨g, cap, cur, rfl, hb, hg, hnc, hcm, hcs, htake⟩
  · subst h0; exact ⟨ho.1, none, 0, rfl, Nat.le_refl _, by omega, fun h => by omega⟩
  · refine ⟨ho.1, _, cap, rfl, hnc, by unfold maxLen at hcm; omega, fun _ => ⟨g, rfl, hS g (Ent.sl_fp.2 rfl) ⟨_, _, _, hg⟩, fun q hq => ?_⟩⟩; rw [hw, Nat.zero_add, World.ownsRow.cellAt ho q (by rw [← ho.1]; exact hq)]
theorem doms_frz {F : Frz} {w w' : World} {v : Value} {xs : List Dx} (hF : F.At w) (h : Hp w (fun _ => False) [.sl v 57 2 xs.length (xs.flatMap Dx.cells), .bag (xs.map dE)] w') : ∃ G : Frz, Fx F w G w' ∧ ∃ cs, SlD GDomain.rep G v 2 cs (xs.map Dx.er) := by
  obtain ⟨G, h1, h2, h3⟩ := Fx.hp hF h; refine ⟨G, h1, xs.map Dx.cells, ?_⟩; have h4 := SlK.ent (G := G) (h.own (.sl v 57 2 xs.length (xs.flatMap Dx.cells)) (by simp)) h2 (h3 _ (by simp)); have hb := Ent.bag_ok.1 (h.own (.bag (xs.map dE)) (by simp)); have h5 := h4.toC (cs := xs.map Dx.cells) (List.flatMap_def ..) (by simp) (fun c hc => by obtain ⟨x, _, rfl⟩ := List.mem_map.1 hc; rfl); refine ⟨h5, by simp, fun i hi => ?_⟩; simp at hi; rw [nth_mapF hi, nth_mapF hi]; have hm : nth xs i ∈ xs := nth_memG hi; have h6 := hb.1 (dE (nth xs i)) (List.mem_map.2 ⟨_, hm, rfl⟩); have h7 := SlK.ent (G := G) h6 h2 (fun g hg hc => h3 (.bag (xs.map dE)) (by simp) g (Ent.bag_fp.2 ⟨_, List.mem_map.2 ⟨_, hm, rfl⟩, hg⟩) hc); exact ⟨(nth xs i).v, rfl, h7.toF rfl (fun _ => rfl)⟩
theorem chs_frz {F : Frz} {w w' : World} {v : Value} {xs : List Ch} (hF : F.At w) (h : Hp w (fun _ => False) [.sl v 46 2 xs.length (xs.flatMap Ch.cells)] w') : ∃ G : Frz, Fx F w G w' ∧ SlC G v 2 ((xs.map Ch.er).map GChoice.enc) := by
  obtain ⟨G, h1, h2, h3⟩ := Fx.hp hF h; refine ⟨G, h1, ?_⟩; have h4 := SlK.ent (G := G) (h.own (.sl v 46 2 xs.length (xs.flatMap Ch.cells)) (by simp)) h2 (h3 _ (by simp))
  have e : xs.flatMap Ch.cells = (xs.map Ch.er).flatMap GChoice.enc := by
    rw [List.flatMap_map]; rfl
  rw [e] at h4; exact h4.toF (by simp) GChoice.len
end Go.Proofs.YtljgejbmimapdaaGreatDoor
namespace Go.Proofs.YtljgejbmimapdaaGreatDoor
open Go.RowKit
theorem bag_call {w w' : World} {es es' rest : HS} (h : (Ent.bag (es ++ rest)).ok w) (hk : Hp w (fps es) es' w') : Hp w (Ent.bag (es ++ rest)).fp [.bag (es' ++ rest)] w' := by
  obtain ⟨hok, hap⟩ := Ent.bag_ok.1 h; obtain ⟨a1, a2, a3⟩ := List.pairwise_append.1 hap; have hold : ∀ e ∈ rest, ∀ g, e.fp g → w'.heap[g]? = w.heap[g]? := fun e he g hg => hk.base g (e.lt (hok e (List.mem_append_right _ he)) g hg) (fun ⟨f, hf, hfg⟩ => a3 f hf e he g hfg hg); refine ⟨hk.os, hk.tape, hk.output, hk.size, fun k hk1 hk2 => hk.base k hk1 (fun ⟨e, he, hg⟩ => hk2 (Ent.bag_fp.2 ⟨e, List.mem_append_left _ he, hg⟩)), ?_, ?_, List.pairwise_singleton _ _⟩
  · intro e he; simp at he; subst he; refine Ent.bag_ok.2 ⟨fun e he => ?_, List.pairwise_append.2 ⟨hk.apart, a2, fun e he f hf g hg hfg => ?_⟩⟩
    · rcases List.mem_append.1 he with he | he
      · exact hk.own e he
      · exact e.loc (hold e he) (hok e (List.mem_append_right _ he))
    · rcases hk.new e he g hg with ⟨x, hx, hxg⟩ | hn
      · exact a3 x hx f hf g hxg hfg
      · have := f.lt (hok f (List.mem_append_right _ hf)) g hfg; omega
  · intro e he g hg; simp at he; subst he; obtain ⟨f, hf, hfg⟩ := Ent.bag_fp.1 hg; rcases List.mem_append.1 hf with hf | hf
    · rcases hk.new f hf g hfg with ⟨x, hx, hxg⟩ | hn
      · exact .inl (Ent.bag_fp.2 ⟨x, List.mem_append_left _ hx, hxg⟩)
      · exact .inr hn
    · exact .inl (Ent.bag_fp.2 ⟨f, List.mem_append_right _ hf, hfg⟩)
theorem bag_new {w w' : World} {es : HS} (h : Hp w (fun _ => False) es w') : Hp w (fun _ => False) [.bag es] w' :=
  ⟨h.os, h.tape, h.output, h.size, h.base, fun e he => by simp at he; subst he; exact Ent.bag_ok.2 ⟨h.own, h.apart⟩, fun e he g hg => by
    simp at he; subst he; obtain ⟨f, hf, hfg⟩ := Ent.bag_fp.1 hg
    exact h.new f hf g hfg, List.pairwise_singleton _ _⟩
theorem all_congrM {α : Type} {p q : α → Bool} : ∀ {l : List α}, (∀ x ∈ l, p x = q x) → l.all p = l.all q
  | [], _ => rfl
  | x :: r, h => by rw [List.all_cons, List.all_cons, h x (by simp), all_congrM (l := r) (fun y hy => h y (by simp [hy]))]
theorem tot_gd {Y : Tb} {L : Ws} : totG (gd Y L) ≤ Y.n * 64 := by
  unfold totG gd; rw [List.map_map]
  have : ∀ l : List Nat, (l.map ((fun x : GDomain => x.Channels.length) ∘ fun i => (⟨nth Y.st i, (chansN (nth L i)).map fun j : Nat => (j : Int)⟩ : GDomain))).sum ≤ l.length * 64 := by
    intro l
    induction l with
    | nil => simp
    | cons i r ih =>
      have := chansN_64 (nth L i); simp only [List.map_cons, List.sum_cons, List.length_cons, Function.comp, List.length_map] at ih ⊢; omega
  have h := this (List.range Y.n)
  rwa [List.length_range] at h
theorem inc_sublist : ∀ (n a : Nat) (l : List Int), (∀ q ∈ l, (a : Int) ≤ q ∧ q < (a : Int) + n) → l.Pairwise (· < ·) → l.Sublist ((List.range' a n).map fun j : Nat => (j : Int))
  | 0, a, l, h, _ => by
    cases l with
    | nil => exact List.Sublist.refl _
    | cons q r => have := h q (by simp); omega
  | n + 1, a, l, h, hp => by
    rw [List.range'_succ, List.map_cons]
    cases l with
    | nil => exact List.nil_sublist _
    | cons q r =>
      have hq := h q (by simp); have hr := List.pairwise_cons.1 hp; by_cases e : q = (a : Int)
      · subst e; refine List.Sublist.cons_cons _ (inc_sublist n (a + 1) r (fun x hx => ?_) hr.2); have h1 := h x (by simp [hx]); have h2 := hr.1 x hx; omega
      · refine List.Sublist.cons _ (inc_sublist n (a + 1) (q :: r) (fun x hx => ?_) hp); have h1 := h x hx; rcases List.mem_cons.1 hx with rfl | hx
        · omega
        · have h2 := hr.1 x hx; omega
theorem incB_pw {l : List Int} (h : incB cmpI l = true) : l.Pairwise (· < ·) := by
  unfold incB at h; rw [List.all_eq_true] at h
  have step : ∀ k, k + 1 < l.length → nth l k < nth l (k + 1) := fun k hk => by
    have := h (k + 1) (List.mem_range.2 hk); simp only [Bool.or_eq_true, decide_eq_true_eq, Bool.not_eq_true', decide_eq_false_iff_not, Nat.add_sub_cancel] at this; rcases this with h1 | h1
    · omega
    · unfold cmpI at h1; split at h1
      · assumption
      · split at h1 <;> omega
  rw [List.pairwise_iff_getElem]; intro i j hi hj hij
  have key : ∀ m, i + m + 1 < l.length → nth l i < nth l (i + m + 1) := by
    intro m
    induction m with
    | zero => intro h; exact step i h
    | succ m ih => intro h; exact Int.lt_trans (ih (by omega)) (step (i + m + 1) (by omega))
  have := key (j - i - 1) (by omega); rw [show i + (j - i - 1) + 1 = j by omega, nth_eq hi, nth_eq hj] at this; exact this
theorem inc_sub {P : Pb} (hok : P.ok = true) {i : Nat} (hi : i < P.ds.length) : (nth P.ds i).chs.Sublist ((List.range' 0 64).map fun j : Nat => (j : Int)) := by
  have hb := ((Pb.good hok).chs _ (nth_memG hi)).2; refine inc_sublist 64 0 _ (fun q hq => by have := hb q hq; omega) (incB_pw ?_); simp only [Pb.ok, Bool.and_eq_true] at hok; have := allB_mem.1 hok.1 _ (nth_memG hi); simp only [Dx.ok, Bool.and_eq_true] at this; exact this.2.2
def GDomain.b (x : GDomain) : Dx := ⟨x.Station, .slice none 0 0, x.Channels⟩
def pbG (p : GProblem) : Pb := ⟨p.Domains.map GDomain.b, p.Rules.Pairs.map GPair.b, p.Rules.Loads.map GLoad.b, p.Rules.Caps.map GCap.b⟩
def okG (p : GProblem) : Bool := (pbG p).ok
theorem ok_er (P : Pb) : P.ok = okG P.er := by
  have e1 : (pbG P.er).ps = P.ps := map_er (fun _ => rfl) P.ps; have e2 : (pbG P.er).ls = P.ls := map_er (fun _ => rfl) P.ls; have e3 : (pbG P.er).cs = P.cs := map_er (fun _ => rfl) P.cs
  have e4 : (pbG P.er).ds = P.ds.map fun d => ⟨d.st, .slice none 0 0, d.chs⟩ := by
    show (P.ds.map Dx.er).map GDomain.b = _
    rw [List.map_map]; rfl
  (have e5 : (pbG P.er).ds.map (·.st) = P.ds.map (·.st) := by rw [e4, List.map_map]; rfl); (have e6 : (pbG P.er).has = P.has := by funext i; unfold Pb.has; rw [e5]); (have hn : ∀ k, k < P.ds.length → nth (pbG P.er).ds k = ⟨(nth P.ds k).st, .slice none 0 0, (nth P.ds k).chs⟩ := fun k hk => by rw [e4, nth_mapF hk]); (have hl : (pbG P.er).ds.length = P.ds.length := by rw [e4, List.length_map])
  have e7 : allB Dx.ok (pbG P.er).ds = allB Dx.ok P.ds := by
    unfold allB; rw [hl]; refine all_congrM fun k hk => ?_; rw [hn k (List.mem_range.1 hk)]; rfl
  have e8 : incB (fun a b => cmpI a.st b.st) (pbG P.er).ds = incB (fun a b => cmpI a.st b.st) P.ds := by
    unfold incB; rw [hl]; refine all_congrM fun k hk => ?_; have := List.mem_range.1 hk; rw [hn k this, hn (k - 1) (by omega)]
  unfold okG Pb.ok Pb.rulesOk; rw [e1, e2, e3, e6, e7, e8]
theorem left_gd {P : Pb} {Y : Tb} (hok : P.ok = true) (hY : TbOf P Y) : gd Y P.left = P.er.Domains ∧ In51 P.left := by
  have hG := Pb.good hok; have hn := hY.n; have hb : ∀ i, i < P.ds.length → ∀ q ∈ (nth P.ds i).chs, 2 ≤ q ∧ q ≤ 51 := fun i hi => (hG.chs _ (nth_memG hi)).2; (have hleft : ∀ i, i < P.ds.length → nth P.left i = maskOf (nth P.ds i).chs := fun i hi => by unfold Pb.left; rw [nth_mapF hi]); constructor
  · refine ext_nth (by rw [gd_len, hn]; simp [Pb.er]) fun i hi => ?_; rw [gd_len] at hi; (have hi' : i < P.ds.length := by omega); rw [gd_nth hi, hleft i hi']
    show _ = nth (P.ds.map Dx.er) i
    rw [nth_mapG hi', hY.nth_st hi]; unfold Dx.er
    congr 1
    -- the channels of the word are the channels
    refine sublist_ext (l := (List.range' 0 64).map fun j : Nat => (j : Int)) (chansN_sub.map _) ?_ (mapI_nodup List.nodup_range') (fun q => ?_)
    · exact inc_sub hok hi'
    · rw [mapI_mem]; constructor
      · rintro ⟨j, hj, rfl⟩; exact (maskOf_bit (fun c hc => by have := hb i hi' c hc; omega)).1 (chansN_mem.1 hj)
      · intro hq; have h2 := hb i hi' q hq; refine ⟨q.toNat, chansN_mem.2 ((maskOf_bit (fun c hc => by have := hb i hi' c hc; omega)).2 ?_), by omega⟩; rw [Int.toNat_of_nonneg (by omega)]; exact hq
  · intro i j hj; rcases Nat.lt_or_ge i P.ds.length with hi | hi
    · rw [hleft i hi] at hj; have := hb i hi _ ((maskOf_bit (fun c hc => by have := hb i hi c hc; omega)).1 hj); omega
    · unfold nth at hj; rw [List.getD_eq_getElem?_getD, List.getElem?_eq_none (by unfold Pb.left; rw [List.length_map]; exact hi)] at hj; have hj' : (0#64).getLsbD j = true := hj; rw [BitVec.getLsbD_zero] at hj'
      cases hj'
structure SK where
  sp : Nat
  gl : GL
  tp : Nat
  w0 : World
  Y : Tb
abbrev stL (k : SK) (L : Ws) (b : Bool) : HS := [sRow k.sp k.gl k.tp k.Y.n b, sLeft k.gl k.Y.n L, Ent.fz k.w0]
abbrev stE (k : SK) (L : Ws) (b : Bool) : Ent := .bag (stL k L b)
structure SI (p : GProblem) (m : List GDomain × Bool) (k : SK) (L : Ws) : Prop where
  pb : ∃ P : Pb, P.er = p ∧ P.ok = true ∧ TbOf P k.Y
  tb : TablesAt k.w0 k.tp k.Y
  len : L.length = k.Y.n
  good : m.2 = true → Closed k.Y L ∧ In51 L ∧ m.1 = gd k.Y L
  bad : m.2 = false → m.1 = []
theorem SI.of {P : Pb} {k : SK} {T L : Ws} {c : Bool} (hok : P.ok = true) (hY : TbOf P k.Y) (ht : TablesAt k.w0 k.tp k.Y) (hT : T.length = k.Y.n) (hb : In51 T) (hI : Is k.Y T L c) {fuel : Nat} (hf : 100000 ≤ fuel) {r : List GDomain × Bool} (hr : ref18_Propagate_x fuel P.er (gd k.Y T) = some r) : SI P.er r k L ∧ c = !r.2 := by
  have hG := Pb.good hok; have hn := hY.n; have h512 := hG.n
  obtain ⟨r', h1, h2⟩ := propagate_x (fuel := fuel) (wt_er hok) (gd_bd (Y := k.Y) (L := T) (by omega)) (by rw [gd_len]; omega) (by
    have : totG (gd k.Y T) ≤ k.Y.n * 64 := tot_gd
    omega)
  rw [hr] at h1; obtain rfl := Option.some.inj h1; have h3 := prop_fin hok hY hb hI.fin h2
  cases c with
  | true =>
    rw [if_pos rfl] at h3; subst h3; exact ⟨⟨⟨P, rfl, hok, hY⟩, ht, hI.len, (fun h => by cases h), fun _ => rfl⟩, rfl⟩
  | false =>
    rw [if_neg (by simp)] at h3; subst h3; exact ⟨⟨⟨P, rfl, hok, hY⟩, ht, hI.len, fun _ => ⟨hI.good rfl, hb.le hI.sub, rfl⟩, (fun h => by cases h)⟩, rfl⟩
section
variable {F0 : Frz} {w : World}
theorem st_new {vd vp vl vc : Value} {cd : List (List Value)} {p : GProblem} (hF0 : F0.At w) (h : PbF F0 vd cd vp vl vc p) (htab : Tab w) (hv : okG p = true) {fuel : Nat} (hf : 100000 ≤ fuel) {r : List GDomain × Bool} (hr : ref18_Propagate_x fuel p p.Domains = some r) :
    Calls Tryz.prog 6 #[.agg [vd, vp, vl, vc].toArray] w fun e w' => ∃ y : SK × Ws, SI p r y.1 y.2 ∧ e = .returned (.tuple #[.pointer (some ⟨y.1.sp, 0, none⟩), .int .i64 0]) ∧ Hp w (fun _ => False) [stE y.1 y.2 (!r.2)] w' := by
  obtain ⟨P, rfl, hP⟩ := prob_of h hF0; (have hok : P.ok = true := by rw [ok_er]; exact hv); refine (new_ok P vd vp vl vc w hP htab hok).mono ?_; rintro e w' ⟨⟨sp, gl, tp, Y, L, c, w0⟩, hN, rfl, hw⟩; dsimp only at hN hw ⊢; have hI := hN.is (Pb.good hok); obtain ⟨h1, h2⟩ := left_gd hok hN.tb; rw [← h1] at hr; obtain ⟨h3, h4⟩ := SI.of (k := ⟨sp, gl, tp, w0, Y⟩) hok hN.tb hN.at' hI.tlen h2 hI hf hr; refine ⟨⟨⟨sp, gl, tp, w0, Y⟩, L⟩, h3, rfl, bag_new ?_⟩
  show Hp w (fun _ => False) [sRow sp gl tp Y.n (!r.2), sLeft gl Y.n L, Ent.fz w0] w'
  rw [hN.tb.n, ← h4]; exact hw
theorem st_newbad {vd vp vl vc : Value} {cd : List (List Value)} {p : GProblem} (hF0 : F0.At w) (h : PbF F0 vd cd vp vl vc p) (hv : okG p = false) :
    Calls Tryz.prog 6 #[.agg [vd, vp, vl, vc].toArray] w fun e w' => e = .returned (.tuple #[.pointer none, .int .i64 2]) ∧ Below w.heap.size w w' := by
  obtain ⟨P, rfl, hP⟩ := prob_of h hF0; exact new_bad P vd vp vl vc w hP (by rw [ok_er]; exact hv)
end
end Go.Proofs.YtljgejbmimapdaaGreatDoor
