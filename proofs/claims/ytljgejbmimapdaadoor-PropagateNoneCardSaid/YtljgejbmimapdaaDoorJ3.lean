/- Arranging a problem. -/
import Derived.Test.YtljgejbmimapdaaDoorJ2
set_option maxRecDepth 100000
set_option maxHeartbeats 4000000
set_option linter.unusedSimpArgs false
set_option linter.unusedVariables false
set_option linter.unusedSectionVars false
namespace Go.Proofs.YtljgejbmimapdaaDoor
open Go.RowKit

theorem ents0 {α : Type} {e : TypeId} {size n : Nat} {enc : α → List Value} {f : Nat → List α} (hf : ∀ j, f j = []) : (∀ w, ∀ x ∈ ents e size n (fun _ => .slice none 0 0) enc f, x.ok w) ∧ ∀ x ∈ ents e size n (fun _ => .slice none 0 0) enc f, ∀ g, ¬ x.fp g := by
  constructor
  · intro w x hx
    obtain ⟨j, _, rfl⟩ := List.mem_map.1 hx
    rw [hf j]
    exact Ent.sl_ok.2 (World.ownsRow_nil w 0 e size)
  · intro x hx g hg
    obtain ⟨j, _, rfl⟩ := List.mem_map.1 hx
    have := Ent.sl_fp.1 hg
    cases this
theorem tix {s p c i g : Value} {f : Nat → Int} {tot : Int} {q j : Nat} {z : Int} (hj : j < 512) (hq : q = 1 + j) (he : f j = z) : (tcells s (cellsK 512 f) tot p c i g)[q]? = some (.int .i64 z) := by
  rw [tcells_ix cellsK_len hj hq, cellsK_get rfl hj, he]
theorem inA_step {P : Pb} {k a : Nat} (h : k < P.ls.length) (ha : P.ix (nth P.ls k).to = (a : Int)) : upd (P.inA k) a (P.inA k a ++ [P.rl (nth P.ls k)]) = P.inA (k + 1) := one_step (f := Ld.to) (r := P.rl) h ha
theorem ouA_step {P : Pb} {k a : Nat} (h : k < P.ls.length) (ha : P.ix (nth P.ls k).fr = (a : Int)) : upd (P.ouA k) a (P.ouA k a ++ [P.rl (nth P.ls k)]) = P.ouA (k + 1) := one_step (f := Ld.fr) (r := P.rl) h ha
theorem csA_step {P : Pb} {k a : Nat} (h : k < P.cs.length) (ha : P.ix (nth P.cs k).st = (a : Int)) : upd (P.csA k) a (P.csA k a ++ [P.rc (nth P.cs k)]) = P.csA (k + 1) := one_step (f := Cp.st) (r := P.rc) h ha
theorem upd_len {α : Type} {f : Nat → List α} {a b N : Nat} {x : α} (h : ∀ j, (f j).length ≤ N) : (upd f a (f a ++ [x]) b).length ≤ N + 1 := by
  unfold upd; split
  · have := h a; simp; omega
  · have := h b; omega
theorem ix_raw {P : Pb} {s : Int} {i : Nat} (h : P.ix s = (i : Int)) : ixAt P.ds P.ds.length s.toNat = (i : Int) + 1 := by unfold Pb.ix at h; omega

theorem arrange_raw (P : Pb) (vd vp vl vc : Value) (w : World) (h : ProbAt w vd vp vl vc P) (hok : P.ok = true) : Calls Tryd.prog 43 #[.agg [vd, vp, vl, vc].toArray] w fun e w' => ∃ g27 q1 q3 q5 q7 q9 : Nat, ∃ ya2 ya3 yb3 ya4 : Nat → Value, e = .returned (.pointer (some ⟨g27, 0, none⟩)) ∧ Hp w (fun _ => False) [Ent.bag (ents 84 5 P.ds.length ya2 Pr.cells (P.psA P.ps.length)), Ent.bag (ents 88 4 P.ds.length ya4 Cp.cells (P.csA P.cs.length)), Ent.bag (ents 86 5 P.ds.length ya3 Ld.cells (P.inA P.ls.length)), Ent.bag (ents 86 5 P.ds.length yb3 Ld.cells (P.ouA P.ls.length)), .row g27 101 (tcells (sV q1 P.ds.length) (cellsK 512 (ixAt P.ds P.ds.length)) (totAt P.ds P.ds.length) (sV q3 P.ds.length) (sV q5 P.ds.length) (sV q7 P.ds.length) (sV q9 P.ds.length)), .sl (sV q1 P.ds.length) 3 1 P.ds.length (fillL (fun j => .int .i64 (nth P.ds j).st) (.int .i64 0) P.ds.length P.ds.length), .sl (sV q3 P.ds.length) 23 1 P.ds.length ((List.range P.ds.length).map ya2), .sl (sV q5 P.ds.length) 25 1 P.ds.length ((List.range P.ds.length).map ya4), .sl (sV q7 P.ds.length) 24 1 P.ds.length ((List.range P.ds.length).map ya3), .sl (sV q9 P.ds.length) 24 1 P.ds.length ((List.range P.ds.length).map yb3)] w' := by
  obtain ⟨A, cap, rfl, hsl⟩ := h.ds.sl.op
  obtain ⟨A1, cap1, rfl, hsl1⟩ := h.ru.ps.op
  obtain ⟨A2, cap2, rfl, hsl2⟩ := h.ru.ls.op
  obtain ⟨A3, cap3, rfl, hsl3⟩ := h.ru.cs.op
  have hG := Pb.good hok
  have hn512 := hG.n
  have hlps := hG.lps
  have hlls := hG.lls
  have hlcs := hG.lcs
  refine calls_T (M := fun _ => False) (hs := []) Tryd.func43 rfl rfl rfl (Hp.refl _ _) ?_
  refine T.seq ?_
  refine T.region ?_
  (refine TL.ew (Wt.none rfl) rfl rfl (Ew.boxA rfl rfl) ?_; rintro _ _ ⟨g1, rfl, rfl⟩)
  refine TL.yv (Wt.none rfl) rfl rfl (Yv.pur rfl) ?_
  refine TL.nil ?_
  refine K.seq ?_
  refine T.seq ?_
  refine T.region ?_
  refine TL.yv (Wt.none rfl) rfl rfl (Yv.fieldAddr rfl rfl) ?_
  refine TL.yv (Wt.none rfl) rfl rfl (Yv.loadO 0 rfl rfl rfl rfl) ?_
  refine TL.yv (Wt.none rfl) rfl rfl (Yv.lenSl rfl rfl) ?_
  refine TL.yv (Wt.none rfl) rfl rfl (Yv.pur rfl) ?_
  refine TL.nil ?_
  refine K.seq ?_
  refine T.seq ?_
  refine T.draw (.still 0 (.still 2 (.still 4 (.still 6 (.still 8 (.any [1, 3, 5, 7, 9] (.still 10 (.eff 11 (.still 12 .done))))))))) _ (by kernel_rfl) (List.Sublist.refl _) ?_
  refine TS.still rfl (Wt.none rfl) rfl rfl (Yv.pur rfl) ?_
  refine TS.still rfl (Wt.none rfl) rfl rfl (Yv.pur rfl) ?_
  refine TS.still rfl (Wt.none rfl) rfl rfl (Yv.pur rfl) ?_
  refine TS.still rfl (Wt.none rfl) rfl rfl (Yv.pur rfl) ?_
  refine TS.still rfl (Wt.none rfl) rfl rfl (Yv.pur rfl) ?_
  refine TS.any (js := [1, 3, 5, 7, 9]) (fun j => 16 + j) (fun _ g => sV g P.ds.length) (fun j g => .sl (sV g P.ds.length) (if j = 1 then 3 else if j = 3 then 23 else if j = 5 then 25 else 24) 1 P.ds.length (madeCells (if j = 1 then [Value.int .i64 0] else [Value.slice none 0 0]).toArray (P.ds.length * 1)).toList) (by decide) (by decide) ?_ (by repeat (first | exact List.Sublist.refl _ | exact List.nil_sublist _ | refine List.Sublist.cons_cons _ ?_ | refine List.Sublist.cons _ ?_)) ?_
  · intro j hj
    simp only [List.mem_cons, List.not_mem_nil, or_false] at hj
    rcases hj with rfl | rfl | rfl | rfl | rfl
    all_goals exact ⟨_, rfl, rfl, rfl, rfl, rfl, fun fs' hs' hsb => Ew.makeSlice rfl (hsb _ _ rfl) (hsb _ _ rfl) rfl rfl (by omega) (by omega)⟩
  intro gs
  simp only [List.map_cons, List.map_nil, List.cons_append, List.nil_append, reduceIte, Nat.reduceEqDiff, Nat.reduceAdd]
  generalize gs 1 = q1
  generalize gs 3 = q3
  generalize gs 5 = q5
  generalize gs 7 = q7
  generalize gs 9 = q9
  refine TS.still rfl (Wt.none rfl) rfl rfl (Yv.build (hF := fillT _ _ _ _ _ _) rfl rfl) ?_
  refine TS.eff ?_
  (refine TSo.ew rfl (Wt.none rfl) rfl rfl (Ew.boxA rfl rfl) ?_; rintro _ _ ⟨g27, rfl, rfl⟩; refine ⟨(by repeat (first | exact List.Sublist.refl _ | exact List.nil_sublist _ | refine List.Sublist.cons_cons _ ?_ | refine List.Sublist.cons _ ?_)), ?_⟩)
  refine TS.still rfl (Wt.none rfl) rfl rfl (Yv.pur rfl) ?_
  refine TS.done ?_
  refine K.seq ?_
  refine T.cut (gs := [(1, .pointer (some ⟨g1, 0, none⟩)), (4, .pointer (some ⟨g27, 0, none⟩))]) (hs' := [.row g27 101 (tcells (sV q1 P.ds.length) (cellsK 512 (ixAt P.ds P.ds.length)) (totAt P.ds P.ds.length) (sV q3 P.ds.length) (sV q5 P.ds.length) (sV q7 P.ds.length) (sV q9 P.ds.length)), .sl (sV q1 P.ds.length) 3 1 P.ds.length (fillL (fun j => .int .i64 (nth P.ds j).st) (.int .i64 0) P.ds.length P.ds.length), .sl (sV q3 P.ds.length) 23 1 P.ds.length ((List.range P.ds.length).map (fun _ => .slice none 0 0)), .sl (sV q5 P.ds.length) 25 1 P.ds.length ((List.range P.ds.length).map (fun _ => .slice none 0 0)), .sl (sV q7 P.ds.length) 24 1 P.ds.length ((List.range P.ds.length).map (fun _ => .slice none 0 0)), .sl (sV q9 P.ds.length) 24 1 P.ds.length ((List.range P.ds.length).map (fun _ => .slice none 0 0)), .row g1 29 [.slice A P.ds.length cap, .slice A1 P.ps.length cap1, .slice A2 P.ls.length cap2, .slice A3 P.cs.length cap3]]) ?_ ?_
  · skip
    refine T.seq ?_
    simp only [made_one (.slice none 0 0), fill_map]
    rw [made_one (.int .i64 0)]
    refine T.region ?_
    refine TL.yv (Wt.none rfl) rfl rfl (Yv.fieldAddr rfl rfl) ?_
    refine TL.yv (Wt.none rfl) rfl rfl (Yv.loadO 6 rfl rfl rfl rfl) ?_
    refine TL.yv (Wt.none rfl) rfl rfl (Yv.lenSl rfl rfl) ?_
    refine TL.yv (Wt.none rfl) rfl rfl (Yv.pur rfl) ?_
    refine TL.nil ?_
    refine K.seq ?_
    refine T.block ?_
    refine T.loop (ι := Nat) (fun k => [(1, .pointer (some ⟨g1, 0, none⟩)), (4, .pointer (some ⟨g27, 0, none⟩)), (29, .slice A P.ds.length cap), (30, .int .i64 (P.ds.length : Int)), (31, .int .i64 (k : Int))]) (fun k => [.row g27 101 (tcells (sV q1 P.ds.length) (cellsK 512 (ixAt P.ds k)) (totAt P.ds k) (sV q3 P.ds.length) (sV q5 P.ds.length) (sV q7 P.ds.length) (sV q9 P.ds.length)), .sl (sV q1 P.ds.length) 3 1 P.ds.length (fillL (fun j => .int .i64 (nth P.ds j).st) (.int .i64 0) P.ds.length k), .sl (sV q3 P.ds.length) 23 1 P.ds.length ((List.range P.ds.length).map (fun _ => .slice none 0 0)), .sl (sV q5 P.ds.length) 25 1 P.ds.length ((List.range P.ds.length).map (fun _ => .slice none 0 0)), .sl (sV q7 P.ds.length) 24 1 P.ds.length ((List.range P.ds.length).map (fun _ => .slice none 0 0)), .sl (sV q9 P.ds.length) 24 1 P.ds.length ((List.range P.ds.length).map (fun _ => .slice none 0 0)), .row g1 29 [.slice A P.ds.length cap, .slice A1 P.ps.length cap1, .slice A2 P.ls.length cap2, .slice A3 P.cs.length cap3]]) (fun k => k ≤ P.ds.length) (fun k => P.ds.length - k) 0 ?_ ?_ ?_ ?_
    · omega
    · exact (by repeat (first | exact Sub.nil | refine Sub.cons rfl ?_))
    · exact (by repeat (first | exact List.Sublist.refl _ | exact List.nil_sublist _ | refine List.Sublist.cons_cons _ ?_ | refine List.Sublist.cons _ ?_))
    · intro k hphi
      refine T.seq ?_
      refine T.region ?_
      refine TL.yv (Wt.none rfl) rfl rfl (Yv.pur rfl) ?_
      refine TL.nil ?_
      refine K.seq ?_
      refine T.seq ?_
      refine T.cond rfl (fun h1 => ?_) (fun h1 => ?_)
      · have p1 := h1
        try simp only [decide_eq_true_eq, decide_eq_false_iff_not, Int.not_lt, Int.not_le, Bool.not_eq_true', Bool.not_eq_false', Decidable.not_not, Bool.and_eq_true, Bool.or_eq_true, Bool.and_eq_false_iff, Bool.or_eq_false_iff] at p1
        obtain ⟨g, off, rfl, hc⟩ := hsl (by omega)
        have hk := hc k (by omega)
        obtain ⟨Ad, capd, hvd, -⟩ := (h.ds.at (k := k) (by omega)).op
        simp only [Dx.cells, hvd] at hk
        have hst := hG.st _ (nth_mem (xs := P.ds) (k := k) (by omega))
        have hchs := (hG.chs _ (nth_mem (xs := P.ds) (k := k) (by omega))).1
        have htot := tot_le hG k (by omega)
        have hix := cellsK_len (N := 512) (f := ixAt P.ds k)
        have hix1 := cellsK_len (N := 512) (f := ixAt P.ds (k + 1))
        refine T.skip ?_
        refine K.seq ?_
        refine T.seq ?_
        refine T.block ?_
        refine T.seq ?_
        refine T.region ?_
        refine TL.yv (Wt.none rfl) rfl rfl (Yv.pur rfl) ?_
        refine TL.yv (Wt.none rfl) rfl rfl (Yv.indexSl rfl rfl rfl rfl (by omega)) ?_
        refine TL.yv (Wt.none rfl) rfl rfl (Yv.loadAB rfl rfl hk rfl (fun h => h)) ?_
        (refine TL.ew (Wt.none rfl) rfl rfl (Ew.alloc rfl) ?_; rintro _ _ ⟨g6, rfl, rfl⟩)
        refine TL.yv (Wt.none rfl) rfl rfl (Yv.pur rfl) ?_
        (refine TL.ew0 (Wt.none rfl) rfl (Ew.storeAll 0 rfl rfl rfl rfl rfl rfl) ?_; rintro _ _ ⟨rfl, rfl⟩)
        refine TL.nil ?_
        refine K.seq ?_
        refine T.seq ?_
        refine T.draw (.still 0 (.still 1 (.still 2 (.still 3 (.still 4 (.still 5 (.still 6 (.still 7 (.eff 8 .done))))))))) (List.eraseIdx _ 2) (by kernel_rfl) (List.eraseIdx_sublist _ _) ?_
        refine TS.still rfl (Wt.none rfl) rfl rfl (Yv.pur rfl) ?_
        refine TS.still rfl (Wt.none rfl) rfl rfl (Yv.pur rfl) ?_
        refine TS.still rfl (Wt.none rfl) rfl rfl (Yv.fieldAddr rfl rfl) ?_
        refine TS.still rfl (Wt.none rfl) rfl rfl (Yv.loadO 1 rfl rfl rfl rfl) ?_
        refine TS.still rfl (Wt.none rfl) rfl rfl (Yv.pur rfl) ?_
        refine TS.still rfl (Wt.none rfl) rfl rfl (Yv.fieldAddr rfl rfl) ?_
        refine TS.still rfl (Wt.none rfl) rfl rfl (Yv.loadO 0 rfl rfl rfl rfl) ?_
        refine TS.still rfl (Wt.none rfl) rfl rfl (Yv.indexSl rfl rfl rfl rfl (by omega)) ?_
        refine TS.eff ?_
        (refine TSo.ew0 rfl (Wt.none rfl) rfl (Ew.storeSE 2 (fillL (fun j => .int .i64 (nth P.ds j).st) (.int .i64 0) P.ds.length (k + 1)) rfl rfl rfl rfl (by rw [fillL_len (by omega)]; omega) (fillL_set (by omega) (by omega))) ?_; rintro _ _ ⟨rfl, rfl⟩; refine ⟨(by repeat (first | exact List.Sublist.refl _ | exact List.nil_sublist _ | refine List.Sublist.cons_cons _ ?_ | refine List.Sublist.cons _ ?_)), ?_⟩)
        refine TS.done ?_
        refine K.seq ?_
        refine T.seq ?_
        refine T.draw (.still 0 (.still 1 (.still 2 (.still 3 (.still 4 (.still 5 (.still 6 (.still 7 (.eff 8 .done))))))))) (List.eraseIdx _ 1) (by kernel_rfl) (List.eraseIdx_sublist _ _) ?_
        refine TS.still rfl (Wt.none rfl) rfl rfl (Yv.pur rfl) ?_
        refine TS.still rfl (Wt.none rfl) rfl rfl (Yv.fieldAddr rfl rfl) ?_
        refine TS.still rfl (Wt.none rfl) rfl rfl (Yv.loadO 0 rfl rfl rfl rfl) ?_
        refine TS.still rfl (Wt.none rfl) rfl rfl (Yv.pur rfl) ?_
        refine TS.still rfl (Wt.none rfl) rfl rfl (Yv.addI rfl rfl rfl (by omega)) ?_
        refine TS.still rfl (Wt.none rfl) rfl rfl (Yv.pur rfl) ?_
        refine TS.still rfl (Wt.none rfl) rfl rfl (Yv.fieldAddr rfl rfl) ?_
        refine TS.still rfl (Wt.none rfl) rfl rfl (Yv.indexAr rfl rfl rfl (show (nth P.ds k).st = (((nth P.ds k).st.toNat : Nat) : Int) from by omega) (by omega)) ?_
        refine TS.eff ?_
        (refine TSo.ew0 rfl (Wt.none rfl) rfl (Ew.storeR 1 (tcells (sV q1 P.ds.length) (cellsK 512 (ixAt P.ds (k + 1))) (totAt P.ds k) (sV q3 P.ds.length) (sV q5 P.ds.length) (sV q7 P.ds.length) (sV q9 P.ds.length)) rfl rfl rfl rfl (by rw [tcells_len hix]; omega) (by rw [tcells_setix hix (j := (nth P.ds k).st.toNat) (by omega) (by omega), cellsK_set (f' := ixAt P.ds (k + 1)) (d := (nth P.ds k).st.toNat) rfl (by omega) (by show (if _ = _ then (k : Int) + 1 else _) = _; rw [if_pos rfl]) (fun e he => by show (if _ = _ then (k : Int) + 1 else _) = _; rw [if_neg he])])) ?_; rintro _ _ ⟨rfl, rfl⟩; refine ⟨(by repeat (first | exact List.Sublist.refl _ | exact List.nil_sublist _ | refine List.Sublist.cons_cons _ ?_ | refine List.Sublist.cons _ ?_)), ?_⟩)
        refine TS.done ?_
        refine K.seq ?_
        refine T.draw (.still 0 (.still 1 (.still 2 (.still 4 (.still 5 (.still 6 (.eff 3 (.still 7 (.still 8 (.still 9 (.eff 10 .done))))))))))) (List.eraseIdx _ 1) (by kernel_rfl) (List.eraseIdx_sublist _ _) ?_
        refine TS.still rfl (Wt.none rfl) rfl rfl (Yv.pur rfl) ?_
        refine TS.still rfl (Wt.none rfl) rfl rfl (Yv.pur rfl) ?_
        refine TS.still rfl (Wt.none rfl) rfl rfl (Yv.fieldAddr rfl rfl) ?_
        refine TS.still rfl (Wt.none rfl) rfl rfl (Yv.fieldAddr rfl rfl) ?_
        refine TS.still rfl (Wt.none rfl) rfl rfl (Yv.loadO 0 rfl rfl rfl rfl) ?_
        refine TS.still rfl (Wt.none rfl) rfl rfl (Yv.lenSl rfl rfl) ?_
        refine TS.eff ?_
        refine TSo.yv rfl (Wt.none rfl) rfl rfl (Yv.loadO 1 rfl rfl rfl (tcells_hi hix1 (j := 0) (by omega))) (by repeat (first | exact List.Sublist.refl _ | exact List.nil_sublist _ | refine List.Sublist.cons_cons _ ?_ | refine List.Sublist.cons _ ?_)) ?_
        refine TS.still rfl (Wt.none rfl) rfl rfl (Yv.addI rfl rfl rfl (by omega)) ?_
        refine TS.still rfl (Wt.none rfl) rfl rfl (Yv.pur rfl) ?_
        refine TS.still rfl (Wt.none rfl) rfl rfl (Yv.fieldAddr rfl rfl) ?_
        refine TS.eff ?_
        (refine TSo.ew0 rfl (Wt.none rfl) rfl (Ew.storeR 1 (tcells (sV q1 P.ds.length) (cellsK 512 (ixAt P.ds (k + 1))) (totAt P.ds (k + 1)) (sV q3 P.ds.length) (sV q5 P.ds.length) (sV q7 P.ds.length) (sV q9 P.ds.length)) rfl rfl rfl rfl (by rw [tcells_len hix1]; omega) (by rw [tcells_settot hix1 (by omega)]; rfl)) ?_; rintro _ _ ⟨rfl, rfl⟩; refine ⟨(by repeat (first | exact List.Sublist.refl _ | exact List.nil_sublist _ | refine List.Sublist.cons_cons _ ?_ | refine List.Sublist.cons _ ?_)), ?_⟩)
        refine TS.done ?_
        refine K.blk_normal ?_
        refine K.seq ?_
        refine T.region ?_
        refine TL.yv (Wt.none rfl) rfl rfl (Yv.addI rfl rfl rfl (by omega)) ?_
        refine TL.yv (Wt.none rfl) rfl rfl (Yv.pur rfl) ?_
        refine TL.nil ?_
        exact K.next (k + 1) (by omega) (by omega) (by repeat (first | exact Sub.nil | refine Sub.cons rfl ?_)) (by repeat (first | exact List.Sublist.refl _ | exact List.nil_sublist _ | refine List.Sublist.cons_cons _ ?_ | refine List.Sublist.cons _ ?_))
      · have p1 := h1
        try simp only [decide_eq_true_eq, decide_eq_false_iff_not, Int.not_lt, Int.not_le, Bool.not_eq_true', Bool.not_eq_false', Decidable.not_not, Bool.and_eq_true, Bool.or_eq_true, Bool.and_eq_false_iff, Bool.or_eq_false_iff] at p1
        refine T.exit ?_
        refine K.then_exit ?_
        refine K.then_exit ?_
        refine K.blk_exit_eq ?_
        obtain rfl : k = P.ds.length := by omega
        exact K.at (by repeat (first | exact Sub.nil | refine Sub.cons rfl ?_)) (by repeat (first | exact List.Sublist.refl _ | exact List.nil_sublist _ | refine List.Sublist.cons_cons _ ?_ | refine List.Sublist.cons _ ?_))
  · skip
    refine T.cutX (ι := Nat → Value) (fun y => [(1, .pointer (some ⟨g1, 0, none⟩)), (4, .pointer (some ⟨g27, 0, none⟩))]) (fun y => [Ent.bag (ents 84 5 P.ds.length y Pr.cells (P.psA P.ps.length)), Ent.bag (ents 88 4 P.ds.length (fun _ => .slice none 0 0) Cp.cells (P.csA 0)), Ent.bag (ents 86 5 P.ds.length (fun _ => .slice none 0 0) Ld.cells (P.inA 0)), Ent.bag (ents 86 5 P.ds.length (fun _ => .slice none 0 0) Ld.cells (P.ouA 0)), .row g27 101 (tcells (sV q1 P.ds.length) (cellsK 512 (ixAt P.ds P.ds.length)) (totAt P.ds P.ds.length) (sV q3 P.ds.length) (sV q5 P.ds.length) (sV q7 P.ds.length) (sV q9 P.ds.length)), .sl (sV q1 P.ds.length) 3 1 P.ds.length (fillL (fun j => .int .i64 (nth P.ds j).st) (.int .i64 0) P.ds.length P.ds.length), .sl (sV q3 P.ds.length) 23 1 P.ds.length ((List.range P.ds.length).map y), .sl (sV q5 P.ds.length) 25 1 P.ds.length ((List.range P.ds.length).map (fun _ => .slice none 0 0)), .sl (sV q7 P.ds.length) 24 1 P.ds.length ((List.range P.ds.length).map (fun _ => .slice none 0 0)), .sl (sV q9 P.ds.length) 24 1 P.ds.length ((List.range P.ds.length).map (fun _ => .slice none 0 0)), .row g1 29 [.slice A P.ds.length cap, .slice A1 P.ps.length cap1, .slice A2 P.ls.length cap2, .slice A3 P.cs.length cap3]]) (fun y => True) ?_ ?_
    · skip
      refine T.seq ?_
      refine T.bag0 (ents 86 5 P.ds.length (fun _ => .slice none 0 0) Ld.cells (P.ouA 0)) (ents0 (fun _ => rfl)).1 (ents0 (fun _ => rfl)).2 ?_
      refine T.bag0 (ents 86 5 P.ds.length (fun _ => .slice none 0 0) Ld.cells (P.inA 0)) (ents0 (fun _ => rfl)).1 (ents0 (fun _ => rfl)).2 ?_
      refine T.bag0 (ents 88 4 P.ds.length (fun _ => .slice none 0 0) Cp.cells (P.csA 0)) (ents0 (fun _ => rfl)).1 (ents0 (fun _ => rfl)).2 ?_
      refine T.bag0 (ents 84 5 P.ds.length (fun _ => .slice none 0 0) Pr.cells (P.psA 0)) (ents0 (fun _ => rfl)).1 (ents0 (fun _ => rfl)).2 ?_
      refine T.region ?_
      refine TL.yv (Wt.none rfl) rfl rfl (Yv.fieldAddr rfl rfl) ?_
      refine TL.yv (Wt.none rfl) rfl rfl (Yv.fieldAddr rfl rfl) ?_
      refine TL.yv (Wt.none rfl) rfl rfl (Yv.loadO 10 rfl rfl rfl rfl) ?_
      refine TL.yv (Wt.none rfl) rfl rfl (Yv.lenSl rfl rfl) ?_
      refine TL.yv (Wt.none rfl) rfl rfl (Yv.pur rfl) ?_
      refine TL.nil ?_
      refine K.seq ?_
      refine T.block ?_
      refine T.loop (ι := Nat × (Nat → Value)) (fun x => [(1, .pointer (some ⟨g1, 0, none⟩)), (4, .pointer (some ⟨g27, 0, none⟩)), (65, .slice A1 P.ps.length cap1), (66, .int .i64 (P.ps.length : Int)), (67, .int .i64 (x.1 : Int))]) (fun x => [Ent.bag (ents 84 5 P.ds.length x.2 Pr.cells (P.psA x.1)), Ent.bag (ents 88 4 P.ds.length (fun _ => .slice none 0 0) Cp.cells (P.csA 0)), Ent.bag (ents 86 5 P.ds.length (fun _ => .slice none 0 0) Ld.cells (P.inA 0)), Ent.bag (ents 86 5 P.ds.length (fun _ => .slice none 0 0) Ld.cells (P.ouA 0)), .row g27 101 (tcells (sV q1 P.ds.length) (cellsK 512 (ixAt P.ds P.ds.length)) (totAt P.ds P.ds.length) (sV q3 P.ds.length) (sV q5 P.ds.length) (sV q7 P.ds.length) (sV q9 P.ds.length)), .sl (sV q1 P.ds.length) 3 1 P.ds.length (fillL (fun j => .int .i64 (nth P.ds j).st) (.int .i64 0) P.ds.length P.ds.length), .sl (sV q3 P.ds.length) 23 1 P.ds.length ((List.range P.ds.length).map x.2), .sl (sV q5 P.ds.length) 25 1 P.ds.length ((List.range P.ds.length).map (fun _ => .slice none 0 0)), .sl (sV q7 P.ds.length) 24 1 P.ds.length ((List.range P.ds.length).map (fun _ => .slice none 0 0)), .sl (sV q9 P.ds.length) 24 1 P.ds.length ((List.range P.ds.length).map (fun _ => .slice none 0 0)), .row g1 29 [.slice A P.ds.length cap, .slice A1 P.ps.length cap1, .slice A2 P.ls.length cap2, .slice A3 P.cs.length cap3]]) (fun x => x.1 ≤ P.ps.length) (fun x => P.ps.length - x.1) (0, (fun _ => .slice none 0 0)) ?_ ?_ ?_ ?_
      · exact Nat.zero_le _
      · exact (by repeat (first | exact Sub.nil | refine Sub.cons rfl ?_))
      · exact (by repeat (first | exact List.Sublist.refl _ | exact List.nil_sublist _ | refine List.Sublist.cons_cons _ ?_ | refine List.Sublist.cons _ ?_))
      · intro x hphi
        obtain ⟨k, va⟩ := x
        dsimp only at hphi ⊢
        refine T.seq ?_
        refine T.region ?_
        refine TL.yv (Wt.none rfl) rfl rfl (Yv.pur rfl) ?_
        refine TL.nil ?_
        refine K.seq ?_
        refine T.seq ?_
        refine T.cond rfl (fun h2 => ?_) (fun h2 => ?_)
        · have p2 := h2
          try simp only [decide_eq_true_eq, decide_eq_false_iff_not, Int.not_lt, Int.not_le, Bool.not_eq_true', Bool.not_eq_false', Decidable.not_not, Bool.and_eq_true, Bool.or_eq_true, Bool.and_eq_false_iff, Bool.or_eq_false_iff] at p2
          obtain ⟨g, off, rfl, hc⟩ := hsl1 (by omega)
          have hk := hc k (by omega)
          simp only [Pr.cells] at hk
          have hr := hG.ps _ (nth_mem (xs := P.ps) (k := k) (by omega))
          obtain ⟨hxo, ⟨ia, hia, hea⟩, ib, hib, heb⟩ := hr
          simp only [Pr.ok, inB, rngB, Bool.and_eq_true, decide_eq_true_eq] at hxo
          have ha : P.ix (nth P.ps k).a = (ia : Int) := by rw [hea]; exact Pb.ix_of hG hia
          have hta : (tcells (sV q1 P.ds.length) (cellsK 512 (ixAt P.ds P.ds.length)) (totAt P.ds P.ds.length) (sV q3 P.ds.length) (sV q5 P.ds.length) (sV q7 P.ds.length) (sV q9 P.ds.length))[0 + 1 + (nth P.ps k).a.toNat * 1]? = some (.int .i64 ((ia : Int) + 1)) := tix (by omega) (by omega) (ix_raw ha)
          have hb : P.ix (nth P.ps k).b = (ib : Int) := by rw [heb]; exact Pb.ix_of hG hib
          have htb : (tcells (sV q1 P.ds.length) (cellsK 512 (ixAt P.ds P.ds.length)) (totAt P.ds P.ds.length) (sV q3 P.ds.length) (sV q5 P.ds.length) (sV q7 P.ds.length) (sV q9 P.ds.length))[0 + 1 + (nth P.ps k).b.toNat * 1]? = some (.int .i64 ((ib : Int) + 1)) := tix (by omega) (by omega) (ix_raw hb)
          have hab : ia ≠ ib := by rintro rfl; omega
          have hcell : Pr.cells (P.rp (nth P.ps k)) = [.int .i64 ((ia : Int) + 1 - 1), .int .i64 ((ib : Int) + 1 - 1), .int .i64 (nth P.ps k).off, .int .i64 (nth P.ps k).lo, .int .i64 (nth P.ps k).hi] := by simp [Pr.cells, Pb.rp, ha, hb]
          refine T.skip ?_
          refine K.seq ?_
          refine T.cutX (ι := Nat → Value) (fun u2 => [(1, .pointer (some ⟨g1, 0, none⟩)), (4, .pointer (some ⟨g27, 0, none⟩)), (65, .slice (some ⟨g, off, none⟩) P.ps.length cap1), (66, .int .i64 (P.ps.length : Int)), (67, .int .i64 (k : Int))]) (fun u2 => [Ent.bag (ents 84 5 P.ds.length u2 Pr.cells (P.psA (k + 1))), Ent.bag (ents 88 4 P.ds.length (fun _ => .slice none 0 0) Cp.cells (P.csA 0)), Ent.bag (ents 86 5 P.ds.length (fun _ => .slice none 0 0) Ld.cells (P.inA 0)), Ent.bag (ents 86 5 P.ds.length (fun _ => .slice none 0 0) Ld.cells (P.ouA 0)), .row g27 101 (tcells (sV q1 P.ds.length) (cellsK 512 (ixAt P.ds P.ds.length)) (totAt P.ds P.ds.length) (sV q3 P.ds.length) (sV q5 P.ds.length) (sV q7 P.ds.length) (sV q9 P.ds.length)), .sl (sV q1 P.ds.length) 3 1 P.ds.length (fillL (fun j => .int .i64 (nth P.ds j).st) (.int .i64 0) P.ds.length P.ds.length), .sl (sV q3 P.ds.length) 23 1 P.ds.length ((List.range P.ds.length).map u2), .sl (sV q5 P.ds.length) 25 1 P.ds.length ((List.range P.ds.length).map (fun _ => .slice none 0 0)), .sl (sV q7 P.ds.length) 24 1 P.ds.length ((List.range P.ds.length).map (fun _ => .slice none 0 0)), .sl (sV q9 P.ds.length) 24 1 P.ds.length ((List.range P.ds.length).map (fun _ => .slice none 0 0)), .row g1 29 [.slice A P.ds.length cap, .slice (some ⟨g, off, none⟩) P.ps.length cap1, .slice A2 P.ls.length cap2, .slice A3 P.cs.length cap3]]) (fun u2 => True) ?_ ?_
          · skip
            refine T.block ?_
            refine T.seq ?_
            refine T.region ?_
            refine TL.yv (Wt.none rfl) rfl rfl (Yv.indexSl rfl rfl rfl rfl (by omega)) ?_
            refine TL.yv (Wt.none rfl) rfl rfl (Yv.loadAB rfl rfl hk rfl (fun h => h)) ?_
            (refine TL.ew (Wt.none rfl) rfl rfl (Ew.alloc rfl) ?_; rintro _ _ ⟨g8, rfl, rfl⟩)
            (refine TL.ew0 (Wt.none rfl) rfl (Ew.storeAll 0 rfl rfl rfl rfl rfl rfl) ?_; rintro _ _ ⟨rfl, rfl⟩)
            refine TL.nil ?_
            refine K.seq ?_
            refine T.cut (gs := [(1, .pointer (some ⟨g1, 0, none⟩)), (4, .pointer (some ⟨g27, 0, none⟩)), (65, .slice (some ⟨g, off, none⟩) P.ps.length cap1), (66, .int .i64 (P.ps.length : Int)), (67, .int .i64 (k : Int)), (8, .pointer (some ⟨g8, 0, none⟩))]) (hs' := [.row g8 84 [.int .i64 ((ia : Int) + 1 - 1), .int .i64 ((ib : Int) + 1 - 1), .int .i64 ((nth P.ps k).off), .int .i64 ((nth P.ps k).lo), .int .i64 ((nth P.ps k).hi)], Ent.bag (ents 84 5 P.ds.length va Pr.cells (P.psA k)), Ent.bag (ents 88 4 P.ds.length (fun _ => .slice none 0 0) Cp.cells (P.csA 0)), Ent.bag (ents 86 5 P.ds.length (fun _ => .slice none 0 0) Ld.cells (P.inA 0)), Ent.bag (ents 86 5 P.ds.length (fun _ => .slice none 0 0) Ld.cells (P.ouA 0)), .row g27 101 (tcells (sV q1 P.ds.length) (cellsK 512 (ixAt P.ds P.ds.length)) (totAt P.ds P.ds.length) (sV q3 P.ds.length) (sV q5 P.ds.length) (sV q7 P.ds.length) (sV q9 P.ds.length)), .sl (sV q1 P.ds.length) 3 1 P.ds.length (fillL (fun j => .int .i64 (nth P.ds j).st) (.int .i64 0) P.ds.length P.ds.length), .sl (sV q3 P.ds.length) 23 1 P.ds.length ((List.range P.ds.length).map va), .sl (sV q5 P.ds.length) 25 1 P.ds.length ((List.range P.ds.length).map (fun _ => .slice none 0 0)), .sl (sV q7 P.ds.length) 24 1 P.ds.length ((List.range P.ds.length).map (fun _ => .slice none 0 0)), .sl (sV q9 P.ds.length) 24 1 P.ds.length ((List.range P.ds.length).map (fun _ => .slice none 0 0)), .row g1 29 [.slice A P.ds.length cap, .slice (some ⟨g, off, none⟩) P.ps.length cap1, .slice A2 P.ls.length cap2, .slice A3 P.cs.length cap3]]) ?_ ?_
            · skip
              refine T.draw (.still 0 (.still 1 (.still 3 (.still 4 (.still 8 (.still 9 (.still 11 (.still 12 (.two 2 10 (.still 5 (.still 6 (.still 7 (.eff 10 (.still 13 (.still 14 (.still 15 (.still 16 (.eff 17 (.still 18 (.eff 19 .done))))))))))) (.still 13 (.still 14 (.still 15 (.eff 2 (.still 5 (.still 6 (.still 7 (.still 16 (.eff 17 (.still 18 (.eff 19 .done)))))))))))))))))))) (List.eraseIdx _ 0) (by kernel_rfl) (List.eraseIdx_sublist _ _) ?_
              refine TS.still rfl (Wt.none rfl) rfl rfl (Yv.pur rfl) ?_
              refine TS.still rfl (Wt.none rfl) rfl rfl (Yv.fieldAddr rfl rfl) ?_
              refine TS.still rfl (Wt.none rfl) rfl rfl (Yv.pur rfl) ?_
              refine TS.still rfl (Wt.none rfl) rfl rfl (Yv.fieldAddr rfl rfl) ?_
              refine TS.still rfl (Wt.none rfl) rfl rfl (Yv.pur rfl) ?_
              refine TS.still rfl (Wt.none rfl) rfl rfl (Yv.fieldAddr rfl rfl) ?_
              refine TS.still rfl (Wt.none rfl) rfl rfl (Yv.pur rfl) ?_
              refine TS.still rfl (Wt.none rfl) rfl rfl (Yv.fieldAddr rfl rfl) ?_
              refine TS.two ?_ ?_
              · skip
                refine TSo.yv rfl (Wt.none rfl) rfl rfl (Yv.loadO 0 rfl rfl rfl rfl) (by repeat (first | exact List.Sublist.refl _ | exact List.nil_sublist _ | refine List.Sublist.cons_cons _ ?_ | refine List.Sublist.cons _ ?_)) ?_
                refine TS.still rfl (Wt.none rfl) rfl rfl (Yv.indexAr rfl rfl rfl (show (nth P.ps k).a = (((nth P.ps k).a.toNat : Nat) : Int) from by omega) (by omega)) ?_
                refine TS.still rfl (Wt.none rfl) rfl rfl (Yv.loadO 4 rfl rfl rfl hta) ?_
                refine TS.still rfl (Wt.none rfl) rfl rfl (Yv.subI rfl rfl rfl (by omega)) ?_
                refine TS.eff ?_
                refine TSo.yv rfl (Wt.none rfl) rfl rfl (Yv.loadO 0 rfl rfl rfl rfl) (by repeat (first | exact List.Sublist.refl _ | exact List.nil_sublist _ | refine List.Sublist.cons_cons _ ?_ | refine List.Sublist.cons _ ?_)) ?_
                refine TS.still rfl (Wt.none rfl) rfl rfl (Yv.indexAr rfl rfl rfl (show (nth P.ps k).b = (((nth P.ps k).b.toNat : Nat) : Int) from by omega) (by omega)) ?_
                refine TS.still rfl (Wt.none rfl) rfl rfl (Yv.loadO 4 rfl rfl rfl htb) ?_
                refine TS.still rfl (Wt.none rfl) rfl rfl (Yv.subI rfl rfl rfl (by omega)) ?_
                refine TS.still rfl (Wt.none rfl) rfl rfl (Yv.fieldAddr rfl rfl) ?_
                refine TS.eff ?_
                (refine TSo.ew0 rfl (Wt.none rfl) rfl (Ew.store1 0 rfl rfl rfl rfl (by first | omega | simp)) ?_; rintro _ _ ⟨rfl, rfl⟩; refine ⟨(by repeat (first | exact List.Sublist.refl _ | exact List.nil_sublist _ | refine List.Sublist.cons_cons _ ?_ | refine List.Sublist.cons _ ?_)), ?_⟩)
                refine TS.still rfl (Wt.none rfl) rfl rfl (Yv.fieldAddr rfl rfl) ?_
                refine TS.eff ?_
                (refine TSo.ew0 rfl (Wt.none rfl) rfl (Ew.store1 0 rfl rfl rfl rfl (by first | omega | simp)) ?_; rintro _ _ ⟨rfl, rfl⟩; refine ⟨(by repeat (first | exact List.Sublist.refl _ | exact List.nil_sublist _ | refine List.Sublist.cons_cons _ ?_ | refine List.Sublist.cons _ ?_)), ?_⟩)
                refine TS.done ?_
                exact K.at (by repeat (first | exact Sub.nil | refine Sub.cons rfl ?_)) (by repeat (first | exact List.Sublist.refl _ | exact List.nil_sublist _ | refine List.Sublist.cons_cons _ ?_ | refine List.Sublist.cons _ ?_))
              · skip
                refine TSo.yv rfl (Wt.none rfl) rfl rfl (Yv.loadO 0 rfl rfl rfl rfl) (by repeat (first | exact List.Sublist.refl _ | exact List.nil_sublist _ | refine List.Sublist.cons_cons _ ?_ | refine List.Sublist.cons _ ?_)) ?_
                refine TS.still rfl (Wt.none rfl) rfl rfl (Yv.indexAr rfl rfl rfl (show (nth P.ps k).b = (((nth P.ps k).b.toNat : Nat) : Int) from by omega) (by omega)) ?_
                refine TS.still rfl (Wt.none rfl) rfl rfl (Yv.loadO 4 rfl rfl rfl htb) ?_
                refine TS.still rfl (Wt.none rfl) rfl rfl (Yv.subI rfl rfl rfl (by omega)) ?_
                refine TS.eff ?_
                refine TSo.yv rfl (Wt.none rfl) rfl rfl (Yv.loadO 0 rfl rfl rfl rfl) (by repeat (first | exact List.Sublist.refl _ | exact List.nil_sublist _ | refine List.Sublist.cons_cons _ ?_ | refine List.Sublist.cons _ ?_)) ?_
                refine TS.still rfl (Wt.none rfl) rfl rfl (Yv.indexAr rfl rfl rfl (show (nth P.ps k).a = (((nth P.ps k).a.toNat : Nat) : Int) from by omega) (by omega)) ?_
                refine TS.still rfl (Wt.none rfl) rfl rfl (Yv.loadO 4 rfl rfl rfl hta) ?_
                refine TS.still rfl (Wt.none rfl) rfl rfl (Yv.subI rfl rfl rfl (by omega)) ?_
                refine TS.still rfl (Wt.none rfl) rfl rfl (Yv.fieldAddr rfl rfl) ?_
                refine TS.eff ?_
                (refine TSo.ew0 rfl (Wt.none rfl) rfl (Ew.store1 0 rfl rfl rfl rfl (by first | omega | simp)) ?_; rintro _ _ ⟨rfl, rfl⟩; refine ⟨(by repeat (first | exact List.Sublist.refl _ | exact List.nil_sublist _ | refine List.Sublist.cons_cons _ ?_ | refine List.Sublist.cons _ ?_)), ?_⟩)
                refine TS.still rfl (Wt.none rfl) rfl rfl (Yv.fieldAddr rfl rfl) ?_
                refine TS.eff ?_
                (refine TSo.ew0 rfl (Wt.none rfl) rfl (Ew.store1 0 rfl rfl rfl rfl (by first | omega | simp)) ?_; rintro _ _ ⟨rfl, rfl⟩; refine ⟨(by repeat (first | exact List.Sublist.refl _ | exact List.nil_sublist _ | refine List.Sublist.cons_cons _ ?_ | refine List.Sublist.cons _ ?_)), ?_⟩)
                refine TS.done ?_
                exact K.at (by repeat (first | exact Sub.nil | refine Sub.cons rfl ?_)) (by repeat (first | exact List.Sublist.refl _ | exact List.nil_sublist _ | refine List.Sublist.cons_cons _ ?_ | refine List.Sublist.cons _ ?_))
            · skip
              refine T.cutX (ι := Nat → Value) (fun u1 => [(1, .pointer (some ⟨g1, 0, none⟩)), (4, .pointer (some ⟨g27, 0, none⟩)), (65, .slice (some ⟨g, off, none⟩) P.ps.length cap1), (66, .int .i64 (P.ps.length : Int)), (67, .int .i64 (k : Int)), (8, .pointer (some ⟨g8, 0, none⟩))]) (fun u1 => [.row g8 84 [.int .i64 ((ia : Int) + 1 - 1), .int .i64 ((ib : Int) + 1 - 1), .int .i64 ((nth P.ps k).off), .int .i64 ((nth P.ps k).lo), .int .i64 ((nth P.ps k).hi)], Ent.bag (ents 84 5 P.ds.length u1 Pr.cells (upd (P.psA k) ia ((P.psA k) ia ++ [P.rp (nth P.ps k)]))), Ent.bag (ents 88 4 P.ds.length (fun _ => .slice none 0 0) Cp.cells (P.csA 0)), Ent.bag (ents 86 5 P.ds.length (fun _ => .slice none 0 0) Ld.cells (P.inA 0)), Ent.bag (ents 86 5 P.ds.length (fun _ => .slice none 0 0) Ld.cells (P.ouA 0)), .row g27 101 (tcells (sV q1 P.ds.length) (cellsK 512 (ixAt P.ds P.ds.length)) (totAt P.ds P.ds.length) (sV q3 P.ds.length) (sV q5 P.ds.length) (sV q7 P.ds.length) (sV q9 P.ds.length)), .sl (sV q1 P.ds.length) 3 1 P.ds.length (fillL (fun j => .int .i64 (nth P.ds j).st) (.int .i64 0) P.ds.length P.ds.length), .sl (sV q3 P.ds.length) 23 1 P.ds.length ((List.range P.ds.length).map u1), .sl (sV q5 P.ds.length) 25 1 P.ds.length ((List.range P.ds.length).map (fun _ => .slice none 0 0)), .sl (sV q7 P.ds.length) 24 1 P.ds.length ((List.range P.ds.length).map (fun _ => .slice none 0 0)), .sl (sV q9 P.ds.length) 24 1 P.ds.length ((List.range P.ds.length).map (fun _ => .slice none 0 0)), .row g1 29 [.slice A P.ds.length cap, .slice (some ⟨g, off, none⟩) P.ps.length cap1, .slice A2 P.ls.length cap2, .slice A3 P.cs.length cap3]]) (fun u1 => True) ?_ ?_
              · skip
                refine T.openB 1 ia rfl (ents_get hia) ?_
                have hvv : ((List.range P.ds.length).map va)[0 + ia * 1]? = some (va ia) := map_get (by omega) hia
                have hlen : ((P.psA k) ia).length ≤ 5000 := Nat.le_trans filt_len (by omega)
                refine T.draw (.still 0 (.still 1 (.still 2 (.still 3 (.still 4 (.still 5 (.still 6 (.still 7 (.still 8 (.still 9 (.still 10 (.still 11 (.still 12 (.still 14 (.two 13 15 (.eff 15 (.eff 16 (.still 17 (.eff 18 .done)))) (.eff 13 (.eff 16 (.still 17 (.eff 18 .done))))))))))))))))))) [.row g8 84 [.int .i64 ((ia : Int) + 1 - 1), .int .i64 ((ib : Int) + 1 - 1), .int .i64 ((nth P.ps k).off), .int .i64 ((nth P.ps k).lo), .int .i64 ((nth P.ps k).hi)], Ent.bag ((ents 84 5 P.ds.length va Pr.cells (P.psA k)).eraseIdx ia), Ent.bag (ents 88 4 P.ds.length (fun _ => .slice none 0 0) Cp.cells (P.csA 0)), Ent.bag (ents 86 5 P.ds.length (fun _ => .slice none 0 0) Ld.cells (P.inA 0)), Ent.bag (ents 86 5 P.ds.length (fun _ => .slice none 0 0) Ld.cells (P.ouA 0)), .row g27 101 (tcells (sV q1 P.ds.length) (cellsK 512 (ixAt P.ds P.ds.length)) (totAt P.ds P.ds.length) (sV q3 P.ds.length) (sV q5 P.ds.length) (sV q7 P.ds.length) (sV q9 P.ds.length)), .sl (sV q1 P.ds.length) 3 1 P.ds.length (fillL (fun j => .int .i64 (nth P.ds j).st) (.int .i64 0) P.ds.length P.ds.length), .sl (sV q5 P.ds.length) 25 1 P.ds.length ((List.range P.ds.length).map (fun _ => .slice none 0 0)), .sl (sV q7 P.ds.length) 24 1 P.ds.length ((List.range P.ds.length).map (fun _ => .slice none 0 0)), .sl (sV q9 P.ds.length) 24 1 P.ds.length ((List.range P.ds.length).map (fun _ => .slice none 0 0)), .row g1 29 [.slice A P.ds.length cap, .slice (some ⟨g, off, none⟩) P.ps.length cap1, .slice A2 P.ls.length cap2, .slice A3 P.cs.length cap3]] (by kernel_rfl) (by repeat (first | exact List.Sublist.refl _ | exact List.nil_sublist _ | refine List.Sublist.cons_cons _ ?_ | refine List.Sublist.cons _ ?_)) ?_
                refine TS.still rfl (Wt.none rfl) rfl rfl (Yv.pur rfl) ?_
                refine TS.still rfl (Wt.none rfl) rfl rfl (Yv.pur rfl) ?_
                refine TS.still rfl (Wt.none rfl) rfl rfl (Yv.fieldAddr rfl rfl) ?_
                refine TS.still rfl (Wt.none rfl) rfl rfl (Yv.loadO 5 rfl rfl rfl (tcells_hi cellsK_len (j := 1) rfl)) ?_
                refine TS.still rfl (Wt.none rfl) rfl rfl (Yv.fieldAddr rfl rfl) ?_
                refine TS.still rfl (Wt.none rfl) rfl rfl (Yv.loadO 0 rfl rfl rfl rfl) ?_
                refine TS.still rfl (Wt.none rfl) rfl rfl (Yv.pur rfl) ?_
                refine TS.still rfl (Wt.none rfl) rfl rfl (Yv.pur rfl) ?_
                refine TS.still rfl (Wt.none rfl) rfl rfl (Yv.fieldAddr rfl rfl) ?_
                refine TS.still rfl (Wt.none rfl) rfl rfl (Yv.loadO 5 rfl rfl rfl (tcells_hi cellsK_len (j := 1) rfl)) ?_
                refine TS.still rfl (Wt.none rfl) rfl rfl (Yv.fieldAddr rfl rfl) ?_
                refine TS.still rfl (Wt.none rfl) rfl rfl (Yv.loadO 0 rfl rfl rfl rfl) ?_
                refine TS.still rfl (Wt.none rfl) rfl rfl (Yv.indexSl rfl rfl rfl (show (ia : Int) + 1 - 1 = ((ia : Nat) : Int) from by omega) (by omega)) ?_
                refine TS.still rfl (Wt.none rfl) rfl rfl (Yv.loadAO 0 rfl rfl rfl rfl) ?_
                refine TS.two ?_ ?_
                · skip
                  refine TSo.yv rfl (Wt.none rfl) rfl rfl (Yv.loadS 8 rfl rfl rfl hvv) (by repeat (first | exact List.Sublist.refl _ | exact List.nil_sublist _ | refine List.Sublist.cons_cons _ ?_ | refine List.Sublist.cons _ ?_)) ?_
                  refine TS.eff ?_
                  (refine TSo.ew rfl (Wt.none rfl) rfl rfl (Ew.buildSlice rfl rfl rfl (by decide)) ?_; rintro _ _ ⟨g104, rfl, rfl⟩; refine ⟨(by repeat (first | exact List.Sublist.refl _ | exact List.nil_sublist _ | refine List.Sublist.cons_cons _ ?_ | refine List.Sublist.cons _ ?_)), ?_⟩)
                  refine TS.eff ?_
                  (refine TSo.ew rfl (Wt.none rfl) rfl rfl (Ew.append 1 0 rfl rfl rfl rfl rfl rfl (by omega) (by omega)) ?_; rintro v105 _ ⟨hv105, rfl⟩; refine ⟨(by repeat (first | exact List.Sublist.refl _ | exact List.nil_sublist _ | refine List.Sublist.cons_cons _ ?_ | refine List.Sublist.cons _ ?_)), ?_⟩)
                  refine TS.still rfl (Wt.none rfl) rfl rfl (Yv.indexSl rfl rfl rfl (show (ia : Int) + 1 - 1 = ((ia : Nat) : Int) from by omega) (by omega)) ?_
                  refine TS.eff ?_
                  (refine TSo.ew0 rfl (Wt.none rfl) rfl (Ew.storeSE 9 ((List.range P.ds.length).map (upd va ia v105)) rfl rfl rfl rfl (by rw [List.length_map, List.length_range]; omega) (map_upd (by omega) hia)) ?_; rintro _ _ ⟨rfl, rfl⟩; refine ⟨(by repeat (first | exact List.Sublist.refl _ | exact List.nil_sublist _ | refine List.Sublist.cons_cons _ ?_ | refine List.Sublist.cons _ ?_)), ?_⟩)
                  refine TS.done ?_
                  refine K.weaken Sub.refl (List.sublist_cons_self _ _) ?_
                  refine K.closeBE 1 ia (ents 84 5 P.ds.length (upd va ia v105) Pr.cells (upd (P.psA k) ia ((P.psA k) ia ++ [P.rp (nth P.ps k)]))) rfl (by rw [ents_len]; exact hia) (by rw [← hcell]; exact ents_set hia) ?_
                  exact K.atX (upd va ia v105) trivial (by repeat (first | exact Sub.nil | refine Sub.cons rfl ?_)) (by repeat (first | exact List.Sublist.refl _ | exact List.nil_sublist _ | refine List.Sublist.cons_cons _ ?_ | refine List.Sublist.cons _ ?_))
                · skip
                  (refine TSo.ew rfl (Wt.none rfl) rfl rfl (Ew.buildSlice rfl rfl rfl (by decide)) ?_; rintro _ _ ⟨g104, rfl, rfl⟩; refine ⟨(by repeat (first | exact List.Sublist.refl _ | exact List.nil_sublist _ | refine List.Sublist.cons_cons _ ?_ | refine List.Sublist.cons _ ?_)), ?_⟩)
                  refine TS.eff ?_
                  refine TSo.yv rfl (Wt.none rfl) rfl rfl (Yv.loadS 9 rfl rfl rfl hvv) (by repeat (first | exact List.Sublist.refl _ | exact List.nil_sublist _ | refine List.Sublist.cons_cons _ ?_ | refine List.Sublist.cons _ ?_)) ?_
                  refine TS.eff ?_
                  (refine TSo.ew rfl (Wt.none rfl) rfl rfl (Ew.append 1 0 rfl rfl rfl rfl rfl rfl (by omega) (by omega)) ?_; rintro v105 _ ⟨hv105, rfl⟩; refine ⟨(by repeat (first | exact List.Sublist.refl _ | exact List.nil_sublist _ | refine List.Sublist.cons_cons _ ?_ | refine List.Sublist.cons _ ?_)), ?_⟩)
                  refine TS.still rfl (Wt.none rfl) rfl rfl (Yv.indexSl rfl rfl rfl (show (ia : Int) + 1 - 1 = ((ia : Nat) : Int) from by omega) (by omega)) ?_
                  refine TS.eff ?_
                  (refine TSo.ew0 rfl (Wt.none rfl) rfl (Ew.storeSE 9 ((List.range P.ds.length).map (upd va ia v105)) rfl rfl rfl rfl (by rw [List.length_map, List.length_range]; omega) (map_upd (by omega) hia)) ?_; rintro _ _ ⟨rfl, rfl⟩; refine ⟨(by repeat (first | exact List.Sublist.refl _ | exact List.nil_sublist _ | refine List.Sublist.cons_cons _ ?_ | refine List.Sublist.cons _ ?_)), ?_⟩)
                  refine TS.done ?_
                  refine K.weaken Sub.refl (List.sublist_cons_self _ _) ?_
                  refine K.closeBE 1 ia (ents 84 5 P.ds.length (upd va ia v105) Pr.cells (upd (P.psA k) ia ((P.psA k) ia ++ [P.rp (nth P.ps k)]))) rfl (by rw [ents_len]; exact hia) (by rw [← hcell]; exact ents_set hia) ?_
                  exact K.atX (upd va ia v105) trivial (by repeat (first | exact Sub.nil | refine Sub.cons rfl ?_)) (by repeat (first | exact List.Sublist.refl _ | exact List.nil_sublist _ | refine List.Sublist.cons_cons _ ?_ | refine List.Sublist.cons _ ?_))
              · skip
                intro u1 hphi
                refine T.openB 1 ib rfl (ents_get hib) ?_
                have hvv : ((List.range P.ds.length).map u1)[0 + ib * 1]? = some (u1 ib) := map_get (by omega) hib
                have hlen : ((upd (P.psA k) ia ((P.psA k) ia ++ [P.rp (nth P.ps k)])) ib).length ≤ 5000 := Nat.le_trans (upd_len (N := P.ps.length) (fun j => filt_len)) (by omega)
                refine T.draw (.still 0 (.still 1 (.still 2 (.still 3 (.still 4 (.still 5 (.still 6 (.still 7 (.still 8 (.still 9 (.still 10 (.still 11 (.still 12 (.still 14 (.two 13 15 (.eff 15 (.eff 16 (.still 17 (.eff 18 .done)))) (.eff 13 (.eff 16 (.still 17 (.eff 18 .done))))))))))))))))))) [.row g8 84 [.int .i64 ((ia : Int) + 1 - 1), .int .i64 ((ib : Int) + 1 - 1), .int .i64 ((nth P.ps k).off), .int .i64 ((nth P.ps k).lo), .int .i64 ((nth P.ps k).hi)], Ent.bag ((ents 84 5 P.ds.length u1 Pr.cells (upd (P.psA k) ia ((P.psA k) ia ++ [P.rp (nth P.ps k)]))).eraseIdx ib), Ent.bag (ents 88 4 P.ds.length (fun _ => .slice none 0 0) Cp.cells (P.csA 0)), Ent.bag (ents 86 5 P.ds.length (fun _ => .slice none 0 0) Ld.cells (P.inA 0)), Ent.bag (ents 86 5 P.ds.length (fun _ => .slice none 0 0) Ld.cells (P.ouA 0)), .row g27 101 (tcells (sV q1 P.ds.length) (cellsK 512 (ixAt P.ds P.ds.length)) (totAt P.ds P.ds.length) (sV q3 P.ds.length) (sV q5 P.ds.length) (sV q7 P.ds.length) (sV q9 P.ds.length)), .sl (sV q1 P.ds.length) 3 1 P.ds.length (fillL (fun j => .int .i64 (nth P.ds j).st) (.int .i64 0) P.ds.length P.ds.length), .sl (sV q5 P.ds.length) 25 1 P.ds.length ((List.range P.ds.length).map (fun _ => .slice none 0 0)), .sl (sV q7 P.ds.length) 24 1 P.ds.length ((List.range P.ds.length).map (fun _ => .slice none 0 0)), .sl (sV q9 P.ds.length) 24 1 P.ds.length ((List.range P.ds.length).map (fun _ => .slice none 0 0)), .row g1 29 [.slice A P.ds.length cap, .slice (some ⟨g, off, none⟩) P.ps.length cap1, .slice A2 P.ls.length cap2, .slice A3 P.cs.length cap3]] (by kernel_rfl) (by repeat (first | exact List.Sublist.refl _ | exact List.nil_sublist _ | refine List.Sublist.cons_cons _ ?_ | refine List.Sublist.cons _ ?_)) ?_
                refine TS.still rfl (Wt.none rfl) rfl rfl (Yv.pur rfl) ?_
                refine TS.still rfl (Wt.none rfl) rfl rfl (Yv.pur rfl) ?_
                refine TS.still rfl (Wt.none rfl) rfl rfl (Yv.fieldAddr rfl rfl) ?_
                refine TS.still rfl (Wt.none rfl) rfl rfl (Yv.loadO 5 rfl rfl rfl (tcells_hi cellsK_len (j := 1) rfl)) ?_
                refine TS.still rfl (Wt.none rfl) rfl rfl (Yv.fieldAddr rfl rfl) ?_
                refine TS.still rfl (Wt.none rfl) rfl rfl (Yv.loadO 0 rfl rfl rfl rfl) ?_
                refine TS.still rfl (Wt.none rfl) rfl rfl (Yv.pur rfl) ?_
                refine TS.still rfl (Wt.none rfl) rfl rfl (Yv.pur rfl) ?_
                refine TS.still rfl (Wt.none rfl) rfl rfl (Yv.fieldAddr rfl rfl) ?_
                refine TS.still rfl (Wt.none rfl) rfl rfl (Yv.loadO 5 rfl rfl rfl (tcells_hi cellsK_len (j := 1) rfl)) ?_
                refine TS.still rfl (Wt.none rfl) rfl rfl (Yv.fieldAddr rfl rfl) ?_
                refine TS.still rfl (Wt.none rfl) rfl rfl (Yv.loadO 0 rfl rfl rfl rfl) ?_
                refine TS.still rfl (Wt.none rfl) rfl rfl (Yv.indexSl rfl rfl rfl (show (ib : Int) + 1 - 1 = ((ib : Nat) : Int) from by omega) (by omega)) ?_
                refine TS.still rfl (Wt.none rfl) rfl rfl (Yv.loadAO 0 rfl rfl rfl rfl) ?_
                refine TS.two ?_ ?_
                · skip
                  refine TSo.yv rfl (Wt.none rfl) rfl rfl (Yv.loadS 8 rfl rfl rfl hvv) (by repeat (first | exact List.Sublist.refl _ | exact List.nil_sublist _ | refine List.Sublist.cons_cons _ ?_ | refine List.Sublist.cons _ ?_)) ?_
                  refine TS.eff ?_
                  (refine TSo.ew rfl (Wt.none rfl) rfl rfl (Ew.buildSlice rfl rfl rfl (by decide)) ?_; rintro _ _ ⟨g122, rfl, rfl⟩; refine ⟨(by repeat (first | exact List.Sublist.refl _ | exact List.nil_sublist _ | refine List.Sublist.cons_cons _ ?_ | refine List.Sublist.cons _ ?_)), ?_⟩)
                  refine TS.eff ?_
                  (refine TSo.ew rfl (Wt.none rfl) rfl rfl (Ew.append 1 0 rfl rfl rfl rfl rfl rfl (by omega) (by omega)) ?_; rintro v123 _ ⟨hv123, rfl⟩; refine ⟨(by repeat (first | exact List.Sublist.refl _ | exact List.nil_sublist _ | refine List.Sublist.cons_cons _ ?_ | refine List.Sublist.cons _ ?_)), ?_⟩)
                  refine TS.still rfl (Wt.none rfl) rfl rfl (Yv.indexSl rfl rfl rfl (show (ib : Int) + 1 - 1 = ((ib : Nat) : Int) from by omega) (by omega)) ?_
                  refine TS.eff ?_
                  (refine TSo.ew0 rfl (Wt.none rfl) rfl (Ew.storeSE 9 ((List.range P.ds.length).map (upd u1 ib v123)) rfl rfl rfl rfl (by rw [List.length_map, List.length_range]; omega) (map_upd (by omega) hib)) ?_; rintro _ _ ⟨rfl, rfl⟩; refine ⟨(by repeat (first | exact List.Sublist.refl _ | exact List.nil_sublist _ | refine List.Sublist.cons_cons _ ?_ | refine List.Sublist.cons _ ?_)), ?_⟩)
                  refine TS.done ?_
                  refine K.blk_normal ?_
                  refine K.weaken Sub.refl (List.sublist_cons_self _ _) ?_
                  refine K.closeBE 1 ib (ents 84 5 P.ds.length (upd u1 ib v123) Pr.cells (P.psA (k + 1))) rfl (by rw [ents_len]; exact hib) (by rw [← hcell, ← psA_step (by omega) ha hb hab]; exact ents_set hib) ?_
                  exact K.atX (upd u1 ib v123) trivial (by repeat (first | exact Sub.nil | refine Sub.cons rfl ?_)) (by repeat (first | exact List.Sublist.refl _ | exact List.nil_sublist _ | refine List.Sublist.cons_cons _ ?_ | refine List.Sublist.cons _ ?_))
                · skip
                  (refine TSo.ew rfl (Wt.none rfl) rfl rfl (Ew.buildSlice rfl rfl rfl (by decide)) ?_; rintro _ _ ⟨g122, rfl, rfl⟩; refine ⟨(by repeat (first | exact List.Sublist.refl _ | exact List.nil_sublist _ | refine List.Sublist.cons_cons _ ?_ | refine List.Sublist.cons _ ?_)), ?_⟩)
                  refine TS.eff ?_
                  refine TSo.yv rfl (Wt.none rfl) rfl rfl (Yv.loadS 9 rfl rfl rfl hvv) (by repeat (first | exact List.Sublist.refl _ | exact List.nil_sublist _ | refine List.Sublist.cons_cons _ ?_ | refine List.Sublist.cons _ ?_)) ?_
                  refine TS.eff ?_
                  (refine TSo.ew rfl (Wt.none rfl) rfl rfl (Ew.append 1 0 rfl rfl rfl rfl rfl rfl (by omega) (by omega)) ?_; rintro v123 _ ⟨hv123, rfl⟩; refine ⟨(by repeat (first | exact List.Sublist.refl _ | exact List.nil_sublist _ | refine List.Sublist.cons_cons _ ?_ | refine List.Sublist.cons _ ?_)), ?_⟩)
                  refine TS.still rfl (Wt.none rfl) rfl rfl (Yv.indexSl rfl rfl rfl (show (ib : Int) + 1 - 1 = ((ib : Nat) : Int) from by omega) (by omega)) ?_
                  refine TS.eff ?_
                  (refine TSo.ew0 rfl (Wt.none rfl) rfl (Ew.storeSE 9 ((List.range P.ds.length).map (upd u1 ib v123)) rfl rfl rfl rfl (by rw [List.length_map, List.length_range]; omega) (map_upd (by omega) hib)) ?_; rintro _ _ ⟨rfl, rfl⟩; refine ⟨(by repeat (first | exact List.Sublist.refl _ | exact List.nil_sublist _ | refine List.Sublist.cons_cons _ ?_ | refine List.Sublist.cons _ ?_)), ?_⟩)
                  refine TS.done ?_
                  refine K.blk_normal ?_
                  refine K.weaken Sub.refl (List.sublist_cons_self _ _) ?_
                  refine K.closeBE 1 ib (ents 84 5 P.ds.length (upd u1 ib v123) Pr.cells (P.psA (k + 1))) rfl (by rw [ents_len]; exact hib) (by rw [← hcell, ← psA_step (by omega) ha hb hab]; exact ents_set hib) ?_
                  exact K.atX (upd u1 ib v123) trivial (by repeat (first | exact Sub.nil | refine Sub.cons rfl ?_)) (by repeat (first | exact List.Sublist.refl _ | exact List.nil_sublist _ | refine List.Sublist.cons_cons _ ?_ | refine List.Sublist.cons _ ?_))
          · skip
            intro u2 hphi
            refine T.region ?_
            refine TL.yv (Wt.none rfl) rfl rfl (Yv.addI rfl rfl rfl (by omega)) ?_
            refine TL.yv (Wt.none rfl) rfl rfl (Yv.pur rfl) ?_
            refine TL.nil ?_
            exact K.next (k + 1, u2) (by dsimp only; omega) (by dsimp only; omega) (by repeat (first | exact Sub.nil | refine Sub.cons rfl ?_)) (by repeat (first | exact List.Sublist.refl _ | exact List.nil_sublist _ | refine List.Sublist.cons_cons _ ?_ | refine List.Sublist.cons _ ?_))
        · have p2 := h2
          try simp only [decide_eq_true_eq, decide_eq_false_iff_not, Int.not_lt, Int.not_le, Bool.not_eq_true', Bool.not_eq_false', Decidable.not_not, Bool.and_eq_true, Bool.or_eq_true, Bool.and_eq_false_iff, Bool.or_eq_false_iff] at p2
          refine T.exit ?_
          refine K.then_exit ?_
          refine K.then_exit ?_
          refine K.blk_exit_eq ?_
          obtain rfl : k = P.ps.length := by omega
          exact K.atX va trivial (by repeat (first | exact Sub.nil | refine Sub.cons rfl ?_)) (by repeat (first | exact List.Sublist.refl _ | exact List.nil_sublist _ | refine List.Sublist.cons_cons _ ?_ | refine List.Sublist.cons _ ?_))
    · skip
      intro y hphi
      obtain ⟨ya2, hya⟩ : ∃ z, z = y := ⟨y, rfl⟩
      subst hya
      refine T.cutX (ι := (Nat → Value) × (Nat → Value)) (fun y => [(1, .pointer (some ⟨g1, 0, none⟩)), (4, .pointer (some ⟨g27, 0, none⟩))]) (fun y => [Ent.bag (ents 84 5 P.ds.length ya2 Pr.cells (P.psA P.ps.length)), Ent.bag (ents 88 4 P.ds.length (fun _ => .slice none 0 0) Cp.cells (P.csA 0)), Ent.bag (ents 86 5 P.ds.length y.1 Ld.cells (P.inA P.ls.length)), Ent.bag (ents 86 5 P.ds.length y.2 Ld.cells (P.ouA P.ls.length)), .row g27 101 (tcells (sV q1 P.ds.length) (cellsK 512 (ixAt P.ds P.ds.length)) (totAt P.ds P.ds.length) (sV q3 P.ds.length) (sV q5 P.ds.length) (sV q7 P.ds.length) (sV q9 P.ds.length)), .sl (sV q1 P.ds.length) 3 1 P.ds.length (fillL (fun j => .int .i64 (nth P.ds j).st) (.int .i64 0) P.ds.length P.ds.length), .sl (sV q3 P.ds.length) 23 1 P.ds.length ((List.range P.ds.length).map ya2), .sl (sV q5 P.ds.length) 25 1 P.ds.length ((List.range P.ds.length).map (fun _ => .slice none 0 0)), .sl (sV q7 P.ds.length) 24 1 P.ds.length ((List.range P.ds.length).map y.1), .sl (sV q9 P.ds.length) 24 1 P.ds.length ((List.range P.ds.length).map y.2), .row g1 29 [.slice A P.ds.length cap, .slice A1 P.ps.length cap1, .slice A2 P.ls.length cap2, .slice A3 P.cs.length cap3]]) (fun y => True) ?_ ?_
      · skip
        refine T.seq ?_
        refine T.region ?_
        refine TL.yv (Wt.none rfl) rfl rfl (Yv.fieldAddr rfl rfl) ?_
        refine TL.yv (Wt.none rfl) rfl rfl (Yv.fieldAddr rfl rfl) ?_
        refine TL.yv (Wt.none rfl) rfl rfl (Yv.loadO 10 rfl rfl rfl rfl) ?_
        refine TL.yv (Wt.none rfl) rfl rfl (Yv.lenSl rfl rfl) ?_
        refine TL.yv (Wt.none rfl) rfl rfl (Yv.pur rfl) ?_
        refine TL.nil ?_
        refine K.seq ?_
        refine T.block ?_
        refine T.loop (ι := Nat × (Nat → Value) × (Nat → Value)) (fun x => [(1, .pointer (some ⟨g1, 0, none⟩)), (4, .pointer (some ⟨g27, 0, none⟩)), (128, .slice A2 P.ls.length cap2), (129, .int .i64 (P.ls.length : Int)), (130, .int .i64 (x.1 : Int))]) (fun x => [Ent.bag (ents 84 5 P.ds.length ya2 Pr.cells (P.psA P.ps.length)), Ent.bag (ents 88 4 P.ds.length (fun _ => .slice none 0 0) Cp.cells (P.csA 0)), Ent.bag (ents 86 5 P.ds.length x.2.1 Ld.cells (P.inA x.1)), Ent.bag (ents 86 5 P.ds.length x.2.2 Ld.cells (P.ouA x.1)), .row g27 101 (tcells (sV q1 P.ds.length) (cellsK 512 (ixAt P.ds P.ds.length)) (totAt P.ds P.ds.length) (sV q3 P.ds.length) (sV q5 P.ds.length) (sV q7 P.ds.length) (sV q9 P.ds.length)), .sl (sV q1 P.ds.length) 3 1 P.ds.length (fillL (fun j => .int .i64 (nth P.ds j).st) (.int .i64 0) P.ds.length P.ds.length), .sl (sV q3 P.ds.length) 23 1 P.ds.length ((List.range P.ds.length).map ya2), .sl (sV q5 P.ds.length) 25 1 P.ds.length ((List.range P.ds.length).map (fun _ => .slice none 0 0)), .sl (sV q7 P.ds.length) 24 1 P.ds.length ((List.range P.ds.length).map x.2.1), .sl (sV q9 P.ds.length) 24 1 P.ds.length ((List.range P.ds.length).map x.2.2), .row g1 29 [.slice A P.ds.length cap, .slice A1 P.ps.length cap1, .slice A2 P.ls.length cap2, .slice A3 P.cs.length cap3]]) (fun x => x.1 ≤ P.ls.length) (fun x => P.ls.length - x.1) (0, (fun _ => .slice none 0 0), (fun _ => .slice none 0 0)) ?_ ?_ ?_ ?_
        · exact Nat.zero_le _
        · exact (by repeat (first | exact Sub.nil | refine Sub.cons rfl ?_))
        · exact (by repeat (first | exact List.Sublist.refl _ | exact List.nil_sublist _ | refine List.Sublist.cons_cons _ ?_ | refine List.Sublist.cons _ ?_))
        · intro x hphi
          obtain ⟨k, va, vb⟩ := x
          dsimp only at hphi ⊢
          refine T.seq ?_
          refine T.region ?_
          refine TL.yv (Wt.none rfl) rfl rfl (Yv.pur rfl) ?_
          refine TL.nil ?_
          refine K.seq ?_
          refine T.seq ?_
          refine T.cond rfl (fun h3 => ?_) (fun h3 => ?_)
          · have p3 := h3
            try simp only [decide_eq_true_eq, decide_eq_false_iff_not, Int.not_lt, Int.not_le, Bool.not_eq_true', Bool.not_eq_false', Decidable.not_not, Bool.and_eq_true, Bool.or_eq_true, Bool.and_eq_false_iff, Bool.or_eq_false_iff] at p3
            obtain ⟨g, off, rfl, hc⟩ := hsl2 (by omega)
            have hk := hc k (by omega)
            simp only [Ld.cells] at hk
            have hr := hG.ls _ (nth_mem (xs := P.ls) (k := k) (by omega))
            obtain ⟨hxo, ⟨ia, hia, hea⟩, ib, hib, heb⟩ := hr
            simp only [Ld.ok, inB, rngB, Bool.and_eq_true, decide_eq_true_eq] at hxo
            have ha : P.ix (nth P.ls k).to = (ia : Int) := by rw [hea]; exact Pb.ix_of hG hia
            have hta : (tcells (sV q1 P.ds.length) (cellsK 512 (ixAt P.ds P.ds.length)) (totAt P.ds P.ds.length) (sV q3 P.ds.length) (sV q5 P.ds.length) (sV q7 P.ds.length) (sV q9 P.ds.length))[0 + 1 + (nth P.ls k).to.toNat * 1]? = some (.int .i64 ((ia : Int) + 1)) := tix (by omega) (by omega) (ix_raw ha)
            have hb : P.ix (nth P.ls k).fr = (ib : Int) := by rw [heb]; exact Pb.ix_of hG hib
            have htb : (tcells (sV q1 P.ds.length) (cellsK 512 (ixAt P.ds P.ds.length)) (totAt P.ds P.ds.length) (sV q3 P.ds.length) (sV q5 P.ds.length) (sV q7 P.ds.length) (sV q9 P.ds.length))[0 + 1 + (nth P.ls k).fr.toNat * 1]? = some (.int .i64 ((ib : Int) + 1)) := tix (by omega) (by omega) (ix_raw hb)
            have hcell : Ld.cells (P.rl (nth P.ls k)) = [.int .i64 ((ia : Int) + 1 - 1), .int .i64 ((ib : Int) + 1 - 1), .int .i64 (nth P.ls k).wt, .int .i64 (nth P.ls k).lo, .int .i64 (nth P.ls k).hi] := by simp [Ld.cells, Pb.rl, ha, hb]
            refine T.skip ?_
            refine K.seq ?_
            refine T.cutX (ι := (Nat → Value) × (Nat → Value)) (fun uu => [(1, .pointer (some ⟨g1, 0, none⟩)), (4, .pointer (some ⟨g27, 0, none⟩)), (128, .slice (some ⟨g, off, none⟩) P.ls.length cap2), (129, .int .i64 (P.ls.length : Int)), (130, .int .i64 (k : Int))]) (fun uu => [Ent.bag (ents 84 5 P.ds.length ya2 Pr.cells (P.psA P.ps.length)), Ent.bag (ents 88 4 P.ds.length (fun _ => .slice none 0 0) Cp.cells (P.csA 0)), Ent.bag (ents 86 5 P.ds.length uu.1 Ld.cells (P.inA (k + 1))), Ent.bag (ents 86 5 P.ds.length uu.2 Ld.cells (P.ouA (k + 1))), .row g27 101 (tcells (sV q1 P.ds.length) (cellsK 512 (ixAt P.ds P.ds.length)) (totAt P.ds P.ds.length) (sV q3 P.ds.length) (sV q5 P.ds.length) (sV q7 P.ds.length) (sV q9 P.ds.length)), .sl (sV q1 P.ds.length) 3 1 P.ds.length (fillL (fun j => .int .i64 (nth P.ds j).st) (.int .i64 0) P.ds.length P.ds.length), .sl (sV q3 P.ds.length) 23 1 P.ds.length ((List.range P.ds.length).map ya2), .sl (sV q5 P.ds.length) 25 1 P.ds.length ((List.range P.ds.length).map (fun _ => .slice none 0 0)), .sl (sV q7 P.ds.length) 24 1 P.ds.length ((List.range P.ds.length).map uu.1), .sl (sV q9 P.ds.length) 24 1 P.ds.length ((List.range P.ds.length).map uu.2), .row g1 29 [.slice A P.ds.length cap, .slice A1 P.ps.length cap1, .slice (some ⟨g, off, none⟩) P.ls.length cap2, .slice A3 P.cs.length cap3]]) (fun uu => True) ?_ ?_
            · skip
              refine T.block ?_
              refine T.seq ?_
              refine T.region ?_
              refine TL.yv (Wt.none rfl) rfl rfl (Yv.indexSl rfl rfl rfl rfl (by omega)) ?_
              refine TL.yv (Wt.none rfl) rfl rfl (Yv.loadAB rfl rfl hk rfl (fun h => h)) ?_
              (refine TL.ew (Wt.none rfl) rfl rfl (Ew.alloc rfl) ?_; rintro _ _ ⟨g10, rfl, rfl⟩)
              (refine TL.ew0 (Wt.none rfl) rfl (Ew.storeAll 0 rfl rfl rfl rfl rfl rfl) ?_; rintro _ _ ⟨rfl, rfl⟩)
              refine TL.nil ?_
              refine K.seq ?_
              refine T.cut (gs := [(1, .pointer (some ⟨g1, 0, none⟩)), (4, .pointer (some ⟨g27, 0, none⟩)), (128, .slice (some ⟨g, off, none⟩) P.ls.length cap2), (129, .int .i64 (P.ls.length : Int)), (130, .int .i64 (k : Int)), (10, .pointer (some ⟨g10, 0, none⟩))]) (hs' := [.row g10 86 [.int .i64 ((ia : Int) + 1 - 1), .int .i64 ((ib : Int) + 1 - 1), .int .i64 ((nth P.ls k).wt), .int .i64 ((nth P.ls k).lo), .int .i64 ((nth P.ls k).hi)], Ent.bag (ents 84 5 P.ds.length ya2 Pr.cells (P.psA P.ps.length)), Ent.bag (ents 88 4 P.ds.length (fun _ => .slice none 0 0) Cp.cells (P.csA 0)), Ent.bag (ents 86 5 P.ds.length va Ld.cells (P.inA k)), Ent.bag (ents 86 5 P.ds.length vb Ld.cells (P.ouA k)), .row g27 101 (tcells (sV q1 P.ds.length) (cellsK 512 (ixAt P.ds P.ds.length)) (totAt P.ds P.ds.length) (sV q3 P.ds.length) (sV q5 P.ds.length) (sV q7 P.ds.length) (sV q9 P.ds.length)), .sl (sV q1 P.ds.length) 3 1 P.ds.length (fillL (fun j => .int .i64 (nth P.ds j).st) (.int .i64 0) P.ds.length P.ds.length), .sl (sV q3 P.ds.length) 23 1 P.ds.length ((List.range P.ds.length).map ya2), .sl (sV q5 P.ds.length) 25 1 P.ds.length ((List.range P.ds.length).map (fun _ => .slice none 0 0)), .sl (sV q7 P.ds.length) 24 1 P.ds.length ((List.range P.ds.length).map va), .sl (sV q9 P.ds.length) 24 1 P.ds.length ((List.range P.ds.length).map vb), .row g1 29 [.slice A P.ds.length cap, .slice A1 P.ps.length cap1, .slice (some ⟨g, off, none⟩) P.ls.length cap2, .slice A3 P.cs.length cap3]]) ?_ ?_
              · skip
                refine T.draw (.still 0 (.still 1 (.still 3 (.still 4 (.still 8 (.still 9 (.still 11 (.still 12 (.two 2 10 (.still 5 (.still 6 (.still 7 (.eff 10 (.still 13 (.still 14 (.still 15 (.still 16 (.eff 17 (.still 18 (.eff 19 .done))))))))))) (.still 13 (.still 14 (.still 15 (.eff 2 (.still 5 (.still 6 (.still 7 (.still 16 (.eff 17 (.still 18 (.eff 19 .done)))))))))))))))))))) (List.eraseIdx _ 0) (by kernel_rfl) (List.eraseIdx_sublist _ _) ?_
                refine TS.still rfl (Wt.none rfl) rfl rfl (Yv.pur rfl) ?_
                refine TS.still rfl (Wt.none rfl) rfl rfl (Yv.fieldAddr rfl rfl) ?_
                refine TS.still rfl (Wt.none rfl) rfl rfl (Yv.pur rfl) ?_
                refine TS.still rfl (Wt.none rfl) rfl rfl (Yv.fieldAddr rfl rfl) ?_
                refine TS.still rfl (Wt.none rfl) rfl rfl (Yv.pur rfl) ?_
                refine TS.still rfl (Wt.none rfl) rfl rfl (Yv.fieldAddr rfl rfl) ?_
                refine TS.still rfl (Wt.none rfl) rfl rfl (Yv.pur rfl) ?_
                refine TS.still rfl (Wt.none rfl) rfl rfl (Yv.fieldAddr rfl rfl) ?_
                refine TS.two ?_ ?_
                · skip
                  refine TSo.yv rfl (Wt.none rfl) rfl rfl (Yv.loadO 0 rfl rfl rfl rfl) (by repeat (first | exact List.Sublist.refl _ | exact List.nil_sublist _ | refine List.Sublist.cons_cons _ ?_ | refine List.Sublist.cons _ ?_)) ?_
                  refine TS.still rfl (Wt.none rfl) rfl rfl (Yv.indexAr rfl rfl rfl (show (nth P.ls k).to = (((nth P.ls k).to.toNat : Nat) : Int) from by omega) (by omega)) ?_
                  refine TS.still rfl (Wt.none rfl) rfl rfl (Yv.loadO 4 rfl rfl rfl hta) ?_
                  refine TS.still rfl (Wt.none rfl) rfl rfl (Yv.subI rfl rfl rfl (by omega)) ?_
                  refine TS.eff ?_
                  refine TSo.yv rfl (Wt.none rfl) rfl rfl (Yv.loadO 0 rfl rfl rfl rfl) (by repeat (first | exact List.Sublist.refl _ | exact List.nil_sublist _ | refine List.Sublist.cons_cons _ ?_ | refine List.Sublist.cons _ ?_)) ?_
                  refine TS.still rfl (Wt.none rfl) rfl rfl (Yv.indexAr rfl rfl rfl (show (nth P.ls k).fr = (((nth P.ls k).fr.toNat : Nat) : Int) from by omega) (by omega)) ?_
                  refine TS.still rfl (Wt.none rfl) rfl rfl (Yv.loadO 4 rfl rfl rfl htb) ?_
                  refine TS.still rfl (Wt.none rfl) rfl rfl (Yv.subI rfl rfl rfl (by omega)) ?_
                  refine TS.still rfl (Wt.none rfl) rfl rfl (Yv.fieldAddr rfl rfl) ?_
                  refine TS.eff ?_
                  (refine TSo.ew0 rfl (Wt.none rfl) rfl (Ew.store1 0 rfl rfl rfl rfl (by first | omega | simp)) ?_; rintro _ _ ⟨rfl, rfl⟩; refine ⟨(by repeat (first | exact List.Sublist.refl _ | exact List.nil_sublist _ | refine List.Sublist.cons_cons _ ?_ | refine List.Sublist.cons _ ?_)), ?_⟩)
                  refine TS.still rfl (Wt.none rfl) rfl rfl (Yv.fieldAddr rfl rfl) ?_
                  refine TS.eff ?_
                  (refine TSo.ew0 rfl (Wt.none rfl) rfl (Ew.store1 0 rfl rfl rfl rfl (by first | omega | simp)) ?_; rintro _ _ ⟨rfl, rfl⟩; refine ⟨(by repeat (first | exact List.Sublist.refl _ | exact List.nil_sublist _ | refine List.Sublist.cons_cons _ ?_ | refine List.Sublist.cons _ ?_)), ?_⟩)
                  refine TS.done ?_
                  exact K.at (by repeat (first | exact Sub.nil | refine Sub.cons rfl ?_)) (by repeat (first | exact List.Sublist.refl _ | exact List.nil_sublist _ | refine List.Sublist.cons_cons _ ?_ | refine List.Sublist.cons _ ?_))
                · skip
                  refine TSo.yv rfl (Wt.none rfl) rfl rfl (Yv.loadO 0 rfl rfl rfl rfl) (by repeat (first | exact List.Sublist.refl _ | exact List.nil_sublist _ | refine List.Sublist.cons_cons _ ?_ | refine List.Sublist.cons _ ?_)) ?_
                  refine TS.still rfl (Wt.none rfl) rfl rfl (Yv.indexAr rfl rfl rfl (show (nth P.ls k).fr = (((nth P.ls k).fr.toNat : Nat) : Int) from by omega) (by omega)) ?_
                  refine TS.still rfl (Wt.none rfl) rfl rfl (Yv.loadO 4 rfl rfl rfl htb) ?_
                  refine TS.still rfl (Wt.none rfl) rfl rfl (Yv.subI rfl rfl rfl (by omega)) ?_
                  refine TS.eff ?_
                  refine TSo.yv rfl (Wt.none rfl) rfl rfl (Yv.loadO 0 rfl rfl rfl rfl) (by repeat (first | exact List.Sublist.refl _ | exact List.nil_sublist _ | refine List.Sublist.cons_cons _ ?_ | refine List.Sublist.cons _ ?_)) ?_
                  refine TS.still rfl (Wt.none rfl) rfl rfl (Yv.indexAr rfl rfl rfl (show (nth P.ls k).to = (((nth P.ls k).to.toNat : Nat) : Int) from by omega) (by omega)) ?_
                  refine TS.still rfl (Wt.none rfl) rfl rfl (Yv.loadO 4 rfl rfl rfl hta) ?_
                  refine TS.still rfl (Wt.none rfl) rfl rfl (Yv.subI rfl rfl rfl (by omega)) ?_
                  refine TS.still rfl (Wt.none rfl) rfl rfl (Yv.fieldAddr rfl rfl) ?_
                  refine TS.eff ?_
                  (refine TSo.ew0 rfl (Wt.none rfl) rfl (Ew.store1 0 rfl rfl rfl rfl (by first | omega | simp)) ?_; rintro _ _ ⟨rfl, rfl⟩; refine ⟨(by repeat (first | exact List.Sublist.refl _ | exact List.nil_sublist _ | refine List.Sublist.cons_cons _ ?_ | refine List.Sublist.cons _ ?_)), ?_⟩)
                  refine TS.still rfl (Wt.none rfl) rfl rfl (Yv.fieldAddr rfl rfl) ?_
                  refine TS.eff ?_
                  (refine TSo.ew0 rfl (Wt.none rfl) rfl (Ew.store1 0 rfl rfl rfl rfl (by first | omega | simp)) ?_; rintro _ _ ⟨rfl, rfl⟩; refine ⟨(by repeat (first | exact List.Sublist.refl _ | exact List.nil_sublist _ | refine List.Sublist.cons_cons _ ?_ | refine List.Sublist.cons _ ?_)), ?_⟩)
                  refine TS.done ?_
                  exact K.at (by repeat (first | exact Sub.nil | refine Sub.cons rfl ?_)) (by repeat (first | exact List.Sublist.refl _ | exact List.nil_sublist _ | refine List.Sublist.cons_cons _ ?_ | refine List.Sublist.cons _ ?_))
              · skip
                refine T.cutX (ι := Nat → Value) (fun u1 => [(1, .pointer (some ⟨g1, 0, none⟩)), (4, .pointer (some ⟨g27, 0, none⟩)), (128, .slice (some ⟨g, off, none⟩) P.ls.length cap2), (129, .int .i64 (P.ls.length : Int)), (130, .int .i64 (k : Int)), (10, .pointer (some ⟨g10, 0, none⟩))]) (fun u1 => [.row g10 86 [.int .i64 ((ia : Int) + 1 - 1), .int .i64 ((ib : Int) + 1 - 1), .int .i64 ((nth P.ls k).wt), .int .i64 ((nth P.ls k).lo), .int .i64 ((nth P.ls k).hi)], Ent.bag (ents 84 5 P.ds.length ya2 Pr.cells (P.psA P.ps.length)), Ent.bag (ents 88 4 P.ds.length (fun _ => .slice none 0 0) Cp.cells (P.csA 0)), Ent.bag (ents 86 5 P.ds.length u1 Ld.cells (P.inA (k + 1))), Ent.bag (ents 86 5 P.ds.length vb Ld.cells (P.ouA k)), .row g27 101 (tcells (sV q1 P.ds.length) (cellsK 512 (ixAt P.ds P.ds.length)) (totAt P.ds P.ds.length) (sV q3 P.ds.length) (sV q5 P.ds.length) (sV q7 P.ds.length) (sV q9 P.ds.length)), .sl (sV q1 P.ds.length) 3 1 P.ds.length (fillL (fun j => .int .i64 (nth P.ds j).st) (.int .i64 0) P.ds.length P.ds.length), .sl (sV q3 P.ds.length) 23 1 P.ds.length ((List.range P.ds.length).map ya2), .sl (sV q5 P.ds.length) 25 1 P.ds.length ((List.range P.ds.length).map (fun _ => .slice none 0 0)), .sl (sV q7 P.ds.length) 24 1 P.ds.length ((List.range P.ds.length).map u1), .sl (sV q9 P.ds.length) 24 1 P.ds.length ((List.range P.ds.length).map vb), .row g1 29 [.slice A P.ds.length cap, .slice A1 P.ps.length cap1, .slice (some ⟨g, off, none⟩) P.ls.length cap2, .slice A3 P.cs.length cap3]]) (fun u1 => True) ?_ ?_
                · skip
                  refine T.openB 3 ia rfl (ents_get hia) ?_
                  have hvv : ((List.range P.ds.length).map va)[0 + ia * 1]? = some (va ia) := map_get (by omega) hia
                  have hlen : ((P.inA k) ia).length ≤ 5000 := Nat.le_trans filt_len (by omega)
                  refine T.draw (.still 0 (.still 1 (.still 2 (.still 3 (.still 4 (.still 5 (.still 6 (.still 7 (.still 8 (.still 9 (.still 10 (.still 11 (.still 12 (.still 14 (.two 13 15 (.eff 15 (.eff 16 (.still 17 (.eff 18 .done)))) (.eff 13 (.eff 16 (.still 17 (.eff 18 .done))))))))))))))))))) [.row g10 86 [.int .i64 ((ia : Int) + 1 - 1), .int .i64 ((ib : Int) + 1 - 1), .int .i64 ((nth P.ls k).wt), .int .i64 ((nth P.ls k).lo), .int .i64 ((nth P.ls k).hi)], Ent.bag (ents 84 5 P.ds.length ya2 Pr.cells (P.psA P.ps.length)), Ent.bag (ents 88 4 P.ds.length (fun _ => .slice none 0 0) Cp.cells (P.csA 0)), Ent.bag ((ents 86 5 P.ds.length va Ld.cells (P.inA k)).eraseIdx ia), Ent.bag (ents 86 5 P.ds.length vb Ld.cells (P.ouA k)), .row g27 101 (tcells (sV q1 P.ds.length) (cellsK 512 (ixAt P.ds P.ds.length)) (totAt P.ds P.ds.length) (sV q3 P.ds.length) (sV q5 P.ds.length) (sV q7 P.ds.length) (sV q9 P.ds.length)), .sl (sV q1 P.ds.length) 3 1 P.ds.length (fillL (fun j => .int .i64 (nth P.ds j).st) (.int .i64 0) P.ds.length P.ds.length), .sl (sV q3 P.ds.length) 23 1 P.ds.length ((List.range P.ds.length).map ya2), .sl (sV q5 P.ds.length) 25 1 P.ds.length ((List.range P.ds.length).map (fun _ => .slice none 0 0)), .sl (sV q9 P.ds.length) 24 1 P.ds.length ((List.range P.ds.length).map vb), .row g1 29 [.slice A P.ds.length cap, .slice A1 P.ps.length cap1, .slice (some ⟨g, off, none⟩) P.ls.length cap2, .slice A3 P.cs.length cap3]] (by kernel_rfl) (by repeat (first | exact List.Sublist.refl _ | exact List.nil_sublist _ | refine List.Sublist.cons_cons _ ?_ | refine List.Sublist.cons _ ?_)) ?_
                  refine TS.still rfl (Wt.none rfl) rfl rfl (Yv.pur rfl) ?_
                  refine TS.still rfl (Wt.none rfl) rfl rfl (Yv.pur rfl) ?_
                  refine TS.still rfl (Wt.none rfl) rfl rfl (Yv.fieldAddr rfl rfl) ?_
                  refine TS.still rfl (Wt.none rfl) rfl rfl (Yv.loadO 5 rfl rfl rfl (tcells_hi cellsK_len (j := 3) rfl)) ?_
                  refine TS.still rfl (Wt.none rfl) rfl rfl (Yv.fieldAddr rfl rfl) ?_
                  refine TS.still rfl (Wt.none rfl) rfl rfl (Yv.loadO 0 rfl rfl rfl rfl) ?_
                  refine TS.still rfl (Wt.none rfl) rfl rfl (Yv.pur rfl) ?_
                  refine TS.still rfl (Wt.none rfl) rfl rfl (Yv.pur rfl) ?_
                  refine TS.still rfl (Wt.none rfl) rfl rfl (Yv.fieldAddr rfl rfl) ?_
                  refine TS.still rfl (Wt.none rfl) rfl rfl (Yv.loadO 5 rfl rfl rfl (tcells_hi cellsK_len (j := 3) rfl)) ?_
                  refine TS.still rfl (Wt.none rfl) rfl rfl (Yv.fieldAddr rfl rfl) ?_
                  refine TS.still rfl (Wt.none rfl) rfl rfl (Yv.loadO 0 rfl rfl rfl rfl) ?_
                  refine TS.still rfl (Wt.none rfl) rfl rfl (Yv.indexSl rfl rfl rfl (show (ia : Int) + 1 - 1 = ((ia : Nat) : Int) from by omega) (by omega)) ?_
                  refine TS.still rfl (Wt.none rfl) rfl rfl (Yv.loadAO 0 rfl rfl rfl rfl) ?_
                  refine TS.two ?_ ?_
                  · skip
                    refine TSo.yv rfl (Wt.none rfl) rfl rfl (Yv.loadS 10 rfl rfl rfl hvv) (by repeat (first | exact List.Sublist.refl _ | exact List.nil_sublist _ | refine List.Sublist.cons_cons _ ?_ | refine List.Sublist.cons _ ?_)) ?_
                    refine TS.eff ?_
                    (refine TSo.ew rfl (Wt.none rfl) rfl rfl (Ew.buildSlice rfl rfl rfl (by decide)) ?_; rintro _ _ ⟨g167, rfl, rfl⟩; refine ⟨(by repeat (first | exact List.Sublist.refl _ | exact List.nil_sublist _ | refine List.Sublist.cons_cons _ ?_ | refine List.Sublist.cons _ ?_)), ?_⟩)
                    refine TS.eff ?_
                    (refine TSo.ew rfl (Wt.none rfl) rfl rfl (Ew.append 1 0 rfl rfl rfl rfl rfl rfl (by omega) (by omega)) ?_; rintro v168 _ ⟨hv168, rfl⟩; refine ⟨(by repeat (first | exact List.Sublist.refl _ | exact List.nil_sublist _ | refine List.Sublist.cons_cons _ ?_ | refine List.Sublist.cons _ ?_)), ?_⟩)
                    refine TS.still rfl (Wt.none rfl) rfl rfl (Yv.indexSl rfl rfl rfl (show (ia : Int) + 1 - 1 = ((ia : Nat) : Int) from by omega) (by omega)) ?_
                    refine TS.eff ?_
                    (refine TSo.ew0 rfl (Wt.none rfl) rfl (Ew.storeSE 11 ((List.range P.ds.length).map (upd va ia v168)) rfl rfl rfl rfl (by rw [List.length_map, List.length_range]; omega) (map_upd (by omega) hia)) ?_; rintro _ _ ⟨rfl, rfl⟩; refine ⟨(by repeat (first | exact List.Sublist.refl _ | exact List.nil_sublist _ | refine List.Sublist.cons_cons _ ?_ | refine List.Sublist.cons _ ?_)), ?_⟩)
                    refine TS.done ?_
                    refine K.weaken Sub.refl (List.sublist_cons_self _ _) ?_
                    refine K.closeBE 3 ia (ents 86 5 P.ds.length (upd va ia v168) Ld.cells (P.inA (k + 1))) rfl (by rw [ents_len]; exact hia) (by rw [← hcell, ← inA_step (by omega) ha]; exact ents_set hia) ?_
                    exact K.atX (upd va ia v168) trivial (by repeat (first | exact Sub.nil | refine Sub.cons rfl ?_)) (by repeat (first | exact List.Sublist.refl _ | exact List.nil_sublist _ | refine List.Sublist.cons_cons _ ?_ | refine List.Sublist.cons _ ?_))
                  · skip
                    (refine TSo.ew rfl (Wt.none rfl) rfl rfl (Ew.buildSlice rfl rfl rfl (by decide)) ?_; rintro _ _ ⟨g167, rfl, rfl⟩; refine ⟨(by repeat (first | exact List.Sublist.refl _ | exact List.nil_sublist _ | refine List.Sublist.cons_cons _ ?_ | refine List.Sublist.cons _ ?_)), ?_⟩)
                    refine TS.eff ?_
                    refine TSo.yv rfl (Wt.none rfl) rfl rfl (Yv.loadS 11 rfl rfl rfl hvv) (by repeat (first | exact List.Sublist.refl _ | exact List.nil_sublist _ | refine List.Sublist.cons_cons _ ?_ | refine List.Sublist.cons _ ?_)) ?_
                    refine TS.eff ?_
                    (refine TSo.ew rfl (Wt.none rfl) rfl rfl (Ew.append 1 0 rfl rfl rfl rfl rfl rfl (by omega) (by omega)) ?_; rintro v168 _ ⟨hv168, rfl⟩; refine ⟨(by repeat (first | exact List.Sublist.refl _ | exact List.nil_sublist _ | refine List.Sublist.cons_cons _ ?_ | refine List.Sublist.cons _ ?_)), ?_⟩)
                    refine TS.still rfl (Wt.none rfl) rfl rfl (Yv.indexSl rfl rfl rfl (show (ia : Int) + 1 - 1 = ((ia : Nat) : Int) from by omega) (by omega)) ?_
                    refine TS.eff ?_
                    (refine TSo.ew0 rfl (Wt.none rfl) rfl (Ew.storeSE 11 ((List.range P.ds.length).map (upd va ia v168)) rfl rfl rfl rfl (by rw [List.length_map, List.length_range]; omega) (map_upd (by omega) hia)) ?_; rintro _ _ ⟨rfl, rfl⟩; refine ⟨(by repeat (first | exact List.Sublist.refl _ | exact List.nil_sublist _ | refine List.Sublist.cons_cons _ ?_ | refine List.Sublist.cons _ ?_)), ?_⟩)
                    refine TS.done ?_
                    refine K.weaken Sub.refl (List.sublist_cons_self _ _) ?_
                    refine K.closeBE 3 ia (ents 86 5 P.ds.length (upd va ia v168) Ld.cells (P.inA (k + 1))) rfl (by rw [ents_len]; exact hia) (by rw [← hcell, ← inA_step (by omega) ha]; exact ents_set hia) ?_
                    exact K.atX (upd va ia v168) trivial (by repeat (first | exact Sub.nil | refine Sub.cons rfl ?_)) (by repeat (first | exact List.Sublist.refl _ | exact List.nil_sublist _ | refine List.Sublist.cons_cons _ ?_ | refine List.Sublist.cons _ ?_))
                · skip
                  intro u1 hphi
                  refine T.openB 4 ib rfl (ents_get hib) ?_
                  have hvv : ((List.range P.ds.length).map vb)[0 + ib * 1]? = some (vb ib) := map_get (by omega) hib
                  have hlen : ((P.ouA k) ib).length ≤ 5000 := Nat.le_trans filt_len (by omega)
                  refine T.draw (.still 0 (.still 1 (.still 2 (.still 3 (.still 4 (.still 5 (.still 6 (.still 7 (.still 8 (.still 9 (.still 10 (.still 11 (.still 12 (.still 14 (.two 13 15 (.eff 15 (.eff 16 (.still 17 (.eff 18 .done)))) (.eff 13 (.eff 16 (.still 17 (.eff 18 .done))))))))))))))))))) [.row g10 86 [.int .i64 ((ia : Int) + 1 - 1), .int .i64 ((ib : Int) + 1 - 1), .int .i64 ((nth P.ls k).wt), .int .i64 ((nth P.ls k).lo), .int .i64 ((nth P.ls k).hi)], Ent.bag (ents 84 5 P.ds.length ya2 Pr.cells (P.psA P.ps.length)), Ent.bag (ents 88 4 P.ds.length (fun _ => .slice none 0 0) Cp.cells (P.csA 0)), Ent.bag (ents 86 5 P.ds.length u1 Ld.cells (P.inA (k + 1))), Ent.bag ((ents 86 5 P.ds.length vb Ld.cells (P.ouA k)).eraseIdx ib), .row g27 101 (tcells (sV q1 P.ds.length) (cellsK 512 (ixAt P.ds P.ds.length)) (totAt P.ds P.ds.length) (sV q3 P.ds.length) (sV q5 P.ds.length) (sV q7 P.ds.length) (sV q9 P.ds.length)), .sl (sV q1 P.ds.length) 3 1 P.ds.length (fillL (fun j => .int .i64 (nth P.ds j).st) (.int .i64 0) P.ds.length P.ds.length), .sl (sV q3 P.ds.length) 23 1 P.ds.length ((List.range P.ds.length).map ya2), .sl (sV q5 P.ds.length) 25 1 P.ds.length ((List.range P.ds.length).map (fun _ => .slice none 0 0)), .sl (sV q7 P.ds.length) 24 1 P.ds.length ((List.range P.ds.length).map u1), .row g1 29 [.slice A P.ds.length cap, .slice A1 P.ps.length cap1, .slice (some ⟨g, off, none⟩) P.ls.length cap2, .slice A3 P.cs.length cap3]] (by kernel_rfl) (by repeat (first | exact List.Sublist.refl _ | exact List.nil_sublist _ | refine List.Sublist.cons_cons _ ?_ | refine List.Sublist.cons _ ?_)) ?_
                  refine TS.still rfl (Wt.none rfl) rfl rfl (Yv.pur rfl) ?_
                  refine TS.still rfl (Wt.none rfl) rfl rfl (Yv.pur rfl) ?_
                  refine TS.still rfl (Wt.none rfl) rfl rfl (Yv.fieldAddr rfl rfl) ?_
                  refine TS.still rfl (Wt.none rfl) rfl rfl (Yv.loadO 5 rfl rfl rfl (tcells_hi cellsK_len (j := 4) rfl)) ?_
                  refine TS.still rfl (Wt.none rfl) rfl rfl (Yv.fieldAddr rfl rfl) ?_
                  refine TS.still rfl (Wt.none rfl) rfl rfl (Yv.loadO 0 rfl rfl rfl rfl) ?_
                  refine TS.still rfl (Wt.none rfl) rfl rfl (Yv.pur rfl) ?_
                  refine TS.still rfl (Wt.none rfl) rfl rfl (Yv.pur rfl) ?_
                  refine TS.still rfl (Wt.none rfl) rfl rfl (Yv.fieldAddr rfl rfl) ?_
                  refine TS.still rfl (Wt.none rfl) rfl rfl (Yv.loadO 5 rfl rfl rfl (tcells_hi cellsK_len (j := 4) rfl)) ?_
                  refine TS.still rfl (Wt.none rfl) rfl rfl (Yv.fieldAddr rfl rfl) ?_
                  refine TS.still rfl (Wt.none rfl) rfl rfl (Yv.loadO 0 rfl rfl rfl rfl) ?_
                  refine TS.still rfl (Wt.none rfl) rfl rfl (Yv.indexSl rfl rfl rfl (show (ib : Int) + 1 - 1 = ((ib : Nat) : Int) from by omega) (by omega)) ?_
                  refine TS.still rfl (Wt.none rfl) rfl rfl (Yv.loadAO 0 rfl rfl rfl rfl) ?_
                  refine TS.two ?_ ?_
                  · skip
                    refine TSo.yv rfl (Wt.none rfl) rfl rfl (Yv.loadS 11 rfl rfl rfl hvv) (by repeat (first | exact List.Sublist.refl _ | exact List.nil_sublist _ | refine List.Sublist.cons_cons _ ?_ | refine List.Sublist.cons _ ?_)) ?_
                    refine TS.eff ?_
                    (refine TSo.ew rfl (Wt.none rfl) rfl rfl (Ew.buildSlice rfl rfl rfl (by decide)) ?_; rintro _ _ ⟨g185, rfl, rfl⟩; refine ⟨(by repeat (first | exact List.Sublist.refl _ | exact List.nil_sublist _ | refine List.Sublist.cons_cons _ ?_ | refine List.Sublist.cons _ ?_)), ?_⟩)
                    refine TS.eff ?_
                    (refine TSo.ew rfl (Wt.none rfl) rfl rfl (Ew.append 1 0 rfl rfl rfl rfl rfl rfl (by omega) (by omega)) ?_; rintro v186 _ ⟨hv186, rfl⟩; refine ⟨(by repeat (first | exact List.Sublist.refl _ | exact List.nil_sublist _ | refine List.Sublist.cons_cons _ ?_ | refine List.Sublist.cons _ ?_)), ?_⟩)
                    refine TS.still rfl (Wt.none rfl) rfl rfl (Yv.indexSl rfl rfl rfl (show (ib : Int) + 1 - 1 = ((ib : Nat) : Int) from by omega) (by omega)) ?_
                    refine TS.eff ?_
                    (refine TSo.ew0 rfl (Wt.none rfl) rfl (Ew.storeSE 12 ((List.range P.ds.length).map (upd vb ib v186)) rfl rfl rfl rfl (by rw [List.length_map, List.length_range]; omega) (map_upd (by omega) hib)) ?_; rintro _ _ ⟨rfl, rfl⟩; refine ⟨(by repeat (first | exact List.Sublist.refl _ | exact List.nil_sublist _ | refine List.Sublist.cons_cons _ ?_ | refine List.Sublist.cons _ ?_)), ?_⟩)
                    refine TS.done ?_
                    refine K.blk_normal ?_
                    refine K.weaken Sub.refl (List.sublist_cons_self _ _) ?_
                    refine K.closeBE 4 ib (ents 86 5 P.ds.length (upd vb ib v186) Ld.cells (P.ouA (k + 1))) rfl (by rw [ents_len]; exact hib) (by rw [← hcell, ← ouA_step (by omega) hb]; exact ents_set hib) ?_
                    exact K.atX (u1, upd vb ib v186) trivial (by repeat (first | exact Sub.nil | refine Sub.cons rfl ?_)) (by repeat (first | exact List.Sublist.refl _ | exact List.nil_sublist _ | refine List.Sublist.cons_cons _ ?_ | refine List.Sublist.cons _ ?_))
                  · skip
                    (refine TSo.ew rfl (Wt.none rfl) rfl rfl (Ew.buildSlice rfl rfl rfl (by decide)) ?_; rintro _ _ ⟨g185, rfl, rfl⟩; refine ⟨(by repeat (first | exact List.Sublist.refl _ | exact List.nil_sublist _ | refine List.Sublist.cons_cons _ ?_ | refine List.Sublist.cons _ ?_)), ?_⟩)
                    refine TS.eff ?_
                    refine TSo.yv rfl (Wt.none rfl) rfl rfl (Yv.loadS 12 rfl rfl rfl hvv) (by repeat (first | exact List.Sublist.refl _ | exact List.nil_sublist _ | refine List.Sublist.cons_cons _ ?_ | refine List.Sublist.cons _ ?_)) ?_
                    refine TS.eff ?_
                    (refine TSo.ew rfl (Wt.none rfl) rfl rfl (Ew.append 1 0 rfl rfl rfl rfl rfl rfl (by omega) (by omega)) ?_; rintro v186 _ ⟨hv186, rfl⟩; refine ⟨(by repeat (first | exact List.Sublist.refl _ | exact List.nil_sublist _ | refine List.Sublist.cons_cons _ ?_ | refine List.Sublist.cons _ ?_)), ?_⟩)
                    refine TS.still rfl (Wt.none rfl) rfl rfl (Yv.indexSl rfl rfl rfl (show (ib : Int) + 1 - 1 = ((ib : Nat) : Int) from by omega) (by omega)) ?_
                    refine TS.eff ?_
                    (refine TSo.ew0 rfl (Wt.none rfl) rfl (Ew.storeSE 12 ((List.range P.ds.length).map (upd vb ib v186)) rfl rfl rfl rfl (by rw [List.length_map, List.length_range]; omega) (map_upd (by omega) hib)) ?_; rintro _ _ ⟨rfl, rfl⟩; refine ⟨(by repeat (first | exact List.Sublist.refl _ | exact List.nil_sublist _ | refine List.Sublist.cons_cons _ ?_ | refine List.Sublist.cons _ ?_)), ?_⟩)
                    refine TS.done ?_
                    refine K.blk_normal ?_
                    refine K.weaken Sub.refl (List.sublist_cons_self _ _) ?_
                    refine K.closeBE 4 ib (ents 86 5 P.ds.length (upd vb ib v186) Ld.cells (P.ouA (k + 1))) rfl (by rw [ents_len]; exact hib) (by rw [← hcell, ← ouA_step (by omega) hb]; exact ents_set hib) ?_
                    exact K.atX (u1, upd vb ib v186) trivial (by repeat (first | exact Sub.nil | refine Sub.cons rfl ?_)) (by repeat (first | exact List.Sublist.refl _ | exact List.nil_sublist _ | refine List.Sublist.cons_cons _ ?_ | refine List.Sublist.cons _ ?_))
            · skip
              intro uu hphi
              obtain ⟨u1, u2⟩ := uu
              dsimp only
              refine T.region ?_
              refine TL.yv (Wt.none rfl) rfl rfl (Yv.addI rfl rfl rfl (by omega)) ?_
              refine TL.yv (Wt.none rfl) rfl rfl (Yv.pur rfl) ?_
              refine TL.nil ?_
              exact K.next (k + 1, u1, u2) (by dsimp only; omega) (by dsimp only; omega) (by repeat (first | exact Sub.nil | refine Sub.cons rfl ?_)) (by repeat (first | exact List.Sublist.refl _ | exact List.nil_sublist _ | refine List.Sublist.cons_cons _ ?_ | refine List.Sublist.cons _ ?_))
          · have p3 := h3
            try simp only [decide_eq_true_eq, decide_eq_false_iff_not, Int.not_lt, Int.not_le, Bool.not_eq_true', Bool.not_eq_false', Decidable.not_not, Bool.and_eq_true, Bool.or_eq_true, Bool.and_eq_false_iff, Bool.or_eq_false_iff] at p3
            refine T.exit ?_
            refine K.then_exit ?_
            refine K.then_exit ?_
            refine K.blk_exit_eq ?_
            obtain rfl : k = P.ls.length := by omega
            exact K.atX (va, vb) trivial (by repeat (first | exact Sub.nil | refine Sub.cons rfl ?_)) (by repeat (first | exact List.Sublist.refl _ | exact List.nil_sublist _ | refine List.Sublist.cons_cons _ ?_ | refine List.Sublist.cons _ ?_))
      · skip
        intro y hphi
        obtain ⟨ya3, yb3⟩ := y
        dsimp only
        refine T.cutX (ι := Nat → Value) (fun y => [(1, .pointer (some ⟨g1, 0, none⟩)), (4, .pointer (some ⟨g27, 0, none⟩))]) (fun y => [Ent.bag (ents 84 5 P.ds.length ya2 Pr.cells (P.psA P.ps.length)), Ent.bag (ents 88 4 P.ds.length y Cp.cells (P.csA P.cs.length)), Ent.bag (ents 86 5 P.ds.length ya3 Ld.cells (P.inA P.ls.length)), Ent.bag (ents 86 5 P.ds.length yb3 Ld.cells (P.ouA P.ls.length)), .row g27 101 (tcells (sV q1 P.ds.length) (cellsK 512 (ixAt P.ds P.ds.length)) (totAt P.ds P.ds.length) (sV q3 P.ds.length) (sV q5 P.ds.length) (sV q7 P.ds.length) (sV q9 P.ds.length)), .sl (sV q1 P.ds.length) 3 1 P.ds.length (fillL (fun j => .int .i64 (nth P.ds j).st) (.int .i64 0) P.ds.length P.ds.length), .sl (sV q3 P.ds.length) 23 1 P.ds.length ((List.range P.ds.length).map ya2), .sl (sV q5 P.ds.length) 25 1 P.ds.length ((List.range P.ds.length).map y), .sl (sV q7 P.ds.length) 24 1 P.ds.length ((List.range P.ds.length).map ya3), .sl (sV q9 P.ds.length) 24 1 P.ds.length ((List.range P.ds.length).map yb3), .row g1 29 [.slice A P.ds.length cap, .slice A1 P.ps.length cap1, .slice A2 P.ls.length cap2, .slice A3 P.cs.length cap3]]) (fun y => True) ?_ ?_
        · skip
          refine T.seq ?_
          refine T.region ?_
          refine TL.yv (Wt.none rfl) rfl rfl (Yv.fieldAddr rfl rfl) ?_
          refine TL.yv (Wt.none rfl) rfl rfl (Yv.fieldAddr rfl rfl) ?_
          refine TL.yv (Wt.none rfl) rfl rfl (Yv.loadO 10 rfl rfl rfl rfl) ?_
          refine TL.yv (Wt.none rfl) rfl rfl (Yv.lenSl rfl rfl) ?_
          refine TL.yv (Wt.none rfl) rfl rfl (Yv.pur rfl) ?_
          refine TL.nil ?_
          refine K.seq ?_
          refine T.block ?_
          refine T.loop (ι := Nat × (Nat → Value)) (fun x => [(1, .pointer (some ⟨g1, 0, none⟩)), (4, .pointer (some ⟨g27, 0, none⟩)), (191, .slice A3 P.cs.length cap3), (192, .int .i64 (P.cs.length : Int)), (193, .int .i64 (x.1 : Int))]) (fun x => [Ent.bag (ents 84 5 P.ds.length ya2 Pr.cells (P.psA P.ps.length)), Ent.bag (ents 88 4 P.ds.length x.2 Cp.cells (P.csA x.1)), Ent.bag (ents 86 5 P.ds.length ya3 Ld.cells (P.inA P.ls.length)), Ent.bag (ents 86 5 P.ds.length yb3 Ld.cells (P.ouA P.ls.length)), .row g27 101 (tcells (sV q1 P.ds.length) (cellsK 512 (ixAt P.ds P.ds.length)) (totAt P.ds P.ds.length) (sV q3 P.ds.length) (sV q5 P.ds.length) (sV q7 P.ds.length) (sV q9 P.ds.length)), .sl (sV q1 P.ds.length) 3 1 P.ds.length (fillL (fun j => .int .i64 (nth P.ds j).st) (.int .i64 0) P.ds.length P.ds.length), .sl (sV q3 P.ds.length) 23 1 P.ds.length ((List.range P.ds.length).map ya2), .sl (sV q5 P.ds.length) 25 1 P.ds.length ((List.range P.ds.length).map x.2), .sl (sV q7 P.ds.length) 24 1 P.ds.length ((List.range P.ds.length).map ya3), .sl (sV q9 P.ds.length) 24 1 P.ds.length ((List.range P.ds.length).map yb3), .row g1 29 [.slice A P.ds.length cap, .slice A1 P.ps.length cap1, .slice A2 P.ls.length cap2, .slice A3 P.cs.length cap3]]) (fun x => x.1 ≤ P.cs.length) (fun x => P.cs.length - x.1) (0, (fun _ => .slice none 0 0)) ?_ ?_ ?_ ?_
          · exact Nat.zero_le _
          · exact (by repeat (first | exact Sub.nil | refine Sub.cons rfl ?_))
          · exact (by repeat (first | exact List.Sublist.refl _ | exact List.nil_sublist _ | refine List.Sublist.cons_cons _ ?_ | refine List.Sublist.cons _ ?_))
          · intro x hphi
            obtain ⟨k, va⟩ := x
            dsimp only at hphi ⊢
            refine T.seq ?_
            refine T.region ?_
            refine TL.yv (Wt.none rfl) rfl rfl (Yv.pur rfl) ?_
            refine TL.nil ?_
            refine K.seq ?_
            refine T.seq ?_
            refine T.cond rfl (fun h4 => ?_) (fun h4 => ?_)
            · have p4 := h4
              try simp only [decide_eq_true_eq, decide_eq_false_iff_not, Int.not_lt, Int.not_le, Bool.not_eq_true', Bool.not_eq_false', Decidable.not_not, Bool.and_eq_true, Bool.or_eq_true, Bool.and_eq_false_iff, Bool.or_eq_false_iff] at p4
              obtain ⟨g, off, rfl, hc⟩ := hsl3 (by omega)
              have hk := hc k (by omega)
              simp only [Cp.cells] at hk
              have hr := hG.cs _ (nth_mem (xs := P.cs) (k := k) (by omega))
              obtain ⟨hxo, ia, hia, hea⟩ := hr
              simp only [Cp.ok, inB, rngB, Bool.and_eq_true, decide_eq_true_eq] at hxo
              have ha : P.ix (nth P.cs k).st = (ia : Int) := by rw [hea]; exact Pb.ix_of hG hia
              have hta : (tcells (sV q1 P.ds.length) (cellsK 512 (ixAt P.ds P.ds.length)) (totAt P.ds P.ds.length) (sV q3 P.ds.length) (sV q5 P.ds.length) (sV q7 P.ds.length) (sV q9 P.ds.length))[0 + 1 + (nth P.cs k).st.toNat * 1]? = some (.int .i64 ((ia : Int) + 1)) := tix (by omega) (by omega) (ix_raw ha)
              have hcell : Cp.cells (P.rc (nth P.cs k)) = [.int .i64 ((ia : Int) + 1 - 1), .int .i64 (nth P.cs k).mx, .int .i64 (nth P.cs k).lo, .int .i64 (nth P.cs k).hi] := by simp [Cp.cells, Pb.rc, ha]
              refine T.skip ?_
              refine K.seq ?_
              refine T.cutX (ι := Nat → Value) (fun u1 => [(1, .pointer (some ⟨g1, 0, none⟩)), (4, .pointer (some ⟨g27, 0, none⟩)), (191, .slice (some ⟨g, off, none⟩) P.cs.length cap3), (192, .int .i64 (P.cs.length : Int)), (193, .int .i64 (k : Int))]) (fun u1 => [Ent.bag (ents 84 5 P.ds.length ya2 Pr.cells (P.psA P.ps.length)), Ent.bag (ents 88 4 P.ds.length u1 Cp.cells (P.csA (k + 1))), Ent.bag (ents 86 5 P.ds.length ya3 Ld.cells (P.inA P.ls.length)), Ent.bag (ents 86 5 P.ds.length yb3 Ld.cells (P.ouA P.ls.length)), .row g27 101 (tcells (sV q1 P.ds.length) (cellsK 512 (ixAt P.ds P.ds.length)) (totAt P.ds P.ds.length) (sV q3 P.ds.length) (sV q5 P.ds.length) (sV q7 P.ds.length) (sV q9 P.ds.length)), .sl (sV q1 P.ds.length) 3 1 P.ds.length (fillL (fun j => .int .i64 (nth P.ds j).st) (.int .i64 0) P.ds.length P.ds.length), .sl (sV q3 P.ds.length) 23 1 P.ds.length ((List.range P.ds.length).map ya2), .sl (sV q5 P.ds.length) 25 1 P.ds.length ((List.range P.ds.length).map u1), .sl (sV q7 P.ds.length) 24 1 P.ds.length ((List.range P.ds.length).map ya3), .sl (sV q9 P.ds.length) 24 1 P.ds.length ((List.range P.ds.length).map yb3), .row g1 29 [.slice A P.ds.length cap, .slice A1 P.ps.length cap1, .slice A2 P.ls.length cap2, .slice (some ⟨g, off, none⟩) P.cs.length cap3]]) (fun u1 => True) ?_ ?_
              · skip
                refine T.block ?_
                refine T.seq ?_
                refine T.region ?_
                refine TL.yv (Wt.none rfl) rfl rfl (Yv.indexSl rfl rfl rfl rfl (by omega)) ?_
                refine TL.yv (Wt.none rfl) rfl rfl (Yv.loadAB rfl rfl hk rfl (fun h => h)) ?_
                (refine TL.ew (Wt.none rfl) rfl rfl (Ew.alloc rfl) ?_; rintro _ _ ⟨g12, rfl, rfl⟩)
                (refine TL.ew0 (Wt.none rfl) rfl (Ew.storeAll 0 rfl rfl rfl rfl rfl rfl) ?_; rintro _ _ ⟨rfl, rfl⟩)
                refine TL.nil ?_
                refine K.seq ?_
                refine T.cut (gs := [(1, .pointer (some ⟨g1, 0, none⟩)), (4, .pointer (some ⟨g27, 0, none⟩)), (191, .slice (some ⟨g, off, none⟩) P.cs.length cap3), (192, .int .i64 (P.cs.length : Int)), (193, .int .i64 (k : Int)), (12, .pointer (some ⟨g12, 0, none⟩))]) (hs' := [.row g12 88 [.int .i64 ((ia : Int) + 1 - 1), .int .i64 ((nth P.cs k).mx), .int .i64 ((nth P.cs k).lo), .int .i64 ((nth P.cs k).hi)], Ent.bag (ents 84 5 P.ds.length ya2 Pr.cells (P.psA P.ps.length)), Ent.bag (ents 88 4 P.ds.length va Cp.cells (P.csA k)), Ent.bag (ents 86 5 P.ds.length ya3 Ld.cells (P.inA P.ls.length)), Ent.bag (ents 86 5 P.ds.length yb3 Ld.cells (P.ouA P.ls.length)), .row g27 101 (tcells (sV q1 P.ds.length) (cellsK 512 (ixAt P.ds P.ds.length)) (totAt P.ds P.ds.length) (sV q3 P.ds.length) (sV q5 P.ds.length) (sV q7 P.ds.length) (sV q9 P.ds.length)), .sl (sV q1 P.ds.length) 3 1 P.ds.length (fillL (fun j => .int .i64 (nth P.ds j).st) (.int .i64 0) P.ds.length P.ds.length), .sl (sV q3 P.ds.length) 23 1 P.ds.length ((List.range P.ds.length).map ya2), .sl (sV q5 P.ds.length) 25 1 P.ds.length ((List.range P.ds.length).map va), .sl (sV q7 P.ds.length) 24 1 P.ds.length ((List.range P.ds.length).map ya3), .sl (sV q9 P.ds.length) 24 1 P.ds.length ((List.range P.ds.length).map yb3), .row g1 29 [.slice A P.ds.length cap, .slice A1 P.ps.length cap1, .slice A2 P.ls.length cap2, .slice (some ⟨g, off, none⟩) P.cs.length cap3]]) ?_ ?_
                · skip
                  refine T.draw (.still 0 (.still 1 (.still 3 (.still 4 (.eff 2 (.still 5 (.still 6 (.still 7 (.still 8 (.eff 9 .done)))))))))) (List.eraseIdx _ 0) (by kernel_rfl) (List.eraseIdx_sublist _ _) ?_
                  refine TS.still rfl (Wt.none rfl) rfl rfl (Yv.pur rfl) ?_
                  refine TS.still rfl (Wt.none rfl) rfl rfl (Yv.fieldAddr rfl rfl) ?_
                  refine TS.still rfl (Wt.none rfl) rfl rfl (Yv.pur rfl) ?_
                  refine TS.still rfl (Wt.none rfl) rfl rfl (Yv.fieldAddr rfl rfl) ?_
                  refine TS.eff ?_
                  refine TSo.yv rfl (Wt.none rfl) rfl rfl (Yv.loadO 0 rfl rfl rfl rfl) (by repeat (first | exact List.Sublist.refl _ | exact List.nil_sublist _ | refine List.Sublist.cons_cons _ ?_ | refine List.Sublist.cons _ ?_)) ?_
                  refine TS.still rfl (Wt.none rfl) rfl rfl (Yv.indexAr rfl rfl rfl (show (nth P.cs k).st = (((nth P.cs k).st.toNat : Nat) : Int) from by omega) (by omega)) ?_
                  refine TS.still rfl (Wt.none rfl) rfl rfl (Yv.loadO 4 rfl rfl rfl hta) ?_
                  refine TS.still rfl (Wt.none rfl) rfl rfl (Yv.subI rfl rfl rfl (by omega)) ?_
                  refine TS.still rfl (Wt.none rfl) rfl rfl (Yv.fieldAddr rfl rfl) ?_
                  refine TS.eff ?_
                  (refine TSo.ew0 rfl (Wt.none rfl) rfl (Ew.store1 0 rfl rfl rfl rfl (by first | omega | simp)) ?_; rintro _ _ ⟨rfl, rfl⟩; refine ⟨(by repeat (first | exact List.Sublist.refl _ | exact List.nil_sublist _ | refine List.Sublist.cons_cons _ ?_ | refine List.Sublist.cons _ ?_)), ?_⟩)
                  refine TS.done ?_
                  exact K.at (by repeat (first | exact Sub.nil | refine Sub.cons rfl ?_)) (by repeat (first | exact List.Sublist.refl _ | exact List.nil_sublist _ | refine List.Sublist.cons_cons _ ?_ | refine List.Sublist.cons _ ?_))
                · skip
                  refine T.openB 2 ia rfl (ents_get hia) ?_
                  have hvv : ((List.range P.ds.length).map va)[0 + ia * 1]? = some (va ia) := map_get (by omega) hia
                  have hlen : ((P.csA k) ia).length ≤ 5000 := Nat.le_trans filt_len (by omega)
                  refine T.draw (.still 0 (.still 1 (.still 2 (.still 3 (.still 4 (.still 5 (.still 6 (.still 7 (.still 8 (.still 9 (.still 10 (.still 11 (.still 12 (.still 14 (.two 13 15 (.eff 15 (.eff 16 (.still 17 (.eff 18 .done)))) (.eff 13 (.eff 16 (.still 17 (.eff 18 .done))))))))))))))))))) [.row g12 88 [.int .i64 ((ia : Int) + 1 - 1), .int .i64 ((nth P.cs k).mx), .int .i64 ((nth P.cs k).lo), .int .i64 ((nth P.cs k).hi)], Ent.bag (ents 84 5 P.ds.length ya2 Pr.cells (P.psA P.ps.length)), Ent.bag ((ents 88 4 P.ds.length va Cp.cells (P.csA k)).eraseIdx ia), Ent.bag (ents 86 5 P.ds.length ya3 Ld.cells (P.inA P.ls.length)), Ent.bag (ents 86 5 P.ds.length yb3 Ld.cells (P.ouA P.ls.length)), .row g27 101 (tcells (sV q1 P.ds.length) (cellsK 512 (ixAt P.ds P.ds.length)) (totAt P.ds P.ds.length) (sV q3 P.ds.length) (sV q5 P.ds.length) (sV q7 P.ds.length) (sV q9 P.ds.length)), .sl (sV q1 P.ds.length) 3 1 P.ds.length (fillL (fun j => .int .i64 (nth P.ds j).st) (.int .i64 0) P.ds.length P.ds.length), .sl (sV q3 P.ds.length) 23 1 P.ds.length ((List.range P.ds.length).map ya2), .sl (sV q7 P.ds.length) 24 1 P.ds.length ((List.range P.ds.length).map ya3), .sl (sV q9 P.ds.length) 24 1 P.ds.length ((List.range P.ds.length).map yb3), .row g1 29 [.slice A P.ds.length cap, .slice A1 P.ps.length cap1, .slice A2 P.ls.length cap2, .slice (some ⟨g, off, none⟩) P.cs.length cap3]] (by kernel_rfl) (by repeat (first | exact List.Sublist.refl _ | exact List.nil_sublist _ | refine List.Sublist.cons_cons _ ?_ | refine List.Sublist.cons _ ?_)) ?_
                  refine TS.still rfl (Wt.none rfl) rfl rfl (Yv.pur rfl) ?_
                  refine TS.still rfl (Wt.none rfl) rfl rfl (Yv.pur rfl) ?_
                  refine TS.still rfl (Wt.none rfl) rfl rfl (Yv.fieldAddr rfl rfl) ?_
                  refine TS.still rfl (Wt.none rfl) rfl rfl (Yv.loadO 5 rfl rfl rfl (tcells_hi cellsK_len (j := 2) rfl)) ?_
                  refine TS.still rfl (Wt.none rfl) rfl rfl (Yv.fieldAddr rfl rfl) ?_
                  refine TS.still rfl (Wt.none rfl) rfl rfl (Yv.loadO 0 rfl rfl rfl rfl) ?_
                  refine TS.still rfl (Wt.none rfl) rfl rfl (Yv.pur rfl) ?_
                  refine TS.still rfl (Wt.none rfl) rfl rfl (Yv.pur rfl) ?_
                  refine TS.still rfl (Wt.none rfl) rfl rfl (Yv.fieldAddr rfl rfl) ?_
                  refine TS.still rfl (Wt.none rfl) rfl rfl (Yv.loadO 5 rfl rfl rfl (tcells_hi cellsK_len (j := 2) rfl)) ?_
                  refine TS.still rfl (Wt.none rfl) rfl rfl (Yv.fieldAddr rfl rfl) ?_
                  refine TS.still rfl (Wt.none rfl) rfl rfl (Yv.loadO 0 rfl rfl rfl rfl) ?_
                  refine TS.still rfl (Wt.none rfl) rfl rfl (Yv.indexSl rfl rfl rfl (show (ia : Int) + 1 - 1 = ((ia : Nat) : Int) from by omega) (by omega)) ?_
                  refine TS.still rfl (Wt.none rfl) rfl rfl (Yv.loadAO 0 rfl rfl rfl rfl) ?_
                  refine TS.two ?_ ?_
                  · skip
                    refine TSo.yv rfl (Wt.none rfl) rfl rfl (Yv.loadS 9 rfl rfl rfl hvv) (by repeat (first | exact List.Sublist.refl _ | exact List.nil_sublist _ | refine List.Sublist.cons_cons _ ?_ | refine List.Sublist.cons _ ?_)) ?_
                    refine TS.eff ?_
                    (refine TSo.ew rfl (Wt.none rfl) rfl rfl (Ew.buildSlice rfl rfl rfl (by decide)) ?_; rintro _ _ ⟨g221, rfl, rfl⟩; refine ⟨(by repeat (first | exact List.Sublist.refl _ | exact List.nil_sublist _ | refine List.Sublist.cons_cons _ ?_ | refine List.Sublist.cons _ ?_)), ?_⟩)
                    refine TS.eff ?_
                    (refine TSo.ew rfl (Wt.none rfl) rfl rfl (Ew.append 1 0 rfl rfl rfl rfl rfl rfl (by omega) (by omega)) ?_; rintro v222 _ ⟨hv222, rfl⟩; refine ⟨(by repeat (first | exact List.Sublist.refl _ | exact List.nil_sublist _ | refine List.Sublist.cons_cons _ ?_ | refine List.Sublist.cons _ ?_)), ?_⟩)
                    refine TS.still rfl (Wt.none rfl) rfl rfl (Yv.indexSl rfl rfl rfl (show (ia : Int) + 1 - 1 = ((ia : Nat) : Int) from by omega) (by omega)) ?_
                    refine TS.eff ?_
                    (refine TSo.ew0 rfl (Wt.none rfl) rfl (Ew.storeSE 10 ((List.range P.ds.length).map (upd va ia v222)) rfl rfl rfl rfl (by rw [List.length_map, List.length_range]; omega) (map_upd (by omega) hia)) ?_; rintro _ _ ⟨rfl, rfl⟩; refine ⟨(by repeat (first | exact List.Sublist.refl _ | exact List.nil_sublist _ | refine List.Sublist.cons_cons _ ?_ | refine List.Sublist.cons _ ?_)), ?_⟩)
                    refine TS.done ?_
                    refine K.blk_normal ?_
                    refine K.weaken Sub.refl (List.sublist_cons_self _ _) ?_
                    refine K.closeBE 2 ia (ents 88 4 P.ds.length (upd va ia v222) Cp.cells (P.csA (k + 1))) rfl (by rw [ents_len]; exact hia) (by rw [← hcell, ← csA_step (by omega) ha]; exact ents_set hia) ?_
                    exact K.atX (upd va ia v222) trivial (by repeat (first | exact Sub.nil | refine Sub.cons rfl ?_)) (by repeat (first | exact List.Sublist.refl _ | exact List.nil_sublist _ | refine List.Sublist.cons_cons _ ?_ | refine List.Sublist.cons _ ?_))
                  · skip
                    (refine TSo.ew rfl (Wt.none rfl) rfl rfl (Ew.buildSlice rfl rfl rfl (by decide)) ?_; rintro _ _ ⟨g221, rfl, rfl⟩; refine ⟨(by repeat (first | exact List.Sublist.refl _ | exact List.nil_sublist _ | refine List.Sublist.cons_cons _ ?_ | refine List.Sublist.cons _ ?_)), ?_⟩)
                    refine TS.eff ?_
                    refine TSo.yv rfl (Wt.none rfl) rfl rfl (Yv.loadS 10 rfl rfl rfl hvv) (by repeat (first | exact List.Sublist.refl _ | exact List.nil_sublist _ | refine List.Sublist.cons_cons _ ?_ | refine List.Sublist.cons _ ?_)) ?_
                    refine TS.eff ?_
                    (refine TSo.ew rfl (Wt.none rfl) rfl rfl (Ew.append 1 0 rfl rfl rfl rfl rfl rfl (by omega) (by omega)) ?_; rintro v222 _ ⟨hv222, rfl⟩; refine ⟨(by repeat (first | exact List.Sublist.refl _ | exact List.nil_sublist _ | refine List.Sublist.cons_cons _ ?_ | refine List.Sublist.cons _ ?_)), ?_⟩)
                    refine TS.still rfl (Wt.none rfl) rfl rfl (Yv.indexSl rfl rfl rfl (show (ia : Int) + 1 - 1 = ((ia : Nat) : Int) from by omega) (by omega)) ?_
                    refine TS.eff ?_
                    (refine TSo.ew0 rfl (Wt.none rfl) rfl (Ew.storeSE 10 ((List.range P.ds.length).map (upd va ia v222)) rfl rfl rfl rfl (by rw [List.length_map, List.length_range]; omega) (map_upd (by omega) hia)) ?_; rintro _ _ ⟨rfl, rfl⟩; refine ⟨(by repeat (first | exact List.Sublist.refl _ | exact List.nil_sublist _ | refine List.Sublist.cons_cons _ ?_ | refine List.Sublist.cons _ ?_)), ?_⟩)
                    refine TS.done ?_
                    refine K.blk_normal ?_
                    refine K.weaken Sub.refl (List.sublist_cons_self _ _) ?_
                    refine K.closeBE 2 ia (ents 88 4 P.ds.length (upd va ia v222) Cp.cells (P.csA (k + 1))) rfl (by rw [ents_len]; exact hia) (by rw [← hcell, ← csA_step (by omega) ha]; exact ents_set hia) ?_
                    exact K.atX (upd va ia v222) trivial (by repeat (first | exact Sub.nil | refine Sub.cons rfl ?_)) (by repeat (first | exact List.Sublist.refl _ | exact List.nil_sublist _ | refine List.Sublist.cons_cons _ ?_ | refine List.Sublist.cons _ ?_))
              · skip
                intro u1 hphi
                refine T.region ?_
                refine TL.yv (Wt.none rfl) rfl rfl (Yv.addI rfl rfl rfl (by omega)) ?_
                refine TL.yv (Wt.none rfl) rfl rfl (Yv.pur rfl) ?_
                refine TL.nil ?_
                exact K.next (k + 1, u1) (by dsimp only; omega) (by dsimp only; omega) (by repeat (first | exact Sub.nil | refine Sub.cons rfl ?_)) (by repeat (first | exact List.Sublist.refl _ | exact List.nil_sublist _ | refine List.Sublist.cons_cons _ ?_ | refine List.Sublist.cons _ ?_))
            · have p4 := h4
              try simp only [decide_eq_true_eq, decide_eq_false_iff_not, Int.not_lt, Int.not_le, Bool.not_eq_true', Bool.not_eq_false', Decidable.not_not, Bool.and_eq_true, Bool.or_eq_true, Bool.and_eq_false_iff, Bool.or_eq_false_iff] at p4
              refine T.exit ?_
              refine K.then_exit ?_
              refine K.then_exit ?_
              refine K.blk_exit_eq ?_
              obtain rfl : k = P.cs.length := by omega
              exact K.atX va trivial (by repeat (first | exact Sub.nil | refine Sub.cons rfl ?_)) (by repeat (first | exact List.Sublist.refl _ | exact List.nil_sublist _ | refine List.Sublist.cons_cons _ ?_ | refine List.Sublist.cons _ ?_))
        · skip
          intro y hphi
          obtain ⟨ya4, hya⟩ : ∃ z, z = y := ⟨y, rfl⟩
          subst hya
          refine T.seq ?_
          refine T.region ?_
          refine TL.yv (Wt.none rfl) rfl rfl (Yv.pur rfl) ?_
          refine TL.yv (Wt.none rfl) rfl rfl (Yv.pur rfl) ?_
          refine TL.nil ?_
          refine K.seq ?_
          refine T.ret ?_
          exact K.ret1 rfl rfl (fun w' hw => ⟨g27, q1, q3, q5, q7, q9, ya2, ya3, yb3, ya4, rfl, hw.sub (by repeat (first | exact List.Sublist.refl _ | exact List.nil_sublist _ | refine List.Sublist.cons_cons _ ?_ | refine List.Sublist.cons _ ?_))⟩)
end Go.Proofs.YtljgejbmimapdaaDoor
