/- The law TowerHolds. -/
import Derived.Test.YtphpmjnpjnmdmaaPh
set_option maxRecDepth 100000
set_option maxHeartbeats 4000000
set_option linter.unusedSimpArgs false
set_option linter.unusedVariables false
set_option linter.unusedSectionVars false
namespace Go.Proofs.Ytphpmjnpjnmdmaa
open Go.RowKit
theorem towerHolds_bad (xs : List Mv) (ts cs : List Si) (v vt vc : Value) (w : World) (h : MovesAt w v xs) (ht : SitesAt w vt ts) (hcr : SitesAt w vc cs) (hl : xs.length ≤ 9223372036854775807) (hlt : ts.length ≤ 9223372036854775807) (hlc : cs.length ≤ 9223372036854775807) (hco : codeOf xs ts cs true ≠ 0) : Calls Try.prog 6 #[v, vt, vc] w fun e w' => e = .returned (.bool true) ∧ Below w.heap.size w w' := by
  obtain ⟨A, cap, rfl, hsl⟩ := h.op
  refine calls_T (M := fun _ => False) (hs := []) Try.func6 rfl rfl rfl (Hp.refl _ _) ?_
  refine T.seq ?_
  refine T.region ?_
  refine TL.yv (Wt.none rfl) rfl rfl (Yv.pur rfl) ?_
  refine TL.nil ?_
  refine K.seq ?_
  refine T.seq ?_
  refine T.seq ?_
  refine T.region ?_
  refine TL.yv (Wt.none rfl) rfl rfl (Yv.pur rfl) ?_
  refine TL.yv (Wt.none rfl) rfl rfl (Yv.pur rfl) ?_
  refine TL.yv (Wt.none rfl) rfl rfl (Yv.pur rfl) ?_
  (refine TL.ew (Wt.none rfl) rfl rfl (Ew.callD rfl rfl rfl (fun w hw => few_ret xs ts cs _ _ _ _ (h.kept hw) (ht.kept hw) (hcr.kept hw))) ?_; rintro _ _ ⟨rfl, rfl⟩)
  first | refine TL.yv (Wt.none rfl) rfl rfl (Yv.pur rfl) ?_ | refine TL.yv (Wt.none rfl) rfl rfl (Yv.not rfl rfl) ?_
  refine TL.nil ?_
  refine K.seq ?_
  refine T.cond rfl (fun h1 => ?_) (fun h1 => ?_)
  · have p1 := h1
    try simp only [decide_eq_true_eq, decide_eq_false_iff_not, Int.not_lt, Int.not_le, Bool.not_eq_true', Bool.not_eq_false', Decidable.not_not, Bool.and_eq_true, Bool.or_eq_true, Bool.and_eq_false_iff, Bool.or_eq_false_iff] at p1
    refine T.seq ?_
    refine T.region ?_
    (refine TL.ew (Wt.none rfl) rfl rfl (Ew.callD rfl rfl rfl (fun w hw => known_ret _)) ?_; rintro _ _ ⟨rfl, rfl⟩)
    refine TL.yv (Wt.none rfl) rfl rfl (Yv.pur rfl) ?_
    refine TL.nil ?_
    refine K.seq ?_
    refine T.ret ?_
    refine K.then_ret ?_
    exact K.ret1 rfl rfl (fun w' hw => ⟨rfl, hw.isBelow⟩)
  · have p1 := h1
    try simp only [decide_eq_true_eq, decide_eq_false_iff_not, Int.not_lt, Int.not_le, Bool.not_eq_true', Bool.not_eq_false', Decidable.not_not, Bool.and_eq_true, Bool.or_eq_true, Bool.and_eq_false_iff, Bool.or_eq_false_iff] at p1
    refine T.skip ?_
    refine K.seq ?_
    refine T.seq ?_
    refine T.region ?_
    refine TL.yv (Wt.none rfl) rfl rfl (Yv.pur rfl) ?_
    refine TL.yv (Wt.none rfl) rfl rfl (Yv.pur rfl) ?_
    refine TL.yv (Wt.none rfl) rfl rfl (Yv.pur rfl) ?_
    (refine TL.ew (Wt.none rfl) rfl rfl (Ew.callD rfl rfl rfl (fun w hw => works_bad xs ts cs _ _ _ _ (h.kept hw) (ht.kept hw) (hcr.kept hw) hl hlt hlc hco)) ?_; rintro _ _ ⟨rfl, rfl⟩)
    refine TL.yv (Wt.none rfl) rfl rfl (Yv.pur rfl) ?_
    refine TL.yv (Wt.none rfl) rfl rfl (Yv.pur rfl) ?_
    refine TL.yv (Wt.none rfl) rfl rfl (Yv.pur rfl) ?_
    refine TL.yv (Wt.none rfl) rfl rfl (Yv.pur rfl) ?_
    refine TL.yv (Wt.none rfl) rfl rfl (Yv.pur rfl) ?_
    refine TL.nil ?_
    refine K.seq ?_
    refine T.seq ?_
    refine T.seq ?_
    refine T.region ?_
    refine TL.yv (Wt.none rfl) rfl rfl (Yv.pur rfl) ?_
    first | refine TL.yv (Wt.none rfl) rfl rfl (Yv.pur rfl) ?_ | refine TL.yv (Wt.none rfl) rfl rfl (Yv.neB rfl rfl rfl rfl) ?_
    refine TL.yv (Wt.none rfl) rfl rfl (Yv.pur rfl) ?_
    refine TL.off (Wt.not rfl rfl rfl (by simp [hco])) rfl rfl ?_
    refine TL.off (Wt.not rfl rfl rfl (by simp [hco])) rfl rfl ?_
    refine TL.off (Wt.not rfl rfl rfl (by simp [hco])) rfl rfl ?_
    refine TL.off (Wt.not rfl rfl rfl (by simp [hco])) rfl rfl ?_
    refine TL.off (Wt.not rfl rfl rfl (by simp [hco])) rfl rfl ?_
    refine TL.yv (Wt.none rfl) rfl rfl (Yv.pickT rfl rfl (by simp [hco]) rfl) ?_
    refine TL.nil ?_
    refine K.seq ?_
    refine T.condT rfl rfl ?_
    refine T.seq ?_
    refine T.region ?_
    refine TL.yv (Wt.none rfl) rfl rfl (Yv.pur rfl) ?_
    first | refine TL.yv (Wt.none rfl) rfl rfl (Yv.pur rfl) ?_ | refine TL.yv (Wt.none rfl) rfl rfl (Yv.neB rfl rfl rfl rfl) ?_
    refine TL.yv (Wt.none rfl) rfl rfl (Yv.pur rfl) ?_
    refine TL.yv (Wt.some rfl rfl rfl (by simp [hco])) rfl rfl (Yv.pur rfl) ?_
    first | refine TL.yv (Wt.some rfl rfl rfl (by simp [hco])) rfl rfl (Yv.lenSl rfl rfl) ?_ | refine TL.yv (Wt.some rfl rfl rfl (by simp [hco])) rfl rfl (Yv.lenAr rfl) ?_
    first | refine TL.yv (Wt.some rfl rfl rfl (by simp [hco])) rfl rfl (Yv.pur rfl) ?_ | refine TL.yv (Wt.some rfl rfl rfl (by simp [hco])) rfl rfl (Yv.eqB rfl rfl rfl rfl) ?_
    refine TL.yv (Wt.none rfl) rfl rfl (Yv.pickT rfl rfl (by simp [hco]) rfl) ?_
    refine TL.yv (Wt.none rfl) rfl rfl (Yv.pur rfl) ?_
    (refine TL.ew (Wt.some rfl rfl rfl (by simp)) rfl rfl (Ew.callD rfl rfl rfl (fun w hw => known_ret _)) ?_; rintro _ _ ⟨rfl, rfl⟩)
    refine TL.yv (Wt.none rfl) rfl rfl (Yv.pickT rfl rfl (by simp) rfl) ?_
    refine TL.yv (Wt.none rfl) rfl rfl (Yv.pur rfl) ?_
    refine TL.nil ?_
    refine K.seq ?_
    refine T.ret ?_
    refine K.then_ret ?_
    exact K.ret1 rfl rfl (fun w' hw => ⟨rfl, hw.isBelow⟩)
theorem towerHolds_ok (xs : List Mv) (ts cs : List Si) (v vt vc : Value) (w : World) (h : MovesAt w v xs) (ht : SitesAt w vt ts) (hcr : SitesAt w vc cs) (hl : xs.length ≤ 9223372036854775807) (hlt : ts.length ≤ 9223372036854775807) (hlc : cs.length ≤ 9223372036854775807) (hco : codeOf xs ts cs true = 0) : Calls Try.prog 6 #[v, vt, vc] w fun e w' => e = .returned (.bool true) ∧ Below w.heap.size w w' := by
  obtain ⟨A, cap, rfl, hsl⟩ := h.op
  obtain ⟨hx, hcap⟩ := code_facts hco
  have hwk := code_wk hco
  have hwk1 : ∀ k, k < xs.length → 1 ≤ (nth xs k).wk := fun k hk => (hwk k hk).1
  refine calls_T (M := fun _ => False) (hs := []) Try.func6 rfl rfl rfl (Hp.refl _ _) ?_
  refine T.seq ?_
  refine T.region ?_
  refine TL.yv (Wt.none rfl) rfl rfl (Yv.pur rfl) ?_
  refine TL.nil ?_
  refine K.seq ?_
  refine T.seq ?_
  refine T.seq ?_
  refine T.region ?_
  refine TL.yv (Wt.none rfl) rfl rfl (Yv.pur rfl) ?_
  refine TL.yv (Wt.none rfl) rfl rfl (Yv.pur rfl) ?_
  refine TL.yv (Wt.none rfl) rfl rfl (Yv.pur rfl) ?_
  (refine TL.ew (Wt.none rfl) rfl rfl (Ew.callD rfl rfl rfl (fun w hw => few_ret xs ts cs _ _ _ _ (h.kept hw) (ht.kept hw) (hcr.kept hw))) ?_; rintro _ _ ⟨rfl, rfl⟩)
  first | refine TL.yv (Wt.none rfl) rfl rfl (Yv.pur rfl) ?_ | refine TL.yv (Wt.none rfl) rfl rfl (Yv.not rfl rfl) ?_
  refine TL.nil ?_
  refine K.seq ?_
  refine T.cond rfl (fun h1 => ?_) (fun h1 => ?_)
  · have p1 := h1
    try simp only [decide_eq_true_eq, decide_eq_false_iff_not, Int.not_lt, Int.not_le, Bool.not_eq_true', Bool.not_eq_false', Decidable.not_not, Bool.and_eq_true, Bool.or_eq_true, Bool.and_eq_false_iff, Bool.or_eq_false_iff] at p1
    refine T.seq ?_
    refine T.region ?_
    (refine TL.ew (Wt.none rfl) rfl rfl (Ew.callD rfl rfl rfl (fun w hw => known_ret _)) ?_; rintro _ _ ⟨rfl, rfl⟩)
    refine TL.yv (Wt.none rfl) rfl rfl (Yv.pur rfl) ?_
    refine TL.nil ?_
    refine K.seq ?_
    refine T.ret ?_
    refine K.then_ret ?_
    exact K.ret1 rfl rfl (fun w' hw => ⟨rfl, hw.isBelow⟩)
  · have p1 := h1
    try simp only [decide_eq_true_eq, decide_eq_false_iff_not, Int.not_lt, Int.not_le, Bool.not_eq_true', Bool.not_eq_false', Decidable.not_not, Bool.and_eq_true, Bool.or_eq_true, Bool.and_eq_false_iff, Bool.or_eq_false_iff] at p1
    refine T.skip ?_
    refine K.seq ?_
    refine T.seq ?_
    refine T.region ?_
    refine TL.yv (Wt.none rfl) rfl rfl (Yv.pur rfl) ?_
    refine TL.yv (Wt.none rfl) rfl rfl (Yv.pur rfl) ?_
    refine TL.yv (Wt.none rfl) rfl rfl (Yv.pur rfl) ?_
    (refine TL.ew (Wt.none rfl) rfl rfl (Ew.callH rfl rfl rfl (fun w hw => works_ok xs ts cs _ _ _ _ (h.kept hw) (ht.kept hw) (hcr.kept hw) hl hlt hlc hco)) ?_; rintro _ _ ⟨⟨v32, ws⟩, ⟨hwi, hlen⟩, rfl, rfl⟩)
    dsimp only [List.cons_append, List.nil_append] at hwi hlen ⊢
    refine TL.yv (Wt.none rfl) rfl rfl (Yv.pur rfl) ?_
    refine TL.yv (Wt.none rfl) rfl rfl (Yv.pur rfl) ?_
    refine TL.yv (Wt.none rfl) rfl rfl (Yv.pur rfl) ?_
    refine TL.yv (Wt.none rfl) rfl rfl (Yv.pur rfl) ?_
    refine TL.yv (Wt.none rfl) rfl rfl (Yv.pur rfl) ?_
    refine TL.nil ?_
    refine K.seq ?_
    refine T.seq ?_
    refine T.seq ?_
    refine T.region ?_
    refine TL.yv (Wt.none rfl) rfl rfl (Yv.pur rfl) ?_
    first | refine TL.yv (Wt.none rfl) rfl rfl (Yv.pur rfl) ?_ | refine TL.yv (Wt.none rfl) rfl rfl (Yv.neB rfl rfl rfl rfl) ?_
    refine TL.yv (Wt.none rfl) rfl rfl (Yv.pur rfl) ?_
    refine TL.yv (Wt.some rfl rfl rfl (by simp)) rfl rfl (Yv.pur rfl) ?_
    first | refine TL.yv (Wt.some rfl rfl rfl (by simp)) rfl rfl (Yv.lenSl rfl rfl) ?_ | refine TL.yv (Wt.some rfl rfl rfl (by simp)) rfl rfl (Yv.lenAr rfl) ?_ | refine TL.yv (Wt.some rfl rfl rfl (by simp)) rfl rfl (Yv.lenE 0 rfl rfl rfl) ?_ | refine TL.yv (Wt.some rfl rfl rfl (by simp)) rfl rfl (Yv.lenE 1 rfl rfl rfl) ?_ | refine TL.yv (Wt.some rfl rfl rfl (by simp)) rfl rfl (Yv.lenE 2 rfl rfl rfl) ?_
    refine TL.yv (Wt.some rfl rfl rfl (by simp)) rfl rfl (Yv.pur rfl) ?_
    first | refine TL.yv (Wt.some rfl rfl rfl (by simp)) rfl rfl (Yv.lenSl rfl rfl) ?_ | refine TL.yv (Wt.some rfl rfl rfl (by simp)) rfl rfl (Yv.lenAr rfl) ?_ | refine TL.yv (Wt.some rfl rfl rfl (by simp)) rfl rfl (Yv.lenE 0 rfl rfl rfl) ?_ | refine TL.yv (Wt.some rfl rfl rfl (by simp)) rfl rfl (Yv.lenE 1 rfl rfl rfl) ?_ | refine TL.yv (Wt.some rfl rfl rfl (by simp)) rfl rfl (Yv.lenE 2 rfl rfl rfl) ?_
    first | refine TL.yv (Wt.some rfl rfl rfl (by simp)) rfl rfl (Yv.pur rfl) ?_ | refine TL.yv (Wt.some rfl rfl rfl (by simp)) rfl rfl (Yv.neB rfl rfl rfl rfl) ?_
    refine TL.yv (Wt.none rfl) rfl rfl (Yv.pickF rfl rfl (by simp) rfl) ?_
    refine TL.nil ?_
    refine K.seq ?_
    refine T.condF rfl (by simp [hlen]) ?_
    refine T.skip ?_
    refine K.seq ?_
    refine T.seq ?_
    refine T.region ?_
    refine TL.yv (Wt.none rfl) rfl rfl (Yv.pur rfl) ?_
    refine TL.nil ?_
    refine K.seq ?_
    refine T.seq ?_
    refine T.seq ?_
    refine T.region ?_
    refine TL.yv (Wt.none rfl) rfl rfl (Yv.pur rfl) ?_
    refine TL.nil ?_
    refine K.seq ?_
    refine T.block ?_
    refine T.loop (ι := Nat) (fun k => [(0, .slice A xs.length cap), (1, vt), (2, vc), (7, v32), (9, .int .i64 (sumW xs k)), (10, .int .i64 (k : Int))]) (fun k => [.sl v32 51 3 ws.length (wcells ws)]) (fun k => k ≤ xs.length) (fun k => xs.length - k) 0 ?_ ?_ ?_ ?_
    · omega
    · exact (by repeat (first | exact Sub.nil | refine Sub.cons rfl ?_))
    · exact (by repeat (first | exact List.Sublist.refl _ | exact List.nil_sublist _ | refine List.Sublist.cons_cons _ ?_ | refine List.Sublist.cons _ ?_))
    · intro k hphi
      refine T.seq ?_
      refine T.seq ?_
      refine T.region ?_
      refine TL.yv (Wt.none rfl) rfl rfl (Yv.pur rfl) ?_
      refine TL.yv (Wt.none rfl) rfl rfl (Yv.pur rfl) ?_
      first | refine TL.yv (Wt.none rfl) rfl rfl (Yv.lenSl rfl rfl) ?_ | refine TL.yv (Wt.none rfl) rfl rfl (Yv.lenAr rfl) ?_ | refine TL.yv (Wt.none rfl) rfl rfl (Yv.lenE 0 rfl rfl rfl) ?_ | refine TL.yv (Wt.none rfl) rfl rfl (Yv.lenE 1 rfl rfl rfl) ?_ | refine TL.yv (Wt.none rfl) rfl rfl (Yv.lenE 2 rfl rfl rfl) ?_
      refine TL.yv (Wt.none rfl) rfl rfl (Yv.pur rfl) ?_
      refine TL.nil ?_
      refine K.seq ?_
      refine T.cond rfl (fun h2 => ?_) (fun h2 => ?_)
      · have p2 := h2
        try simp only [decide_eq_true_eq, decide_eq_false_iff_not, Int.not_lt, Int.not_le, Bool.not_eq_true', Bool.not_eq_false', Decidable.not_not, Bool.and_eq_true, Bool.or_eq_true, Bool.and_eq_false_iff, Bool.or_eq_false_iff] at p2
        obtain ⟨g, off, rfl, hc⟩ := hsl (by omega)
        have hk := hc k (by omega)
        simp only [Mv.cells] at hk
        have e1 := hwi.st k (by omega)
        have e2 := hwi.fin k (by omega)
        have e3 := (hwi.first k (by omega)).ge
        have e4 := hwk k (by omega)
        have e9 := sumW_le hwk k (by omega)
        have e5 := hwi.bnd k (by omega)
        have e6 := wcells_at (ws := ws) (k := k) (by omega)
        refine T.slForm 0 rfl (by omega) ?_
        rintro gw capw rfl
        refine T.skip ?_
        refine K.seq ?_
        refine T.seq ?_
        refine T.block ?_
        refine T.cutX (ι := Nat × Nat) (fun y => [(0, .slice (some ⟨g, off, none⟩) xs.length cap), (1, vt), (2, vc), (7, .slice (some ⟨gw, 0, none⟩) ws.length capw), (9, .int .i64 (sumW xs k)), (10, .int .i64 (k : Int)), (11, .pointer (some ⟨y.1, 0, none⟩)), (12, .pointer (some ⟨y.2, 0, none⟩))]) (fun y => [.row y.1 27 [.int .i64 (nth xs k).st, .int .i64 (nth xs k).old, .int .i64 (nth xs k).nw, .int .i64 (nth xs k).tw, .int .i64 (nth xs k).cr, .int .i64 (nth xs k).wk], .row y.2 51 [.int .i64 (nth ws k).st, .int .i64 (nth ws k).start, .int .i64 (nth ws k).fin], .sl (.slice (some ⟨gw, 0, none⟩) ws.length capw) 51 3 ws.length (wcells ws)]) (fun y => True) ?_ ?_
        · skip
          refine T.draw (.still 0 (.still 1 (.still 2 (.still 3 (.still 4 (.still 5 (.still 6 (.still 7 (.two 8 9 (.eff 9 (.eff 10 (.eff 11 .done))) (.eff 8 (.eff 10 (.eff 11 .done)))))))))))) _ (by kernel_rfl) (List.Sublist.refl _) ?_
          refine TS.still rfl (Wt.none rfl) rfl rfl (Yv.pur rfl) ?_
          refine TS.still rfl (Wt.none rfl) rfl rfl (Yv.pur rfl) ?_
          first | refine TS.still rfl (Wt.none rfl) rfl rfl (Yv.indexSl rfl rfl rfl rfl (by omega)) ?_ | refine TS.still rfl (Wt.none rfl) rfl rfl (Yv.indexAr rfl rfl rfl rfl (by omega)) ?_
          first | refine TS.still rfl (Wt.none rfl) rfl rfl (Yv.loadAB rfl rfl hk rfl (fun h => h)) ?_ | refine TS.still rfl (Wt.none rfl) rfl rfl (Yv.loadAS 0 (m := [.int .i64 (nth ws k).st, .int .i64 (nth ws k).start, .int .i64 (nth ws k).fin]) rfl rfl rfl e6 rfl) ?_ | refine TS.still rfl (Wt.none rfl) rfl rfl (Yv.loadS 2 rfl rfl rfl e7) ?_ | refine TS.still rfl (Wt.none rfl) rfl rfl (Yv.loadS 0 rfl rfl rfl e8) ?_ | refine TS.still rfl (Wt.none rfl) rfl rfl (Yv.loadAO 0 rfl rfl rfl rfl) ?_ | refine TS.still rfl (Wt.none rfl) rfl rfl (Yv.loadAO 1 rfl rfl rfl rfl) ?_ | refine TS.still rfl (Wt.none rfl) rfl rfl (Yv.loadAO 2 rfl rfl rfl rfl) ?_ | refine TS.still rfl (Wt.none rfl) rfl rfl (Yv.loadAB rfl rfl (by assumption) rfl (fun h => h)) ?_
          refine TS.still rfl (Wt.none rfl) rfl rfl (Yv.pur rfl) ?_
          refine TS.still rfl (Wt.none rfl) rfl rfl (Yv.pur rfl) ?_
          first | refine TS.still rfl (Wt.none rfl) rfl rfl (Yv.indexSl rfl rfl rfl rfl (by omega)) ?_ | refine TS.still rfl (Wt.none rfl) rfl rfl (Yv.indexAr rfl rfl rfl rfl (by omega)) ?_
          first | refine TS.still rfl (Wt.none rfl) rfl rfl (Yv.loadAB rfl rfl hk rfl (fun h => h)) ?_ | refine TS.still rfl (Wt.none rfl) rfl rfl (Yv.loadAS 0 (m := [.int .i64 (nth ws k).st, .int .i64 (nth ws k).start, .int .i64 (nth ws k).fin]) rfl rfl rfl e6 rfl) ?_ | refine TS.still rfl (Wt.none rfl) rfl rfl (Yv.loadS 2 rfl rfl rfl e7) ?_ | refine TS.still rfl (Wt.none rfl) rfl rfl (Yv.loadS 0 rfl rfl rfl e8) ?_ | refine TS.still rfl (Wt.none rfl) rfl rfl (Yv.loadAO 0 rfl rfl rfl rfl) ?_ | refine TS.still rfl (Wt.none rfl) rfl rfl (Yv.loadAO 1 rfl rfl rfl rfl) ?_ | refine TS.still rfl (Wt.none rfl) rfl rfl (Yv.loadAO 2 rfl rfl rfl rfl) ?_ | refine TS.still rfl (Wt.none rfl) rfl rfl (Yv.loadAB rfl rfl (by assumption) rfl (fun h => h)) ?_
          refine TS.two ?_ ?_
          · skip
            (refine TSo.ew rfl (Wt.none rfl) rfl rfl (Ew.alloc rfl) ?_; rintro _ _ ⟨g11, rfl, rfl⟩; refine ⟨(by repeat (first | exact List.Sublist.refl _ | exact List.nil_sublist _ | refine List.Sublist.cons_cons _ ?_ | refine List.Sublist.cons _ ?_)), ?_⟩)
            refine TS.eff ?_
            (refine TSo.ew rfl (Wt.none rfl) rfl rfl (Ew.alloc rfl) ?_; rintro _ _ ⟨g12, rfl, rfl⟩; refine ⟨(by repeat (first | exact List.Sublist.refl _ | exact List.nil_sublist _ | refine List.Sublist.cons_cons _ ?_ | refine List.Sublist.cons _ ?_)), ?_⟩)
            refine TS.eff ?_
            first | (refine TSo.ew0 rfl (Wt.none rfl) rfl (Ew.storeAll 0 rfl rfl rfl rfl rfl rfl) ?_; rintro _ _ ⟨rfl, rfl⟩; refine ⟨(by repeat (first | exact List.Sublist.refl _ | exact List.nil_sublist _ | refine List.Sublist.cons_cons _ ?_ | refine List.Sublist.cons _ ?_)), ?_⟩) | (refine TSo.ew0 rfl (Wt.none rfl) rfl (Ew.storeAll 1 rfl rfl rfl rfl rfl rfl) ?_; rintro _ _ ⟨rfl, rfl⟩; refine ⟨(by repeat (first | exact List.Sublist.refl _ | exact List.nil_sublist _ | refine List.Sublist.cons_cons _ ?_ | refine List.Sublist.cons _ ?_)), ?_⟩) | (refine TSo.ew0 rfl (Wt.none rfl) rfl (Ew.storeAll 2 rfl rfl rfl rfl rfl rfl) ?_; rintro _ _ ⟨rfl, rfl⟩; refine ⟨(by repeat (first | exact List.Sublist.refl _ | exact List.nil_sublist _ | refine List.Sublist.cons_cons _ ?_ | refine List.Sublist.cons _ ?_)), ?_⟩) | (refine TSo.ew0 rfl (Wt.none rfl) rfl (Ew.storeAll 3 rfl rfl rfl rfl rfl rfl) ?_; rintro _ _ ⟨rfl, rfl⟩; refine ⟨(by repeat (first | exact List.Sublist.refl _ | exact List.nil_sublist _ | refine List.Sublist.cons_cons _ ?_ | refine List.Sublist.cons _ ?_)), ?_⟩) | (refine TSo.ew0 rfl (Wt.none rfl) rfl (Ew.storeAll 4 rfl rfl rfl rfl rfl rfl) ?_; rintro _ _ ⟨rfl, rfl⟩; refine ⟨(by repeat (first | exact List.Sublist.refl _ | exact List.nil_sublist _ | refine List.Sublist.cons_cons _ ?_ | refine List.Sublist.cons _ ?_)), ?_⟩)
            refine TS.eff ?_
            first | (refine TSo.ew0 rfl (Wt.none rfl) rfl (Ew.storeAll 0 rfl rfl rfl rfl rfl rfl) ?_; rintro _ _ ⟨rfl, rfl⟩; refine ⟨(by repeat (first | exact List.Sublist.refl _ | exact List.nil_sublist _ | refine List.Sublist.cons_cons _ ?_ | refine List.Sublist.cons _ ?_)), ?_⟩) | (refine TSo.ew0 rfl (Wt.none rfl) rfl (Ew.storeAll 1 rfl rfl rfl rfl rfl rfl) ?_; rintro _ _ ⟨rfl, rfl⟩; refine ⟨(by repeat (first | exact List.Sublist.refl _ | exact List.nil_sublist _ | refine List.Sublist.cons_cons _ ?_ | refine List.Sublist.cons _ ?_)), ?_⟩) | (refine TSo.ew0 rfl (Wt.none rfl) rfl (Ew.storeAll 2 rfl rfl rfl rfl rfl rfl) ?_; rintro _ _ ⟨rfl, rfl⟩; refine ⟨(by repeat (first | exact List.Sublist.refl _ | exact List.nil_sublist _ | refine List.Sublist.cons_cons _ ?_ | refine List.Sublist.cons _ ?_)), ?_⟩) | (refine TSo.ew0 rfl (Wt.none rfl) rfl (Ew.storeAll 3 rfl rfl rfl rfl rfl rfl) ?_; rintro _ _ ⟨rfl, rfl⟩; refine ⟨(by repeat (first | exact List.Sublist.refl _ | exact List.nil_sublist _ | refine List.Sublist.cons_cons _ ?_ | refine List.Sublist.cons _ ?_)), ?_⟩) | (refine TSo.ew0 rfl (Wt.none rfl) rfl (Ew.storeAll 4 rfl rfl rfl rfl rfl rfl) ?_; rintro _ _ ⟨rfl, rfl⟩; refine ⟨(by repeat (first | exact List.Sublist.refl _ | exact List.nil_sublist _ | refine List.Sublist.cons_cons _ ?_ | refine List.Sublist.cons _ ?_)), ?_⟩)
            refine TS.done ?_
            refine K.perm (List.Perm.swap _ _ _) ?_
            exact K.atX (g11, g12) trivial (by repeat (first | exact Sub.nil | refine Sub.cons rfl ?_)) (by repeat (first | exact List.Sublist.refl _ | exact List.nil_sublist _ | refine List.Sublist.cons_cons _ ?_ | refine List.Sublist.cons _ ?_))
          · skip
            (refine TSo.ew rfl (Wt.none rfl) rfl rfl (Ew.alloc rfl) ?_; rintro _ _ ⟨g12, rfl, rfl⟩; refine ⟨(by repeat (first | exact List.Sublist.refl _ | exact List.nil_sublist _ | refine List.Sublist.cons_cons _ ?_ | refine List.Sublist.cons _ ?_)), ?_⟩)
            refine TS.eff ?_
            (refine TSo.ew rfl (Wt.none rfl) rfl rfl (Ew.alloc rfl) ?_; rintro _ _ ⟨g11, rfl, rfl⟩; refine ⟨(by repeat (first | exact List.Sublist.refl _ | exact List.nil_sublist _ | refine List.Sublist.cons_cons _ ?_ | refine List.Sublist.cons _ ?_)), ?_⟩)
            refine TS.eff ?_
            first | (refine TSo.ew0 rfl (Wt.none rfl) rfl (Ew.storeAll 0 rfl rfl rfl rfl rfl rfl) ?_; rintro _ _ ⟨rfl, rfl⟩; refine ⟨(by repeat (first | exact List.Sublist.refl _ | exact List.nil_sublist _ | refine List.Sublist.cons_cons _ ?_ | refine List.Sublist.cons _ ?_)), ?_⟩) | (refine TSo.ew0 rfl (Wt.none rfl) rfl (Ew.storeAll 1 rfl rfl rfl rfl rfl rfl) ?_; rintro _ _ ⟨rfl, rfl⟩; refine ⟨(by repeat (first | exact List.Sublist.refl _ | exact List.nil_sublist _ | refine List.Sublist.cons_cons _ ?_ | refine List.Sublist.cons _ ?_)), ?_⟩) | (refine TSo.ew0 rfl (Wt.none rfl) rfl (Ew.storeAll 2 rfl rfl rfl rfl rfl rfl) ?_; rintro _ _ ⟨rfl, rfl⟩; refine ⟨(by repeat (first | exact List.Sublist.refl _ | exact List.nil_sublist _ | refine List.Sublist.cons_cons _ ?_ | refine List.Sublist.cons _ ?_)), ?_⟩) | (refine TSo.ew0 rfl (Wt.none rfl) rfl (Ew.storeAll 3 rfl rfl rfl rfl rfl rfl) ?_; rintro _ _ ⟨rfl, rfl⟩; refine ⟨(by repeat (first | exact List.Sublist.refl _ | exact List.nil_sublist _ | refine List.Sublist.cons_cons _ ?_ | refine List.Sublist.cons _ ?_)), ?_⟩) | (refine TSo.ew0 rfl (Wt.none rfl) rfl (Ew.storeAll 4 rfl rfl rfl rfl rfl rfl) ?_; rintro _ _ ⟨rfl, rfl⟩; refine ⟨(by repeat (first | exact List.Sublist.refl _ | exact List.nil_sublist _ | refine List.Sublist.cons_cons _ ?_ | refine List.Sublist.cons _ ?_)), ?_⟩)
            refine TS.eff ?_
            first | (refine TSo.ew0 rfl (Wt.none rfl) rfl (Ew.storeAll 0 rfl rfl rfl rfl rfl rfl) ?_; rintro _ _ ⟨rfl, rfl⟩; refine ⟨(by repeat (first | exact List.Sublist.refl _ | exact List.nil_sublist _ | refine List.Sublist.cons_cons _ ?_ | refine List.Sublist.cons _ ?_)), ?_⟩) | (refine TSo.ew0 rfl (Wt.none rfl) rfl (Ew.storeAll 1 rfl rfl rfl rfl rfl rfl) ?_; rintro _ _ ⟨rfl, rfl⟩; refine ⟨(by repeat (first | exact List.Sublist.refl _ | exact List.nil_sublist _ | refine List.Sublist.cons_cons _ ?_ | refine List.Sublist.cons _ ?_)), ?_⟩) | (refine TSo.ew0 rfl (Wt.none rfl) rfl (Ew.storeAll 2 rfl rfl rfl rfl rfl rfl) ?_; rintro _ _ ⟨rfl, rfl⟩; refine ⟨(by repeat (first | exact List.Sublist.refl _ | exact List.nil_sublist _ | refine List.Sublist.cons_cons _ ?_ | refine List.Sublist.cons _ ?_)), ?_⟩) | (refine TSo.ew0 rfl (Wt.none rfl) rfl (Ew.storeAll 3 rfl rfl rfl rfl rfl rfl) ?_; rintro _ _ ⟨rfl, rfl⟩; refine ⟨(by repeat (first | exact List.Sublist.refl _ | exact List.nil_sublist _ | refine List.Sublist.cons_cons _ ?_ | refine List.Sublist.cons _ ?_)), ?_⟩) | (refine TSo.ew0 rfl (Wt.none rfl) rfl (Ew.storeAll 4 rfl rfl rfl rfl rfl rfl) ?_; rintro _ _ ⟨rfl, rfl⟩; refine ⟨(by repeat (first | exact List.Sublist.refl _ | exact List.nil_sublist _ | refine List.Sublist.cons_cons _ ?_ | refine List.Sublist.cons _ ?_)), ?_⟩)
            refine TS.done ?_
            exact K.atX (g11, g12) trivial (by repeat (first | exact Sub.nil | refine Sub.cons rfl ?_)) (by repeat (first | exact List.Sublist.refl _ | exact List.nil_sublist _ | refine List.Sublist.cons_cons _ ?_ | refine List.Sublist.cons _ ?_))
        · skip
          intro y hphi
          obtain ⟨ga, gb⟩ := y
          dsimp only
          refine T.seq ?_
          refine T.region ?_
          refine TL.yv (Wt.none rfl) rfl rfl (Yv.pur rfl) ?_
          refine TL.yv (Wt.none rfl) rfl rfl (Yv.fieldAddr rfl rfl) ?_
          first | refine TL.yv (Wt.none rfl) rfl rfl (Yv.loadAB rfl rfl hk rfl (fun h => h)) ?_ | refine TL.yv (Wt.none rfl) rfl rfl (Yv.loadAS 0 (m := [.int .i64 (nth ws k).st, .int .i64 (nth ws k).start, .int .i64 (nth ws k).fin]) rfl rfl rfl e6 rfl) ?_ | refine TL.yv (Wt.none rfl) rfl rfl (Yv.loadS 2 rfl rfl rfl e7) ?_ | refine TL.yv (Wt.none rfl) rfl rfl (Yv.loadS 0 rfl rfl rfl e8) ?_ | refine TL.yv (Wt.none rfl) rfl rfl (Yv.loadO 0 rfl rfl rfl rfl) ?_ | refine TL.yv (Wt.none rfl) rfl rfl (Yv.loadO 1 rfl rfl rfl rfl) ?_ | refine TL.yv (Wt.none rfl) rfl rfl (Yv.loadO 2 rfl rfl rfl rfl) ?_ | refine TL.yv (Wt.none rfl) rfl rfl (Yv.loadO 3 rfl rfl rfl rfl) ?_ | refine TL.yv (Wt.none rfl) rfl rfl (Yv.loadO 4 rfl rfl rfl rfl) ?_ | refine TL.yv (Wt.none rfl) rfl rfl (Yv.loadB rfl rfl (by assumption) (fun h => h)) ?_ | refine TL.yv (Wt.none rfl) rfl rfl (Yv.loadS 0 rfl rfl rfl (by first | rfl | assumption)) ?_ | refine TL.yv (Wt.none rfl) rfl rfl (Yv.loadS 1 rfl rfl rfl (by first | rfl | assumption)) ?_ | refine TL.yv (Wt.none rfl) rfl rfl (Yv.loadS 2 rfl rfl rfl (by first | rfl | assumption)) ?_ | refine TL.yv (Wt.none rfl) rfl rfl (Yv.loadS 3 rfl rfl rfl (by first | rfl | assumption)) ?_ | refine TL.yv (Wt.none rfl) rfl rfl (Yv.loadS 4 rfl rfl rfl (by first | rfl | assumption)) ?_
          first | refine TL.yv (Wt.none rfl) rfl rfl (Yv.addI rfl rfl rfl (by omega)) ?_ | refine TL.yv (Wt.none rfl) rfl rfl (Yv.pur rfl) ?_
          refine TL.yv (Wt.none rfl) rfl rfl (Yv.pur rfl) ?_
          refine TL.nil ?_
          refine K.seq ?_
          refine T.seq ?_
          refine T.seq ?_
          refine T.region ?_
          refine TL.yv (Wt.none rfl) rfl rfl (Yv.fieldAddr rfl rfl) ?_
          first | refine TL.yv (Wt.none rfl) rfl rfl (Yv.loadAB rfl rfl hk rfl (fun h => h)) ?_ | refine TL.yv (Wt.none rfl) rfl rfl (Yv.loadAS 0 (m := [.int .i64 (nth ws k).st, .int .i64 (nth ws k).start, .int .i64 (nth ws k).fin]) rfl rfl rfl e6 rfl) ?_ | refine TL.yv (Wt.none rfl) rfl rfl (Yv.loadS 2 rfl rfl rfl e7) ?_ | refine TL.yv (Wt.none rfl) rfl rfl (Yv.loadS 0 rfl rfl rfl e8) ?_ | refine TL.yv (Wt.none rfl) rfl rfl (Yv.loadO 0 rfl rfl rfl rfl) ?_ | refine TL.yv (Wt.none rfl) rfl rfl (Yv.loadO 1 rfl rfl rfl rfl) ?_ | refine TL.yv (Wt.none rfl) rfl rfl (Yv.loadO 2 rfl rfl rfl rfl) ?_ | refine TL.yv (Wt.none rfl) rfl rfl (Yv.loadO 3 rfl rfl rfl rfl) ?_ | refine TL.yv (Wt.none rfl) rfl rfl (Yv.loadO 4 rfl rfl rfl rfl) ?_ | refine TL.yv (Wt.none rfl) rfl rfl (Yv.loadB rfl rfl (by assumption) (fun h => h)) ?_ | refine TL.yv (Wt.none rfl) rfl rfl (Yv.loadS 0 rfl rfl rfl (by first | rfl | assumption)) ?_ | refine TL.yv (Wt.none rfl) rfl rfl (Yv.loadS 1 rfl rfl rfl (by first | rfl | assumption)) ?_ | refine TL.yv (Wt.none rfl) rfl rfl (Yv.loadS 2 rfl rfl rfl (by first | rfl | assumption)) ?_ | refine TL.yv (Wt.none rfl) rfl rfl (Yv.loadS 3 rfl rfl rfl (by first | rfl | assumption)) ?_ | refine TL.yv (Wt.none rfl) rfl rfl (Yv.loadS 4 rfl rfl rfl (by first | rfl | assumption)) ?_
          refine TL.yv (Wt.none rfl) rfl rfl (Yv.fieldAddr rfl rfl) ?_
          first | refine TL.yv (Wt.none rfl) rfl rfl (Yv.loadAB rfl rfl hk rfl (fun h => h)) ?_ | refine TL.yv (Wt.none rfl) rfl rfl (Yv.loadAS 0 (m := [.int .i64 (nth ws k).st, .int .i64 (nth ws k).start, .int .i64 (nth ws k).fin]) rfl rfl rfl e6 rfl) ?_ | refine TL.yv (Wt.none rfl) rfl rfl (Yv.loadS 2 rfl rfl rfl e7) ?_ | refine TL.yv (Wt.none rfl) rfl rfl (Yv.loadS 0 rfl rfl rfl e8) ?_ | refine TL.yv (Wt.none rfl) rfl rfl (Yv.loadO 0 rfl rfl rfl rfl) ?_ | refine TL.yv (Wt.none rfl) rfl rfl (Yv.loadO 1 rfl rfl rfl rfl) ?_ | refine TL.yv (Wt.none rfl) rfl rfl (Yv.loadO 2 rfl rfl rfl rfl) ?_ | refine TL.yv (Wt.none rfl) rfl rfl (Yv.loadO 3 rfl rfl rfl rfl) ?_ | refine TL.yv (Wt.none rfl) rfl rfl (Yv.loadO 4 rfl rfl rfl rfl) ?_ | refine TL.yv (Wt.none rfl) rfl rfl (Yv.loadB rfl rfl (by assumption) (fun h => h)) ?_ | refine TL.yv (Wt.none rfl) rfl rfl (Yv.loadS 0 rfl rfl rfl (by first | rfl | assumption)) ?_ | refine TL.yv (Wt.none rfl) rfl rfl (Yv.loadS 1 rfl rfl rfl (by first | rfl | assumption)) ?_ | refine TL.yv (Wt.none rfl) rfl rfl (Yv.loadS 2 rfl rfl rfl (by first | rfl | assumption)) ?_ | refine TL.yv (Wt.none rfl) rfl rfl (Yv.loadS 3 rfl rfl rfl (by first | rfl | assumption)) ?_ | refine TL.yv (Wt.none rfl) rfl rfl (Yv.loadS 4 rfl rfl rfl (by first | rfl | assumption)) ?_
          first | refine TL.yv (Wt.none rfl) rfl rfl (Yv.pur rfl) ?_ | refine TL.yv (Wt.none rfl) rfl rfl (Yv.neB rfl rfl rfl rfl) ?_
          refine TL.yv (Wt.none rfl) rfl rfl (Yv.pur rfl) ?_
          refine TL.yv (Wt.some rfl rfl rfl (by simp [e1])) rfl rfl (Yv.fieldAddr rfl rfl) ?_
          first | refine TL.yv (Wt.some rfl rfl rfl (by simp [e1])) rfl rfl (Yv.loadAB rfl rfl hk rfl (fun h => h)) ?_ | refine TL.yv (Wt.some rfl rfl rfl (by simp [e1])) rfl rfl (Yv.loadAS 0 (m := [.int .i64 (nth ws k).st, .int .i64 (nth ws k).start, .int .i64 (nth ws k).fin]) rfl rfl rfl e6 rfl) ?_ | refine TL.yv (Wt.some rfl rfl rfl (by simp [e1])) rfl rfl (Yv.loadS 2 rfl rfl rfl e7) ?_ | refine TL.yv (Wt.some rfl rfl rfl (by simp [e1])) rfl rfl (Yv.loadS 0 rfl rfl rfl e8) ?_ | refine TL.yv (Wt.some rfl rfl rfl (by simp [e1])) rfl rfl (Yv.loadO 0 rfl rfl rfl rfl) ?_ | refine TL.yv (Wt.some rfl rfl rfl (by simp [e1])) rfl rfl (Yv.loadO 1 rfl rfl rfl rfl) ?_ | refine TL.yv (Wt.some rfl rfl rfl (by simp [e1])) rfl rfl (Yv.loadO 2 rfl rfl rfl rfl) ?_ | refine TL.yv (Wt.some rfl rfl rfl (by simp [e1])) rfl rfl (Yv.loadO 3 rfl rfl rfl rfl) ?_ | refine TL.yv (Wt.some rfl rfl rfl (by simp [e1])) rfl rfl (Yv.loadO 4 rfl rfl rfl rfl) ?_ | refine TL.yv (Wt.some rfl rfl rfl (by simp [e1])) rfl rfl (Yv.loadB rfl rfl (by assumption) (fun h => h)) ?_ | refine TL.yv (Wt.some rfl rfl rfl (by simp [e1])) rfl rfl (Yv.loadS 0 rfl rfl rfl (by first | rfl | assumption)) ?_ | refine TL.yv (Wt.some rfl rfl rfl (by simp [e1])) rfl rfl (Yv.loadS 1 rfl rfl rfl (by first | rfl | assumption)) ?_ | refine TL.yv (Wt.some rfl rfl rfl (by simp [e1])) rfl rfl (Yv.loadS 2 rfl rfl rfl (by first | rfl | assumption)) ?_ | refine TL.yv (Wt.some rfl rfl rfl (by simp [e1])) rfl rfl (Yv.loadS 3 rfl rfl rfl (by first | rfl | assumption)) ?_ | refine TL.yv (Wt.some rfl rfl rfl (by simp [e1])) rfl rfl (Yv.loadS 4 rfl rfl rfl (by first | rfl | assumption)) ?_
          refine TL.yv (Wt.some rfl rfl rfl (by simp [e1])) rfl rfl (Yv.pur rfl) ?_
          refine TL.yv (Wt.none rfl) rfl rfl (Yv.pickF rfl rfl (by simp [e1]) rfl) ?_
          refine TL.yv (Wt.none rfl) rfl rfl (Yv.pur rfl) ?_
          refine TL.yv (Wt.some rfl rfl rfl (decide_eq_false (by omega))) rfl rfl (Yv.fieldAddr rfl rfl) ?_
          first | refine TL.yv (Wt.some rfl rfl rfl (decide_eq_false (by omega))) rfl rfl (Yv.loadAB rfl rfl hk rfl (fun h => h)) ?_ | refine TL.yv (Wt.some rfl rfl rfl (decide_eq_false (by omega))) rfl rfl (Yv.loadAS 0 (m := [.int .i64 (nth ws k).st, .int .i64 (nth ws k).start, .int .i64 (nth ws k).fin]) rfl rfl rfl e6 rfl) ?_ | refine TL.yv (Wt.some rfl rfl rfl (decide_eq_false (by omega))) rfl rfl (Yv.loadS 2 rfl rfl rfl e7) ?_ | refine TL.yv (Wt.some rfl rfl rfl (decide_eq_false (by omega))) rfl rfl (Yv.loadS 0 rfl rfl rfl e8) ?_ | refine TL.yv (Wt.some rfl rfl rfl (decide_eq_false (by omega))) rfl rfl (Yv.loadO 0 rfl rfl rfl rfl) ?_ | refine TL.yv (Wt.some rfl rfl rfl (decide_eq_false (by omega))) rfl rfl (Yv.loadO 1 rfl rfl rfl rfl) ?_ | refine TL.yv (Wt.some rfl rfl rfl (decide_eq_false (by omega))) rfl rfl (Yv.loadO 2 rfl rfl rfl rfl) ?_ | refine TL.yv (Wt.some rfl rfl rfl (decide_eq_false (by omega))) rfl rfl (Yv.loadO 3 rfl rfl rfl rfl) ?_ | refine TL.yv (Wt.some rfl rfl rfl (decide_eq_false (by omega))) rfl rfl (Yv.loadO 4 rfl rfl rfl rfl) ?_ | refine TL.yv (Wt.some rfl rfl rfl (decide_eq_false (by omega))) rfl rfl (Yv.loadB rfl rfl (by assumption) (fun h => h)) ?_ | refine TL.yv (Wt.some rfl rfl rfl (decide_eq_false (by omega))) rfl rfl (Yv.loadS 0 rfl rfl rfl (by first | rfl | assumption)) ?_ | refine TL.yv (Wt.some rfl rfl rfl (decide_eq_false (by omega))) rfl rfl (Yv.loadS 1 rfl rfl rfl (by first | rfl | assumption)) ?_ | refine TL.yv (Wt.some rfl rfl rfl (decide_eq_false (by omega))) rfl rfl (Yv.loadS 2 rfl rfl rfl (by first | rfl | assumption)) ?_ | refine TL.yv (Wt.some rfl rfl rfl (decide_eq_false (by omega))) rfl rfl (Yv.loadS 3 rfl rfl rfl (by first | rfl | assumption)) ?_ | refine TL.yv (Wt.some rfl rfl rfl (decide_eq_false (by omega))) rfl rfl (Yv.loadS 4 rfl rfl rfl (by first | rfl | assumption)) ?_
          refine TL.yv (Wt.some rfl rfl rfl (decide_eq_false (by omega))) rfl rfl (Yv.fieldAddr rfl rfl) ?_
          first | refine TL.yv (Wt.some rfl rfl rfl (decide_eq_false (by omega))) rfl rfl (Yv.loadAB rfl rfl hk rfl (fun h => h)) ?_ | refine TL.yv (Wt.some rfl rfl rfl (decide_eq_false (by omega))) rfl rfl (Yv.loadAS 0 (m := [.int .i64 (nth ws k).st, .int .i64 (nth ws k).start, .int .i64 (nth ws k).fin]) rfl rfl rfl e6 rfl) ?_ | refine TL.yv (Wt.some rfl rfl rfl (decide_eq_false (by omega))) rfl rfl (Yv.loadS 2 rfl rfl rfl e7) ?_ | refine TL.yv (Wt.some rfl rfl rfl (decide_eq_false (by omega))) rfl rfl (Yv.loadS 0 rfl rfl rfl e8) ?_ | refine TL.yv (Wt.some rfl rfl rfl (decide_eq_false (by omega))) rfl rfl (Yv.loadO 0 rfl rfl rfl rfl) ?_ | refine TL.yv (Wt.some rfl rfl rfl (decide_eq_false (by omega))) rfl rfl (Yv.loadO 1 rfl rfl rfl rfl) ?_ | refine TL.yv (Wt.some rfl rfl rfl (decide_eq_false (by omega))) rfl rfl (Yv.loadO 2 rfl rfl rfl rfl) ?_ | refine TL.yv (Wt.some rfl rfl rfl (decide_eq_false (by omega))) rfl rfl (Yv.loadO 3 rfl rfl rfl rfl) ?_ | refine TL.yv (Wt.some rfl rfl rfl (decide_eq_false (by omega))) rfl rfl (Yv.loadO 4 rfl rfl rfl rfl) ?_ | refine TL.yv (Wt.some rfl rfl rfl (decide_eq_false (by omega))) rfl rfl (Yv.loadB rfl rfl (by assumption) (fun h => h)) ?_ | refine TL.yv (Wt.some rfl rfl rfl (decide_eq_false (by omega))) rfl rfl (Yv.loadS 0 rfl rfl rfl (by first | rfl | assumption)) ?_ | refine TL.yv (Wt.some rfl rfl rfl (decide_eq_false (by omega))) rfl rfl (Yv.loadS 1 rfl rfl rfl (by first | rfl | assumption)) ?_ | refine TL.yv (Wt.some rfl rfl rfl (decide_eq_false (by omega))) rfl rfl (Yv.loadS 2 rfl rfl rfl (by first | rfl | assumption)) ?_ | refine TL.yv (Wt.some rfl rfl rfl (decide_eq_false (by omega))) rfl rfl (Yv.loadS 3 rfl rfl rfl (by first | rfl | assumption)) ?_ | refine TL.yv (Wt.some rfl rfl rfl (decide_eq_false (by omega))) rfl rfl (Yv.loadS 4 rfl rfl rfl (by first | rfl | assumption)) ?_
          refine TL.yv (Wt.some rfl rfl rfl (decide_eq_false (by omega))) rfl rfl (Yv.fieldAddr rfl rfl) ?_
          first | refine TL.yv (Wt.some rfl rfl rfl (decide_eq_false (by omega))) rfl rfl (Yv.loadAB rfl rfl hk rfl (fun h => h)) ?_ | refine TL.yv (Wt.some rfl rfl rfl (decide_eq_false (by omega))) rfl rfl (Yv.loadAS 0 (m := [.int .i64 (nth ws k).st, .int .i64 (nth ws k).start, .int .i64 (nth ws k).fin]) rfl rfl rfl e6 rfl) ?_ | refine TL.yv (Wt.some rfl rfl rfl (decide_eq_false (by omega))) rfl rfl (Yv.loadS 2 rfl rfl rfl e7) ?_ | refine TL.yv (Wt.some rfl rfl rfl (decide_eq_false (by omega))) rfl rfl (Yv.loadS 0 rfl rfl rfl e8) ?_ | refine TL.yv (Wt.some rfl rfl rfl (decide_eq_false (by omega))) rfl rfl (Yv.loadO 0 rfl rfl rfl rfl) ?_ | refine TL.yv (Wt.some rfl rfl rfl (decide_eq_false (by omega))) rfl rfl (Yv.loadO 1 rfl rfl rfl rfl) ?_ | refine TL.yv (Wt.some rfl rfl rfl (decide_eq_false (by omega))) rfl rfl (Yv.loadO 2 rfl rfl rfl rfl) ?_ | refine TL.yv (Wt.some rfl rfl rfl (decide_eq_false (by omega))) rfl rfl (Yv.loadO 3 rfl rfl rfl rfl) ?_ | refine TL.yv (Wt.some rfl rfl rfl (decide_eq_false (by omega))) rfl rfl (Yv.loadO 4 rfl rfl rfl rfl) ?_ | refine TL.yv (Wt.some rfl rfl rfl (decide_eq_false (by omega))) rfl rfl (Yv.loadB rfl rfl (by assumption) (fun h => h)) ?_ | refine TL.yv (Wt.some rfl rfl rfl (decide_eq_false (by omega))) rfl rfl (Yv.loadS 0 rfl rfl rfl (by first | rfl | assumption)) ?_ | refine TL.yv (Wt.some rfl rfl rfl (decide_eq_false (by omega))) rfl rfl (Yv.loadS 1 rfl rfl rfl (by first | rfl | assumption)) ?_ | refine TL.yv (Wt.some rfl rfl rfl (decide_eq_false (by omega))) rfl rfl (Yv.loadS 2 rfl rfl rfl (by first | rfl | assumption)) ?_ | refine TL.yv (Wt.some rfl rfl rfl (decide_eq_false (by omega))) rfl rfl (Yv.loadS 3 rfl rfl rfl (by first | rfl | assumption)) ?_ | refine TL.yv (Wt.some rfl rfl rfl (decide_eq_false (by omega))) rfl rfl (Yv.loadS 4 rfl rfl rfl (by first | rfl | assumption)) ?_
          first | refine TL.yv (Wt.some rfl rfl rfl (decide_eq_false (by omega))) rfl rfl (Yv.addI rfl rfl rfl (by omega)) ?_ | refine TL.yv (Wt.some rfl rfl rfl (decide_eq_false (by omega))) rfl rfl (Yv.pur rfl) ?_
          first | refine TL.yv (Wt.some rfl rfl rfl (decide_eq_false (by omega))) rfl rfl (Yv.pur rfl) ?_ | refine TL.yv (Wt.some rfl rfl rfl (decide_eq_false (by omega))) rfl rfl (Yv.neB rfl rfl rfl rfl) ?_
          refine TL.yv (Wt.none rfl) rfl rfl (Yv.pickF rfl rfl (decide_eq_false (by omega)) rfl) ?_
          refine TL.nil ?_
          refine K.seq ?_
          refine T.condF rfl (by simp [e2]) ?_
          refine T.skip ?_
          refine K.seq ?_
          refine T.seq ?_
          refine T.region ?_
          refine TL.yv (Wt.none rfl) rfl rfl (Yv.fieldAddr rfl rfl) ?_
          first | refine TL.yv (Wt.none rfl) rfl rfl (Yv.loadAB rfl rfl hk rfl (fun h => h)) ?_ | refine TL.yv (Wt.none rfl) rfl rfl (Yv.loadAS 0 (m := [.int .i64 (nth ws k).st, .int .i64 (nth ws k).start, .int .i64 (nth ws k).fin]) rfl rfl rfl e6 rfl) ?_ | refine TL.yv (Wt.none rfl) rfl rfl (Yv.loadS 2 rfl rfl rfl e7) ?_ | refine TL.yv (Wt.none rfl) rfl rfl (Yv.loadS 0 rfl rfl rfl e8) ?_ | refine TL.yv (Wt.none rfl) rfl rfl (Yv.loadO 0 rfl rfl rfl rfl) ?_ | refine TL.yv (Wt.none rfl) rfl rfl (Yv.loadO 1 rfl rfl rfl rfl) ?_ | refine TL.yv (Wt.none rfl) rfl rfl (Yv.loadO 2 rfl rfl rfl rfl) ?_ | refine TL.yv (Wt.none rfl) rfl rfl (Yv.loadO 3 rfl rfl rfl rfl) ?_ | refine TL.yv (Wt.none rfl) rfl rfl (Yv.loadO 4 rfl rfl rfl rfl) ?_ | refine TL.yv (Wt.none rfl) rfl rfl (Yv.loadB rfl rfl (by assumption) (fun h => h)) ?_ | refine TL.yv (Wt.none rfl) rfl rfl (Yv.loadS 0 rfl rfl rfl (by first | rfl | assumption)) ?_ | refine TL.yv (Wt.none rfl) rfl rfl (Yv.loadS 1 rfl rfl rfl (by first | rfl | assumption)) ?_ | refine TL.yv (Wt.none rfl) rfl rfl (Yv.loadS 2 rfl rfl rfl (by first | rfl | assumption)) ?_ | refine TL.yv (Wt.none rfl) rfl rfl (Yv.loadS 3 rfl rfl rfl (by first | rfl | assumption)) ?_ | refine TL.yv (Wt.none rfl) rfl rfl (Yv.loadS 4 rfl rfl rfl (by first | rfl | assumption)) ?_
          first | refine TL.yv (Wt.none rfl) rfl rfl (Yv.pur rfl) ?_ | refine TL.yv (Wt.none rfl) rfl rfl (Yv.eqB rfl rfl rfl rfl) ?_
          refine TL.yv (Wt.none rfl) rfl rfl (Yv.pur rfl) ?_
          refine TL.nil ?_
          refine K.seq ?_
          refine T.seq ?_
          refine T.seq ?_
          refine T.region ?_
          refine TL.yv (Wt.none rfl) rfl rfl (Yv.pur rfl) ?_
          refine TL.nil ?_
          refine K.seq ?_
          refine T.block ?_
          refine T.loop (ι := Nat) (fun j => [(0, .slice (some ⟨g, off, none⟩) xs.length cap), (1, vt), (2, vc), (7, .slice (some ⟨gw, 0, none⟩) ws.length capw), (9, .int .i64 (sumW xs (k + 1))), (10, .int .i64 (k : Int)), (11, .pointer (some ⟨ga, 0, none⟩)), (12, .pointer (some ⟨gb, 0, none⟩)), (13, .bool (tB ws k j)), (14, .int .i64 (j : Int))]) (fun j => [.row ga 27 [.int .i64 (nth xs k).st, .int .i64 (nth xs k).old, .int .i64 (nth xs k).nw, .int .i64 (nth xs k).tw, .int .i64 (nth xs k).cr, .int .i64 (nth xs k).wk], .row gb 51 [.int .i64 (nth ws k).st, .int .i64 (nth ws k).start, .int .i64 (nth ws k).fin], .sl (.slice (some ⟨gw, 0, none⟩) ws.length capw) 51 3 ws.length (wcells ws)]) (fun j => j ≤ k) (fun j => k - j) 0 ?_ ?_ ?_ ?_
          · omega
          · exact (by repeat (first | exact Sub.nil | refine Sub.cons rfl ?_ | (refine Sub.consI rfl rfl ?_) | (refine Sub.consB rfl rfl ?_)))
          · exact (by repeat (first | exact List.Sublist.refl _ | exact List.nil_sublist _ | refine List.Sublist.cons_cons _ ?_ | refine List.Sublist.cons _ ?_))
          · intro j hphi
            refine T.seq ?_
            refine T.seq ?_
            refine T.region ?_
            refine TL.yv (Wt.none rfl) rfl rfl (Yv.pur rfl) ?_
            refine TL.yv (Wt.none rfl) rfl rfl (Yv.pur rfl) ?_
            refine TL.yv (Wt.none rfl) rfl rfl (Yv.pur rfl) ?_
            refine TL.nil ?_
            refine K.seq ?_
            refine T.cond rfl (fun h3 => ?_) (fun h3 => ?_)
            · have p3 := h3
              try simp only [decide_eq_true_eq, decide_eq_false_iff_not, Int.not_lt, Int.not_le, Bool.not_eq_true', Bool.not_eq_false', Decidable.not_not, Bool.and_eq_true, Bool.or_eq_true, Bool.and_eq_false_iff, Bool.or_eq_false_iff] at p3
              have e7 := wcell_fin (ws := ws) (k := j) (by omega)
              refine T.skip ?_
              refine K.seq ?_
              refine T.seq ?_
              refine T.block ?_
              refine T.draw (.still 0 (.still 1 (.still 2 (.still 3 (.still 4 (.still 5 (.still 6 (.still 7 (.still 8 (.still 9 (.still 10 (.still 11 .done)))))))))))) _ (by kernel_rfl) (List.Sublist.refl _) ?_
              refine TS.still rfl (Wt.none rfl) rfl rfl (Yv.pur rfl) ?_
              refine TS.still rfl (Wt.none rfl) rfl rfl (Yv.pur rfl) ?_
              refine TS.gsplit rfl rfl rfl rfl (fun h4 => ?_) (fun h4 => ?_)
              · have p4 := h4
                try simp only [decide_eq_true_eq, decide_eq_false_iff_not, Int.not_lt, Int.not_le, Bool.not_eq_true', Bool.not_eq_false', Decidable.not_not, Bool.and_eq_true, Bool.or_eq_true, Bool.and_eq_false_iff, Bool.or_eq_false_iff] at p4
                refine TS.stillOff rfl (Wt.not rfl rfl rfl h4) rfl rfl ?_
                refine TS.stillOff rfl (Wt.not rfl rfl rfl h4) rfl rfl ?_
                refine TS.stillOff rfl (Wt.not rfl rfl rfl h4) rfl rfl ?_
                refine TS.stillOff rfl (Wt.not rfl rfl rfl h4) rfl rfl ?_
                refine TS.stillOff rfl (Wt.not rfl rfl rfl h4) rfl rfl ?_
                refine TS.stillOff rfl (Wt.not rfl rfl rfl h4) rfl rfl ?_
                refine TS.stillOff rfl (Wt.not rfl rfl rfl h4) rfl rfl ?_
                refine TS.stillOff rfl (Wt.not rfl rfl rfl h4) rfl rfl ?_
                refine TS.still rfl (Wt.none rfl) rfl rfl (Yv.pickT rfl rfl h4 rfl) ?_
                refine TS.still rfl (Wt.none rfl) rfl rfl (Yv.pur rfl) ?_
                refine TS.done ?_
                refine K.blk_normal ?_
                refine K.seq ?_
                refine T.region ?_
                refine TL.yv (Wt.none rfl) rfl rfl (Yv.pur rfl) ?_
                first | refine TL.yv (Wt.none rfl) rfl rfl (Yv.addI rfl rfl rfl (by omega)) ?_ | refine TL.yv (Wt.none rfl) rfl rfl (Yv.pur rfl) ?_
                refine TL.yv (Wt.none rfl) rfl rfl (Yv.pur rfl) ?_
                refine TL.nil ?_
                exact K.next (j + 1) (by omega) (by omega) (by repeat (first | exact Sub.nil | refine Sub.cons rfl ?_ | (refine Sub.consB rfl (by simp only [tB, *, Bool.not_true, Bool.not_false, Bool.or_false, Bool.false_or, Bool.or_true, Bool.true_or, Bool.and_false, Bool.false_and, Bool.true_and, Bool.and_true, Bool.or_self, Bool.and_self, Bool.not_not, decide_true, decide_false, not_true_eq_false, not_false_eq_true, cond_true, cond_false]) ?_))) (by repeat (first | exact List.Sublist.refl _ | exact List.nil_sublist _ | refine List.Sublist.cons_cons _ ?_ | refine List.Sublist.cons _ ?_))
              · have p4 := h4
                try simp only [decide_eq_true_eq, decide_eq_false_iff_not, Int.not_lt, Int.not_le, Bool.not_eq_true', Bool.not_eq_false', Decidable.not_not, Bool.and_eq_true, Bool.or_eq_true, Bool.and_eq_false_iff, Bool.or_eq_false_iff] at p4
                refine TS.still rfl (Wt.some rfl rfl rfl h4) rfl rfl (Yv.pur rfl) ?_
                refine TS.still rfl (Wt.some rfl rfl rfl h4) rfl rfl (Yv.pur rfl) ?_
                first | refine TS.still rfl (Wt.some rfl rfl rfl h4) rfl rfl (Yv.indexSl rfl rfl rfl rfl (by omega)) ?_ | refine TS.still rfl (Wt.some rfl rfl rfl h4) rfl rfl (Yv.indexAr rfl rfl rfl rfl (by omega)) ?_
                refine TS.still rfl (Wt.some rfl rfl rfl h4) rfl rfl (Yv.fieldAddr rfl rfl) ?_
                first | refine TS.still rfl (Wt.some rfl rfl rfl h4) rfl rfl (Yv.loadAB rfl rfl hk rfl (fun h => h)) ?_ | refine TS.still rfl (Wt.some rfl rfl rfl h4) rfl rfl (Yv.loadAS 0 (m := [.int .i64 (nth ws k).st, .int .i64 (nth ws k).start, .int .i64 (nth ws k).fin]) rfl rfl rfl e6 rfl) ?_ | refine TS.still rfl (Wt.some rfl rfl rfl h4) rfl rfl (Yv.loadS 2 rfl rfl rfl e7) ?_ | refine TS.still rfl (Wt.some rfl rfl rfl h4) rfl rfl (Yv.loadS 0 rfl rfl rfl e8) ?_ | refine TS.still rfl (Wt.some rfl rfl rfl h4) rfl rfl (Yv.loadO 0 rfl rfl rfl rfl) ?_ | refine TS.still rfl (Wt.some rfl rfl rfl h4) rfl rfl (Yv.loadO 1 rfl rfl rfl rfl) ?_ | refine TS.still rfl (Wt.some rfl rfl rfl h4) rfl rfl (Yv.loadO 2 rfl rfl rfl rfl) ?_ | refine TS.still rfl (Wt.some rfl rfl rfl h4) rfl rfl (Yv.loadO 3 rfl rfl rfl rfl) ?_ | refine TS.still rfl (Wt.some rfl rfl rfl h4) rfl rfl (Yv.loadO 4 rfl rfl rfl rfl) ?_ | refine TS.still rfl (Wt.some rfl rfl rfl h4) rfl rfl (Yv.loadB rfl rfl (by assumption) (fun h => h)) ?_ | refine TS.still rfl (Wt.some rfl rfl rfl h4) rfl rfl (Yv.loadS 0 rfl rfl rfl (by first | rfl | assumption)) ?_ | refine TS.still rfl (Wt.some rfl rfl rfl h4) rfl rfl (Yv.loadS 1 rfl rfl rfl (by first | rfl | assumption)) ?_ | refine TS.still rfl (Wt.some rfl rfl rfl h4) rfl rfl (Yv.loadS 2 rfl rfl rfl (by first | rfl | assumption)) ?_ | refine TS.still rfl (Wt.some rfl rfl rfl h4) rfl rfl (Yv.loadS 3 rfl rfl rfl (by first | rfl | assumption)) ?_ | refine TS.still rfl (Wt.some rfl rfl rfl h4) rfl rfl (Yv.loadS 4 rfl rfl rfl (by first | rfl | assumption)) ?_
                refine TS.still rfl (Wt.some rfl rfl rfl h4) rfl rfl (Yv.fieldAddr rfl rfl) ?_
                first | refine TS.still rfl (Wt.some rfl rfl rfl h4) rfl rfl (Yv.loadAB rfl rfl hk rfl (fun h => h)) ?_ | refine TS.still rfl (Wt.some rfl rfl rfl h4) rfl rfl (Yv.loadAS 0 (m := [.int .i64 (nth ws k).st, .int .i64 (nth ws k).start, .int .i64 (nth ws k).fin]) rfl rfl rfl e6 rfl) ?_ | refine TS.still rfl (Wt.some rfl rfl rfl h4) rfl rfl (Yv.loadS 2 rfl rfl rfl e7) ?_ | refine TS.still rfl (Wt.some rfl rfl rfl h4) rfl rfl (Yv.loadS 0 rfl rfl rfl e8) ?_ | refine TS.still rfl (Wt.some rfl rfl rfl h4) rfl rfl (Yv.loadO 0 rfl rfl rfl rfl) ?_ | refine TS.still rfl (Wt.some rfl rfl rfl h4) rfl rfl (Yv.loadO 1 rfl rfl rfl rfl) ?_ | refine TS.still rfl (Wt.some rfl rfl rfl h4) rfl rfl (Yv.loadO 2 rfl rfl rfl rfl) ?_ | refine TS.still rfl (Wt.some rfl rfl rfl h4) rfl rfl (Yv.loadO 3 rfl rfl rfl rfl) ?_ | refine TS.still rfl (Wt.some rfl rfl rfl h4) rfl rfl (Yv.loadO 4 rfl rfl rfl rfl) ?_ | refine TS.still rfl (Wt.some rfl rfl rfl h4) rfl rfl (Yv.loadB rfl rfl (by assumption) (fun h => h)) ?_ | refine TS.still rfl (Wt.some rfl rfl rfl h4) rfl rfl (Yv.loadS 0 rfl rfl rfl (by first | rfl | assumption)) ?_ | refine TS.still rfl (Wt.some rfl rfl rfl h4) rfl rfl (Yv.loadS 1 rfl rfl rfl (by first | rfl | assumption)) ?_ | refine TS.still rfl (Wt.some rfl rfl rfl h4) rfl rfl (Yv.loadS 2 rfl rfl rfl (by first | rfl | assumption)) ?_ | refine TS.still rfl (Wt.some rfl rfl rfl h4) rfl rfl (Yv.loadS 3 rfl rfl rfl (by first | rfl | assumption)) ?_ | refine TS.still rfl (Wt.some rfl rfl rfl h4) rfl rfl (Yv.loadS 4 rfl rfl rfl (by first | rfl | assumption)) ?_
                first | refine TS.still rfl (Wt.some rfl rfl rfl h4) rfl rfl (Yv.pur rfl) ?_ | refine TS.still rfl (Wt.some rfl rfl rfl h4) rfl rfl (Yv.eqB rfl rfl rfl rfl) ?_
                refine TS.still rfl (Wt.none rfl) rfl rfl (Yv.pickF rfl rfl h4 rfl) ?_
                refine TS.still rfl (Wt.none rfl) rfl rfl (Yv.pur rfl) ?_
                refine TS.done ?_
                refine K.blk_normal ?_
                refine K.seq ?_
                refine T.region ?_
                refine TL.yv (Wt.none rfl) rfl rfl (Yv.pur rfl) ?_
                first | refine TL.yv (Wt.none rfl) rfl rfl (Yv.addI rfl rfl rfl (by omega)) ?_ | refine TL.yv (Wt.none rfl) rfl rfl (Yv.pur rfl) ?_
                refine TL.yv (Wt.none rfl) rfl rfl (Yv.pur rfl) ?_
                refine TL.nil ?_
                exact K.next (j + 1) (by omega) (by omega) (by repeat (first | exact Sub.nil | refine Sub.cons rfl ?_ | (refine Sub.consB rfl (by simp only [tB, *, Bool.not_true, Bool.not_false, Bool.or_false, Bool.false_or, Bool.or_true, Bool.true_or, Bool.and_false, Bool.false_and, Bool.true_and, Bool.and_true, Bool.or_self, Bool.and_self, Bool.not_not, decide_true, decide_false, not_true_eq_false, not_false_eq_true, cond_true, cond_false]) ?_))) (by repeat (first | exact List.Sublist.refl _ | exact List.nil_sublist _ | refine List.Sublist.cons_cons _ ?_ | refine List.Sublist.cons _ ?_))
            · have p3 := h3
              try simp only [decide_eq_true_eq, decide_eq_false_iff_not, Int.not_lt, Int.not_le, Bool.not_eq_true', Bool.not_eq_false', Decidable.not_not, Bool.and_eq_true, Bool.or_eq_true, Bool.and_eq_false_iff, Bool.or_eq_false_iff] at p3
              refine T.exit ?_
              refine K.then_exit ?_
              refine K.then_exit ?_
              refine K.blk_exit_eq ?_
              refine K.seq ?_
              refine T.seq ?_
              refine T.seq ?_
              refine T.region ?_
              refine TL.yv (Wt.none rfl) rfl rfl (Yv.pur rfl) ?_
              first | refine TL.yv (Wt.none rfl) rfl rfl (Yv.pur rfl) ?_ | refine TL.yv (Wt.none rfl) rfl rfl (Yv.not rfl rfl) ?_
              refine TL.nil ?_
              refine K.seq ?_
              refine T.condF rfl (by rw [show j = k from by omega, hwi.tB (by omega) (hwk1 k (by omega))]; rfl) ?_
              refine T.skip ?_
              refine K.seq ?_
              refine T.seq ?_
              refine T.region ?_
              refine TL.yv (Wt.none rfl) rfl rfl (Yv.fieldAddr rfl rfl) ?_
              first | refine TL.yv (Wt.none rfl) rfl rfl (Yv.loadAB rfl rfl hk rfl (fun h => h)) ?_ | refine TL.yv (Wt.none rfl) rfl rfl (Yv.loadAS 0 (m := [.int .i64 (nth ws k).st, .int .i64 (nth ws k).start, .int .i64 (nth ws k).fin]) rfl rfl rfl e6 rfl) ?_ | refine TL.yv (Wt.none rfl) rfl rfl (Yv.loadS 2 rfl rfl rfl e7) ?_ | refine TL.yv (Wt.none rfl) rfl rfl (Yv.loadS 0 rfl rfl rfl e8) ?_ | refine TL.yv (Wt.none rfl) rfl rfl (Yv.loadO 0 rfl rfl rfl rfl) ?_ | refine TL.yv (Wt.none rfl) rfl rfl (Yv.loadO 1 rfl rfl rfl rfl) ?_ | refine TL.yv (Wt.none rfl) rfl rfl (Yv.loadO 2 rfl rfl rfl rfl) ?_ | refine TL.yv (Wt.none rfl) rfl rfl (Yv.loadO 3 rfl rfl rfl rfl) ?_ | refine TL.yv (Wt.none rfl) rfl rfl (Yv.loadO 4 rfl rfl rfl rfl) ?_ | refine TL.yv (Wt.none rfl) rfl rfl (Yv.loadB rfl rfl (by assumption) (fun h => h)) ?_ | refine TL.yv (Wt.none rfl) rfl rfl (Yv.loadS 0 rfl rfl rfl (by first | rfl | assumption)) ?_ | refine TL.yv (Wt.none rfl) rfl rfl (Yv.loadS 1 rfl rfl rfl (by first | rfl | assumption)) ?_ | refine TL.yv (Wt.none rfl) rfl rfl (Yv.loadS 2 rfl rfl rfl (by first | rfl | assumption)) ?_ | refine TL.yv (Wt.none rfl) rfl rfl (Yv.loadS 3 rfl rfl rfl (by first | rfl | assumption)) ?_ | refine TL.yv (Wt.none rfl) rfl rfl (Yv.loadS 4 rfl rfl rfl (by first | rfl | assumption)) ?_
              refine TL.yv (Wt.none rfl) rfl rfl (Yv.pur rfl) ?_
              refine TL.nil ?_
              refine K.seq ?_
              refine T.block ?_
              refine T.loop (ι := Nat) (fun d => [(0, .slice (some ⟨g, off, none⟩) xs.length cap), (1, vt), (2, vc), (7, .slice (some ⟨gw, 0, none⟩) ws.length capw), (9, .int .i64 (sumW xs (k + 1))), (10, .int .i64 (k : Int)), (11, .pointer (some ⟨ga, 0, none⟩)), (12, .pointer (some ⟨gb, 0, none⟩)), (15, .int .i64 ((nth ws k).start + (d : Int)))]) (fun d => [.row ga 27 [.int .i64 (nth xs k).st, .int .i64 (nth xs k).old, .int .i64 (nth xs k).nw, .int .i64 (nth xs k).tw, .int .i64 (nth xs k).cr, .int .i64 (nth xs k).wk], .row gb 51 [.int .i64 (nth ws k).st, .int .i64 (nth ws k).start, .int .i64 (nth ws k).fin], .sl (.slice (some ⟨gw, 0, none⟩) ws.length capw) 51 3 ws.length (wcells ws)]) (fun d => True) (fun d => (nth xs k).wk.toNat - d) 0 ?_ ?_ ?_ ?_
              · trivial
              · exact (by repeat (first | exact Sub.nil | refine Sub.cons rfl ?_ | (refine Sub.consI rfl (by simp) ?_)))
              · exact (by repeat (first | exact List.Sublist.refl _ | exact List.nil_sublist _ | refine List.Sublist.cons_cons _ ?_ | refine List.Sublist.cons _ ?_))
              · intro d hphi
                refine T.seq ?_
                refine T.seq ?_
                refine T.region ?_
                refine TL.yv (Wt.none rfl) rfl rfl (Yv.pur rfl) ?_
                refine TL.yv (Wt.none rfl) rfl rfl (Yv.fieldAddr rfl rfl) ?_
                first | refine TL.yv (Wt.none rfl) rfl rfl (Yv.loadAB rfl rfl hk rfl (fun h => h)) ?_ | refine TL.yv (Wt.none rfl) rfl rfl (Yv.loadAS 0 (m := [.int .i64 (nth ws k).st, .int .i64 (nth ws k).start, .int .i64 (nth ws k).fin]) rfl rfl rfl e6 rfl) ?_ | refine TL.yv (Wt.none rfl) rfl rfl (Yv.loadS 2 rfl rfl rfl e7) ?_ | refine TL.yv (Wt.none rfl) rfl rfl (Yv.loadS 0 rfl rfl rfl e8) ?_ | refine TL.yv (Wt.none rfl) rfl rfl (Yv.loadO 0 rfl rfl rfl rfl) ?_ | refine TL.yv (Wt.none rfl) rfl rfl (Yv.loadO 1 rfl rfl rfl rfl) ?_ | refine TL.yv (Wt.none rfl) rfl rfl (Yv.loadO 2 rfl rfl rfl rfl) ?_ | refine TL.yv (Wt.none rfl) rfl rfl (Yv.loadO 3 rfl rfl rfl rfl) ?_ | refine TL.yv (Wt.none rfl) rfl rfl (Yv.loadO 4 rfl rfl rfl rfl) ?_ | refine TL.yv (Wt.none rfl) rfl rfl (Yv.loadB rfl rfl (by assumption) (fun h => h)) ?_ | refine TL.yv (Wt.none rfl) rfl rfl (Yv.loadS 0 rfl rfl rfl (by first | rfl | assumption)) ?_ | refine TL.yv (Wt.none rfl) rfl rfl (Yv.loadS 1 rfl rfl rfl (by first | rfl | assumption)) ?_ | refine TL.yv (Wt.none rfl) rfl rfl (Yv.loadS 2 rfl rfl rfl (by first | rfl | assumption)) ?_ | refine TL.yv (Wt.none rfl) rfl rfl (Yv.loadS 3 rfl rfl rfl (by first | rfl | assumption)) ?_ | refine TL.yv (Wt.none rfl) rfl rfl (Yv.loadS 4 rfl rfl rfl (by first | rfl | assumption)) ?_
                refine TL.yv (Wt.none rfl) rfl rfl (Yv.pur rfl) ?_
                refine TL.nil ?_
                refine K.seq ?_
                refine T.cond rfl (fun h5 => ?_) (fun h5 => ?_)
                · have p5 := h5
                  try simp only [decide_eq_true_eq, decide_eq_false_iff_not, Int.not_lt, Int.not_le, Bool.not_eq_true', Bool.not_eq_false', Decidable.not_not, Bool.and_eq_true, Bool.or_eq_true, Bool.and_eq_false_iff, Bool.or_eq_false_iff] at p5
                  have u0 : usedN xs ws ((nth ws k).start + (d : Int)) (false, (nth xs k).tw) xs.length ≤ capOf ts (nth xs k).tw := hwi.used_le (q := (false, (nth xs k).tw)) (by show 0 ≤ capOf ts (nth xs k).tw; have := code_cap hco k (by omega); omega) ((nth ws k).start + (d : Int)) xs.length (by omega)
                  have u1 : usedN xs ws ((nth ws k).start + (d : Int)) (true, (nth xs k).cr) xs.length ≤ capOf cs (nth xs k).cr := hwi.used_le (q := (true, (nth xs k).cr)) (by show 0 ≤ capOf cs (nth xs k).cr; have := code_cap hco k (by omega); omega) ((nth ws k).start + (d : Int)) xs.length (by omega)
                  refine T.skip ?_
                  refine K.seq ?_
                  refine T.seq ?_
                  refine T.block ?_
                  refine T.seq ?_
                  refine T.draw (.still 0 (.still 1 (.still 2 (.still 3 (.still 4 (.still 5 (.still 6 (.still 8 (.still 9 (.still 10 (.eff 7 (.eff 11 (.still 12 (.still 13 (.still 14 (.still 15 (.still 16 (.still 17 (.still 18 (.still 19 (.still 20 (.still 22 (.still 23 (.still 24 (.eff 21 (.eff 25 (.still 26 (.still 27 .done)))))))))))))))))))))))))))) _ (by kernel_rfl) (List.Sublist.refl _) ?_
                  refine TS.still rfl (Wt.none rfl) rfl rfl (Yv.pur rfl) ?_
                  refine TS.still rfl (Wt.none rfl) rfl rfl (Yv.pur rfl) ?_
                  refine TS.still rfl (Wt.none rfl) rfl rfl (Yv.pur rfl) ?_
                  first | refine TS.still rfl (Wt.none rfl) rfl rfl (Yv.lenSl rfl rfl) ?_ | refine TS.still rfl (Wt.none rfl) rfl rfl (Yv.lenAr rfl) ?_ | refine TS.still rfl (Wt.none rfl) rfl rfl (Yv.lenE 0 rfl rfl rfl) ?_ | refine TS.still rfl (Wt.none rfl) rfl rfl (Yv.lenE 1 rfl rfl rfl) ?_ | refine TS.still rfl (Wt.none rfl) rfl rfl (Yv.lenE 2 rfl rfl rfl) ?_
                  refine TS.still rfl (Wt.none rfl) rfl rfl (Yv.pur rfl) ?_
                  refine TS.still rfl (Wt.none rfl) rfl rfl (Yv.fieldAddr rfl rfl) ?_
                  first | refine TS.still rfl (Wt.none rfl) rfl rfl (Yv.loadAB rfl rfl hk rfl (fun h => h)) ?_ | refine TS.still rfl (Wt.none rfl) rfl rfl (Yv.loadAS 0 (m := [.int .i64 (nth ws k).st, .int .i64 (nth ws k).start, .int .i64 (nth ws k).fin]) rfl rfl rfl e6 rfl) ?_ | refine TS.still rfl (Wt.none rfl) rfl rfl (Yv.loadS 2 rfl rfl rfl e7) ?_ | refine TS.still rfl (Wt.none rfl) rfl rfl (Yv.loadS 0 rfl rfl rfl e8) ?_ | refine TS.still rfl (Wt.none rfl) rfl rfl (Yv.loadO 0 rfl rfl rfl rfl) ?_ | refine TS.still rfl (Wt.none rfl) rfl rfl (Yv.loadO 1 rfl rfl rfl rfl) ?_ | refine TS.still rfl (Wt.none rfl) rfl rfl (Yv.loadO 2 rfl rfl rfl rfl) ?_ | refine TS.still rfl (Wt.none rfl) rfl rfl (Yv.loadO 3 rfl rfl rfl rfl) ?_ | refine TS.still rfl (Wt.none rfl) rfl rfl (Yv.loadO 4 rfl rfl rfl rfl) ?_ | refine TS.still rfl (Wt.none rfl) rfl rfl (Yv.loadB rfl rfl (by assumption) (fun h => h)) ?_ | refine TS.still rfl (Wt.none rfl) rfl rfl (Yv.loadS 0 rfl rfl rfl (by first | rfl | assumption)) ?_ | refine TS.still rfl (Wt.none rfl) rfl rfl (Yv.loadS 1 rfl rfl rfl (by first | rfl | assumption)) ?_ | refine TS.still rfl (Wt.none rfl) rfl rfl (Yv.loadS 2 rfl rfl rfl (by first | rfl | assumption)) ?_ | refine TS.still rfl (Wt.none rfl) rfl rfl (Yv.loadS 3 rfl rfl rfl (by first | rfl | assumption)) ?_ | refine TS.still rfl (Wt.none rfl) rfl rfl (Yv.loadS 4 rfl rfl rfl (by first | rfl | assumption)) ?_
                  refine TS.still rfl (Wt.none rfl) rfl rfl (Yv.pur rfl) ?_
                  refine TS.still rfl (Wt.none rfl) rfl rfl (Yv.fieldAddr rfl rfl) ?_
                  first | refine TS.still rfl (Wt.none rfl) rfl rfl (Yv.loadAB rfl rfl hk rfl (fun h => h)) ?_ | refine TS.still rfl (Wt.none rfl) rfl rfl (Yv.loadAS 0 (m := [.int .i64 (nth ws k).st, .int .i64 (nth ws k).start, .int .i64 (nth ws k).fin]) rfl rfl rfl e6 rfl) ?_ | refine TS.still rfl (Wt.none rfl) rfl rfl (Yv.loadS 2 rfl rfl rfl e7) ?_ | refine TS.still rfl (Wt.none rfl) rfl rfl (Yv.loadS 0 rfl rfl rfl e8) ?_ | refine TS.still rfl (Wt.none rfl) rfl rfl (Yv.loadO 0 rfl rfl rfl rfl) ?_ | refine TS.still rfl (Wt.none rfl) rfl rfl (Yv.loadO 1 rfl rfl rfl rfl) ?_ | refine TS.still rfl (Wt.none rfl) rfl rfl (Yv.loadO 2 rfl rfl rfl rfl) ?_ | refine TS.still rfl (Wt.none rfl) rfl rfl (Yv.loadO 3 rfl rfl rfl rfl) ?_ | refine TS.still rfl (Wt.none rfl) rfl rfl (Yv.loadO 4 rfl rfl rfl rfl) ?_ | refine TS.still rfl (Wt.none rfl) rfl rfl (Yv.loadB rfl rfl (by assumption) (fun h => h)) ?_ | refine TS.still rfl (Wt.none rfl) rfl rfl (Yv.loadS 0 rfl rfl rfl (by first | rfl | assumption)) ?_ | refine TS.still rfl (Wt.none rfl) rfl rfl (Yv.loadS 1 rfl rfl rfl (by first | rfl | assumption)) ?_ | refine TS.still rfl (Wt.none rfl) rfl rfl (Yv.loadS 2 rfl rfl rfl (by first | rfl | assumption)) ?_ | refine TS.still rfl (Wt.none rfl) rfl rfl (Yv.loadS 3 rfl rfl rfl (by first | rfl | assumption)) ?_ | refine TS.still rfl (Wt.none rfl) rfl rfl (Yv.loadS 4 rfl rfl rfl (by first | rfl | assumption)) ?_
                  refine TS.eff ?_
                  (refine TSo.ew rfl (Wt.none rfl) rfl rfl (Ew.callD rfl rfl rfl (fun w hw => used_false xs ws _ _ xs.length _ _ _ (h.kept hw) (SlOf.ownAt wk3 hw 2 rfl rfl) (by omega) (by omega) (by omega))) ?_; rintro _ _ ⟨rfl, rfl⟩; refine ⟨(by repeat (first | exact List.Sublist.refl _ | exact List.nil_sublist _ | refine List.Sublist.cons_cons _ ?_ | refine List.Sublist.cons _ ?_)), ?_⟩)
                  refine TS.eff ?_
                  (refine TSo.ew rfl (Wt.none rfl) rfl rfl (Ew.callD rfl rfl rfl (fun w hw => refCap_ret ts _ _ _ (ht.kept hw) hlt)) ?_; rintro _ _ ⟨rfl, rfl⟩; refine ⟨(by repeat (first | exact List.Sublist.refl _ | exact List.nil_sublist _ | refine List.Sublist.cons_cons _ ?_ | refine List.Sublist.cons _ ?_)), ?_⟩)
                  refine TS.still rfl (Wt.none rfl) rfl rfl (Yv.pur rfl) ?_
                  refine TS.still rfl (Wt.none rfl) rfl rfl (Yv.pur rfl) ?_
                  refine TS.still rfl (Wt.some rfl rfl rfl (decide_eq_false (by omega))) rfl rfl (Yv.pur rfl) ?_
                  refine TS.still rfl (Wt.some rfl rfl rfl (decide_eq_false (by omega))) rfl rfl (Yv.pur rfl) ?_
                  refine TS.still rfl (Wt.some rfl rfl rfl (decide_eq_false (by omega))) rfl rfl (Yv.pur rfl) ?_
                  first | refine TS.still rfl (Wt.some rfl rfl rfl (decide_eq_false (by omega))) rfl rfl (Yv.lenSl rfl rfl) ?_ | refine TS.still rfl (Wt.some rfl rfl rfl (decide_eq_false (by omega))) rfl rfl (Yv.lenAr rfl) ?_ | refine TS.still rfl (Wt.some rfl rfl rfl (decide_eq_false (by omega))) rfl rfl (Yv.lenE 0 rfl rfl rfl) ?_ | refine TS.still rfl (Wt.some rfl rfl rfl (decide_eq_false (by omega))) rfl rfl (Yv.lenE 1 rfl rfl rfl) ?_ | refine TS.still rfl (Wt.some rfl rfl rfl (decide_eq_false (by omega))) rfl rfl (Yv.lenE 2 rfl rfl rfl) ?_
                  refine TS.still rfl (Wt.some rfl rfl rfl (decide_eq_false (by omega))) rfl rfl (Yv.pur rfl) ?_
                  refine TS.still rfl (Wt.some rfl rfl rfl (decide_eq_false (by omega))) rfl rfl (Yv.fieldAddr rfl rfl) ?_
                  first | refine TS.still rfl (Wt.some rfl rfl rfl (decide_eq_false (by omega))) rfl rfl (Yv.loadAB rfl rfl hk rfl (fun h => h)) ?_ | refine TS.still rfl (Wt.some rfl rfl rfl (decide_eq_false (by omega))) rfl rfl (Yv.loadAS 0 (m := [.int .i64 (nth ws k).st, .int .i64 (nth ws k).start, .int .i64 (nth ws k).fin]) rfl rfl rfl e6 rfl) ?_ | refine TS.still rfl (Wt.some rfl rfl rfl (decide_eq_false (by omega))) rfl rfl (Yv.loadS 2 rfl rfl rfl e7) ?_ | refine TS.still rfl (Wt.some rfl rfl rfl (decide_eq_false (by omega))) rfl rfl (Yv.loadS 0 rfl rfl rfl e8) ?_ | refine TS.still rfl (Wt.some rfl rfl rfl (decide_eq_false (by omega))) rfl rfl (Yv.loadO 0 rfl rfl rfl rfl) ?_ | refine TS.still rfl (Wt.some rfl rfl rfl (decide_eq_false (by omega))) rfl rfl (Yv.loadO 1 rfl rfl rfl rfl) ?_ | refine TS.still rfl (Wt.some rfl rfl rfl (decide_eq_false (by omega))) rfl rfl (Yv.loadO 2 rfl rfl rfl rfl) ?_ | refine TS.still rfl (Wt.some rfl rfl rfl (decide_eq_false (by omega))) rfl rfl (Yv.loadO 3 rfl rfl rfl rfl) ?_ | refine TS.still rfl (Wt.some rfl rfl rfl (decide_eq_false (by omega))) rfl rfl (Yv.loadO 4 rfl rfl rfl rfl) ?_ | refine TS.still rfl (Wt.some rfl rfl rfl (decide_eq_false (by omega))) rfl rfl (Yv.loadB rfl rfl (by assumption) (fun h => h)) ?_ | refine TS.still rfl (Wt.some rfl rfl rfl (decide_eq_false (by omega))) rfl rfl (Yv.loadS 0 rfl rfl rfl (by first | rfl | assumption)) ?_ | refine TS.still rfl (Wt.some rfl rfl rfl (decide_eq_false (by omega))) rfl rfl (Yv.loadS 1 rfl rfl rfl (by first | rfl | assumption)) ?_ | refine TS.still rfl (Wt.some rfl rfl rfl (decide_eq_false (by omega))) rfl rfl (Yv.loadS 2 rfl rfl rfl (by first | rfl | assumption)) ?_ | refine TS.still rfl (Wt.some rfl rfl rfl (decide_eq_false (by omega))) rfl rfl (Yv.loadS 3 rfl rfl rfl (by first | rfl | assumption)) ?_ | refine TS.still rfl (Wt.some rfl rfl rfl (decide_eq_false (by omega))) rfl rfl (Yv.loadS 4 rfl rfl rfl (by first | rfl | assumption)) ?_
                  refine TS.still rfl (Wt.some rfl rfl rfl (decide_eq_false (by omega))) rfl rfl (Yv.pur rfl) ?_
                  refine TS.still rfl (Wt.some rfl rfl rfl (decide_eq_false (by omega))) rfl rfl (Yv.fieldAddr rfl rfl) ?_
                  first | refine TS.still rfl (Wt.some rfl rfl rfl (decide_eq_false (by omega))) rfl rfl (Yv.loadAB rfl rfl hk rfl (fun h => h)) ?_ | refine TS.still rfl (Wt.some rfl rfl rfl (decide_eq_false (by omega))) rfl rfl (Yv.loadAS 0 (m := [.int .i64 (nth ws k).st, .int .i64 (nth ws k).start, .int .i64 (nth ws k).fin]) rfl rfl rfl e6 rfl) ?_ | refine TS.still rfl (Wt.some rfl rfl rfl (decide_eq_false (by omega))) rfl rfl (Yv.loadS 2 rfl rfl rfl e7) ?_ | refine TS.still rfl (Wt.some rfl rfl rfl (decide_eq_false (by omega))) rfl rfl (Yv.loadS 0 rfl rfl rfl e8) ?_ | refine TS.still rfl (Wt.some rfl rfl rfl (decide_eq_false (by omega))) rfl rfl (Yv.loadO 0 rfl rfl rfl rfl) ?_ | refine TS.still rfl (Wt.some rfl rfl rfl (decide_eq_false (by omega))) rfl rfl (Yv.loadO 1 rfl rfl rfl rfl) ?_ | refine TS.still rfl (Wt.some rfl rfl rfl (decide_eq_false (by omega))) rfl rfl (Yv.loadO 2 rfl rfl rfl rfl) ?_ | refine TS.still rfl (Wt.some rfl rfl rfl (decide_eq_false (by omega))) rfl rfl (Yv.loadO 3 rfl rfl rfl rfl) ?_ | refine TS.still rfl (Wt.some rfl rfl rfl (decide_eq_false (by omega))) rfl rfl (Yv.loadO 4 rfl rfl rfl rfl) ?_ | refine TS.still rfl (Wt.some rfl rfl rfl (decide_eq_false (by omega))) rfl rfl (Yv.loadB rfl rfl (by assumption) (fun h => h)) ?_ | refine TS.still rfl (Wt.some rfl rfl rfl (decide_eq_false (by omega))) rfl rfl (Yv.loadS 0 rfl rfl rfl (by first | rfl | assumption)) ?_ | refine TS.still rfl (Wt.some rfl rfl rfl (decide_eq_false (by omega))) rfl rfl (Yv.loadS 1 rfl rfl rfl (by first | rfl | assumption)) ?_ | refine TS.still rfl (Wt.some rfl rfl rfl (decide_eq_false (by omega))) rfl rfl (Yv.loadS 2 rfl rfl rfl (by first | rfl | assumption)) ?_ | refine TS.still rfl (Wt.some rfl rfl rfl (decide_eq_false (by omega))) rfl rfl (Yv.loadS 3 rfl rfl rfl (by first | rfl | assumption)) ?_ | refine TS.still rfl (Wt.some rfl rfl rfl (decide_eq_false (by omega))) rfl rfl (Yv.loadS 4 rfl rfl rfl (by first | rfl | assumption)) ?_
                  refine TS.eff ?_
                  (refine TSo.ew rfl (Wt.some rfl rfl rfl (decide_eq_false (by omega))) rfl rfl (Ew.callD rfl rfl rfl (fun w hw => used_true xs ws _ _ xs.length _ _ _ (h.kept hw) (SlOf.ownAt wk3 hw 2 rfl rfl) (by omega) (by omega) (by omega))) ?_; rintro _ _ ⟨rfl, rfl⟩; refine ⟨(by repeat (first | exact List.Sublist.refl _ | exact List.nil_sublist _ | refine List.Sublist.cons_cons _ ?_ | refine List.Sublist.cons _ ?_)), ?_⟩)
                  refine TS.eff ?_
                  (refine TSo.ew rfl (Wt.some rfl rfl rfl (decide_eq_false (by omega))) rfl rfl (Ew.callD rfl rfl rfl (fun w hw => refCap_ret cs _ _ _ (hcr.kept hw) hlc)) ?_; rintro _ _ ⟨rfl, rfl⟩; refine ⟨(by repeat (first | exact List.Sublist.refl _ | exact List.nil_sublist _ | refine List.Sublist.cons_cons _ ?_ | refine List.Sublist.cons _ ?_)), ?_⟩)
                  refine TS.still rfl (Wt.some rfl rfl rfl (decide_eq_false (by omega))) rfl rfl (Yv.pur rfl) ?_
                  refine TS.still rfl (Wt.none rfl) rfl rfl (Yv.pickF rfl rfl (decide_eq_false (by omega)) rfl) ?_
                  refine TS.done ?_
                  refine K.seq ?_
                  refine T.condF rfl (decide_eq_false (by omega)) ?_
                  refine T.skip ?_
                  refine K.blk_normal ?_
                  refine K.seq ?_
                  refine T.region ?_
                  refine TL.yv (Wt.none rfl) rfl rfl (Yv.pur rfl) ?_
                  first | refine TL.yv (Wt.none rfl) rfl rfl (Yv.addI rfl rfl rfl (by omega)) ?_ | refine TL.yv (Wt.none rfl) rfl rfl (Yv.pur rfl) ?_
                  refine TL.yv (Wt.none rfl) rfl rfl (Yv.pur rfl) ?_
                  refine TL.nil ?_
                  exact K.next (d + 1) trivial (by omega) (by repeat (first | exact Sub.nil | refine Sub.cons rfl ?_ | (refine Sub.consI rfl (by omega) ?_))) (by repeat (first | exact List.Sublist.refl _ | exact List.nil_sublist _ | refine List.Sublist.cons_cons _ ?_ | refine List.Sublist.cons _ ?_))
                · have p5 := h5
                  try simp only [decide_eq_true_eq, decide_eq_false_iff_not, Int.not_lt, Int.not_le, Bool.not_eq_true', Bool.not_eq_false', Decidable.not_not, Bool.and_eq_true, Bool.or_eq_true, Bool.and_eq_false_iff, Bool.or_eq_false_iff] at p5
                  refine T.exit ?_
                  refine K.then_exit ?_
                  refine K.then_exit ?_
                  refine K.blk_exit_eq ?_
                  refine K.blk_normal ?_
                  refine K.seq ?_
                  refine T.region ?_
                  refine TL.yv (Wt.none rfl) rfl rfl (Yv.pur rfl) ?_
                  first | refine TL.yv (Wt.none rfl) rfl rfl (Yv.addI rfl rfl rfl (by omega)) ?_ | refine TL.yv (Wt.none rfl) rfl rfl (Yv.pur rfl) ?_
                  refine TL.yv (Wt.none rfl) rfl rfl (Yv.pur rfl) ?_
                  refine TL.nil ?_
                  exact K.next (k + 1) (by omega) (by omega) (by repeat (first | exact Sub.nil | refine Sub.cons rfl ?_)) (by repeat (first | exact List.Sublist.refl _ | exact List.nil_sublist _ | refine List.Sublist.cons_cons _ ?_ | refine List.Sublist.cons _ ?_))
      · have p2 := h2
        try simp only [decide_eq_true_eq, decide_eq_false_iff_not, Int.not_lt, Int.not_le, Bool.not_eq_true', Bool.not_eq_false', Decidable.not_not, Bool.and_eq_true, Bool.or_eq_true, Bool.and_eq_false_iff, Bool.or_eq_false_iff] at p2
        obtain rfl : k = xs.length := by omega
        have hb1 := hwi.bound_le hlen hwk1 (fun k hk => ⟨(code_cap hco k hk).1.1, (code_cap hco k hk).2.1⟩)
        have hb2 := hwi.len_le hlen hwk1
        refine T.exit ?_
        refine K.then_exit ?_
        refine K.then_exit ?_
        refine K.blk_exit_eq ?_
        refine K.seq ?_
        refine T.seq ?_
        refine T.region ?_
        refine TL.yv (Wt.none rfl) rfl rfl (Yv.pur rfl) ?_
        refine TL.yv (Wt.none rfl) rfl rfl (Yv.pur rfl) ?_
        refine TL.yv (Wt.none rfl) rfl rfl (Yv.pur rfl) ?_
        (refine TL.ew (Wt.none rfl) rfl rfl (Ew.callD rfl rfl rfl (fun w hw => bound_ok xs ts cs _ _ _ _ (h.kept hw) (ht.kept hw) (hcr.kept hw) hl hlt hlc hco)) ?_; rintro _ _ ⟨rfl, rfl⟩)
        refine TL.yv (Wt.none rfl) rfl rfl (Yv.pur rfl) ?_
        refine TL.yv (Wt.none rfl) rfl rfl (Yv.pur rfl) ?_
        refine TL.yv (Wt.none rfl) rfl rfl (Yv.pur rfl) ?_
        refine TL.yv (Wt.none rfl) rfl rfl (Yv.pur rfl) ?_
        refine TL.yv (Wt.none rfl) rfl rfl (Yv.pur rfl) ?_
        refine TL.nil ?_
        refine K.seq ?_
        refine T.seq ?_
        refine T.region ?_
        refine TL.yv (Wt.none rfl) rfl rfl (Yv.pur rfl) ?_
        (refine TL.ew (Wt.none rfl) rfl rfl (Ew.callD rfl rfl rfl (fun w hw => length_ret ws _ _ (SlOf.ownAt wk3 hw 0 rfl rfl) (by omega))) ?_; rintro _ _ ⟨rfl, rfl⟩)
        refine TL.yv (Wt.none rfl) rfl rfl (Yv.pur rfl) ?_
        refine TL.nil ?_
        refine K.seq ?_
        refine T.seq ?_
        refine T.seq ?_
        refine T.region ?_
        refine TL.yv (Wt.none rfl) rfl rfl (Yv.pur rfl) ?_
        first | refine TL.yv (Wt.none rfl) rfl rfl (Yv.pur rfl) ?_ | refine TL.yv (Wt.none rfl) rfl rfl (Yv.neB rfl rfl rfl rfl) ?_
        refine TL.yv (Wt.none rfl) rfl rfl (Yv.pur rfl) ?_
        refine TL.yv (Wt.some rfl rfl rfl (by simp)) rfl rfl (Yv.pur rfl) ?_
        refine TL.yv (Wt.some rfl rfl rfl (by simp)) rfl rfl (Yv.pur rfl) ?_
        refine TL.yv (Wt.some rfl rfl rfl (by simp)) rfl rfl (Yv.pur rfl) ?_
        refine TL.yv (Wt.none rfl) rfl rfl (Yv.pickF rfl rfl (by simp) rfl) ?_
        refine TL.yv (Wt.none rfl) rfl rfl (Yv.pur rfl) ?_
        refine TL.yv (Wt.some rfl rfl rfl (decide_eq_false (by omega))) rfl rfl (Yv.pur rfl) ?_
        refine TL.yv (Wt.some rfl rfl rfl (decide_eq_false (by omega))) rfl rfl (Yv.pur rfl) ?_
        refine TL.yv (Wt.some rfl rfl rfl (decide_eq_false (by omega))) rfl rfl (Yv.pur rfl) ?_
        refine TL.yv (Wt.none rfl) rfl rfl (Yv.pickF rfl rfl (decide_eq_false (by omega)) rfl) ?_
        refine TL.nil ?_
        refine K.seq ?_
        refine T.condF rfl (decide_eq_false (by omega)) ?_
        refine T.skip ?_
        refine K.seq ?_
        refine T.seq ?_
        refine T.region ?_
        refine TL.yv (Wt.none rfl) rfl rfl (Yv.pur rfl) ?_
        refine TL.yv (Wt.none rfl) rfl rfl (Yv.pur rfl) ?_
        refine TL.yv (Wt.none rfl) rfl rfl (Yv.pur rfl) ?_
        refine TL.yv (Wt.none rfl) rfl rfl (Yv.pur rfl) ?_
        first | refine TL.yv (Wt.none rfl) rfl rfl (Yv.lenSl rfl rfl) ?_ | refine TL.yv (Wt.none rfl) rfl rfl (Yv.lenAr rfl) ?_ | refine TL.yv (Wt.none rfl) rfl rfl (Yv.lenE 0 rfl rfl rfl) ?_ | refine TL.yv (Wt.none rfl) rfl rfl (Yv.lenE 1 rfl rfl rfl) ?_ | refine TL.yv (Wt.none rfl) rfl rfl (Yv.lenE 2 rfl rfl rfl) ?_
        (refine TL.ew (Wt.none rfl) rfl rfl (Ew.callD rfl rfl rfl (fun w hw => fits_ok xs ts cs _ _ _ (xs.length : Int) _ (h.kept hw) (ht.kept hw) (hcr.kept hw) hl hlt hlc (by rw [decide_eq_true (by omega)]; exact hco))) ?_; rintro _ _ ⟨rfl, rfl⟩)
        refine TL.yv (Wt.none rfl) rfl rfl (Yv.pur rfl) ?_
        refine TL.yv (Wt.none rfl) rfl rfl (Yv.pur rfl) ?_
        refine TL.yv (Wt.none rfl) rfl rfl (Yv.pur rfl) ?_
        refine TL.yv (Wt.none rfl) rfl rfl (Yv.pur rfl) ?_
        refine TL.yv (Wt.none rfl) rfl rfl (Yv.pur rfl) ?_
        refine TL.nil ?_
        refine K.seq ?_
        refine T.seq ?_
        refine T.seq ?_
        refine T.region ?_
        refine TL.yv (Wt.none rfl) rfl rfl (Yv.pur rfl) ?_
        first | refine TL.yv (Wt.none rfl) rfl rfl (Yv.pur rfl) ?_ | refine TL.yv (Wt.none rfl) rfl rfl (Yv.neB rfl rfl rfl rfl) ?_
        refine TL.nil ?_
        refine K.seq ?_
        refine T.condF rfl (by simp) ?_
        refine T.skip ?_
        refine K.seq ?_
        refine T.seq ?_
        refine T.seq ?_
        refine T.region ?_
        refine TL.yv (Wt.none rfl) rfl rfl (Yv.pur rfl) ?_
        refine TL.nil ?_
        refine K.seq ?_
        refine T.block ?_
        refine T.loop (ι := Nat) (fun i => [(7, v32), (19, .bool (fitsM xs ts cs && decide ((xs.length : Int) ≤ (xs.length : Int)))), (21, .int .i64 (i : Int))]) (fun i => [.sl v32 51 3 ws.length (wcells ws)]) (fun i => i ≤ ws.length) (fun i => ws.length - i) 0 ?_ ?_ ?_ ?_
        · omega
        · exact (by repeat (first | exact Sub.nil | refine Sub.cons rfl ?_))
        · exact (by repeat (first | exact List.Sublist.refl _ | exact List.nil_sublist _ | refine List.Sublist.cons_cons _ ?_ | refine List.Sublist.cons _ ?_))
        · intro i hphi
          refine T.seq ?_
          refine T.seq ?_
          refine T.region ?_
          refine TL.yv (Wt.none rfl) rfl rfl (Yv.pur rfl) ?_
          refine TL.yv (Wt.none rfl) rfl rfl (Yv.pur rfl) ?_
          first | refine TL.yv (Wt.none rfl) rfl rfl (Yv.lenSl rfl rfl) ?_ | refine TL.yv (Wt.none rfl) rfl rfl (Yv.lenAr rfl) ?_ | refine TL.yv (Wt.none rfl) rfl rfl (Yv.lenE 0 rfl rfl rfl) ?_ | refine TL.yv (Wt.none rfl) rfl rfl (Yv.lenE 1 rfl rfl rfl) ?_ | refine TL.yv (Wt.none rfl) rfl rfl (Yv.lenE 2 rfl rfl rfl) ?_
          refine TL.yv (Wt.none rfl) rfl rfl (Yv.pur rfl) ?_
          refine TL.nil ?_
          refine K.seq ?_
          refine T.cond rfl (fun h6 => ?_) (fun h6 => ?_)
          · have p6 := h6
            try simp only [decide_eq_true_eq, decide_eq_false_iff_not, Int.not_lt, Int.not_le, Bool.not_eq_true', Bool.not_eq_false', Decidable.not_not, Bool.and_eq_true, Bool.or_eq_true, Bool.and_eq_false_iff, Bool.or_eq_false_iff] at p6
            have hz := fun hf => hwi.fits_zero hlen hf (k := i) (by omega)
            have e8 := wcell_start (ws := ws) (k := i) (by omega)
            refine T.slForm 0 rfl (by omega) ?_
            rintro gw capw rfl
            refine T.skip ?_
            refine K.seq ?_
            refine T.seq ?_
            refine T.block ?_
            refine T.seq ?_
            refine T.region ?_
            refine TL.yv (Wt.none rfl) rfl rfl (Yv.pur rfl) ?_
            refine TL.yv (Wt.none rfl) rfl rfl (Yv.pur rfl) ?_
            refine TL.gsplit rfl rfl rfl (fun h7 => ?_) (fun h7 => ?_)
            · have p7 := h7
              try simp only [decide_eq_true_eq, decide_eq_false_iff_not, Int.not_lt, Int.not_le, Bool.not_eq_true', Bool.not_eq_false', Decidable.not_not, Bool.and_eq_true, Bool.or_eq_true, Bool.and_eq_false_iff, Bool.or_eq_false_iff] at p7
              refine TL.yv (Wt.some rfl rfl rfl h7) rfl rfl (Yv.pur rfl) ?_
              refine TL.yv (Wt.some rfl rfl rfl h7) rfl rfl (Yv.pur rfl) ?_
              first | refine TL.yv (Wt.some rfl rfl rfl h7) rfl rfl (Yv.indexSl rfl rfl rfl rfl (by omega)) ?_ | refine TL.yv (Wt.some rfl rfl rfl h7) rfl rfl (Yv.indexAr rfl rfl rfl rfl (by omega)) ?_
              refine TL.yv (Wt.some rfl rfl rfl h7) rfl rfl (Yv.fieldAddr rfl rfl) ?_
              first | refine TL.yv (Wt.some rfl rfl rfl h7) rfl rfl (Yv.loadAB rfl rfl hk rfl (fun h => h)) ?_ | refine TL.yv (Wt.some rfl rfl rfl h7) rfl rfl (Yv.loadAS 0 (m := [.int .i64 (nth ws k).st, .int .i64 (nth ws k).start, .int .i64 (nth ws k).fin]) rfl rfl rfl e6 rfl) ?_ | refine TL.yv (Wt.some rfl rfl rfl h7) rfl rfl (Yv.loadS 2 rfl rfl rfl e7) ?_ | refine TL.yv (Wt.some rfl rfl rfl h7) rfl rfl (Yv.loadS 0 rfl rfl rfl e8) ?_ | refine TL.yv (Wt.some rfl rfl rfl h7) rfl rfl (Yv.loadO 0 rfl rfl rfl rfl) ?_ | refine TL.yv (Wt.some rfl rfl rfl h7) rfl rfl (Yv.loadO 1 rfl rfl rfl rfl) ?_ | refine TL.yv (Wt.some rfl rfl rfl h7) rfl rfl (Yv.loadO 2 rfl rfl rfl rfl) ?_ | refine TL.yv (Wt.some rfl rfl rfl h7) rfl rfl (Yv.loadB rfl rfl (by assumption) (fun h => h)) ?_ | refine TL.yv (Wt.some rfl rfl rfl h7) rfl rfl (Yv.loadS 0 rfl rfl rfl (by first | rfl | assumption)) ?_ | refine TL.yv (Wt.some rfl rfl rfl h7) rfl rfl (Yv.loadS 1 rfl rfl rfl (by first | rfl | assumption)) ?_ | refine TL.yv (Wt.some rfl rfl rfl h7) rfl rfl (Yv.loadS 2 rfl rfl rfl (by first | rfl | assumption)) ?_
              first | refine TL.yv (Wt.some rfl rfl rfl h7) rfl rfl (Yv.pur rfl) ?_ | refine TL.yv (Wt.some rfl rfl rfl h7) rfl rfl (Yv.neB rfl rfl rfl rfl) ?_
              refine TL.yv (Wt.none rfl) rfl rfl (Yv.pickT rfl rfl h7 rfl) ?_
              refine TL.nil ?_
              refine K.seq ?_
              refine T.condF rfl (by simp [hz (by simp_all)]) ?_
              refine T.skip ?_
              refine K.blk_normal ?_
              refine K.seq ?_
              refine T.region ?_
              refine TL.yv (Wt.none rfl) rfl rfl (Yv.pur rfl) ?_
              first | refine TL.yv (Wt.none rfl) rfl rfl (Yv.addI rfl rfl rfl (by omega)) ?_ | refine TL.yv (Wt.none rfl) rfl rfl (Yv.pur rfl) ?_
              refine TL.yv (Wt.none rfl) rfl rfl (Yv.pur rfl) ?_
              refine TL.nil ?_
              exact K.next (i + 1) (by omega) (by omega) (by repeat (first | exact Sub.nil | refine Sub.cons rfl ?_)) (by repeat (first | exact List.Sublist.refl _ | exact List.nil_sublist _ | refine List.Sublist.cons_cons _ ?_ | refine List.Sublist.cons _ ?_))
            · have p7 := h7
              try simp only [decide_eq_true_eq, decide_eq_false_iff_not, Int.not_lt, Int.not_le, Bool.not_eq_true', Bool.not_eq_false', Decidable.not_not, Bool.and_eq_true, Bool.or_eq_true, Bool.and_eq_false_iff, Bool.or_eq_false_iff] at p7
              refine TL.off (Wt.not rfl rfl rfl h7) rfl rfl ?_
              refine TL.off (Wt.not rfl rfl rfl h7) rfl rfl ?_
              refine TL.off (Wt.not rfl rfl rfl h7) rfl rfl ?_
              refine TL.off (Wt.not rfl rfl rfl h7) rfl rfl ?_
              refine TL.off (Wt.not rfl rfl rfl h7) rfl rfl ?_
              refine TL.off (Wt.not rfl rfl rfl h7) rfl rfl ?_
              refine TL.yv (Wt.none rfl) rfl rfl (Yv.pickF rfl rfl h7 rfl) ?_
              refine TL.nil ?_
              refine K.seq ?_
              refine T.condF rfl rfl ?_
              refine T.skip ?_
              refine K.blk_normal ?_
              refine K.seq ?_
              refine T.region ?_
              refine TL.yv (Wt.none rfl) rfl rfl (Yv.pur rfl) ?_
              first | refine TL.yv (Wt.none rfl) rfl rfl (Yv.addI rfl rfl rfl (by omega)) ?_ | refine TL.yv (Wt.none rfl) rfl rfl (Yv.pur rfl) ?_
              refine TL.yv (Wt.none rfl) rfl rfl (Yv.pur rfl) ?_
              refine TL.nil ?_
              exact K.next (i + 1) (by omega) (by omega) (by repeat (first | exact Sub.nil | refine Sub.cons rfl ?_)) (by repeat (first | exact List.Sublist.refl _ | exact List.nil_sublist _ | refine List.Sublist.cons_cons _ ?_ | refine List.Sublist.cons _ ?_))
          · have p6 := h6
            try simp only [decide_eq_true_eq, decide_eq_false_iff_not, Int.not_lt, Int.not_le, Bool.not_eq_true', Bool.not_eq_false', Decidable.not_not, Bool.and_eq_true, Bool.or_eq_true, Bool.and_eq_false_iff, Bool.or_eq_false_iff] at p6
            refine T.exit ?_
            refine K.then_exit ?_
            refine K.then_exit ?_
            refine K.blk_exit_eq ?_
            refine K.seq ?_
            refine T.seq ?_
            refine T.region ?_
            (refine TL.ew (Wt.none rfl) rfl rfl (Ew.callD rfl rfl rfl (fun w hw => known_ret _)) ?_; rintro _ _ ⟨rfl, rfl⟩)
            refine TL.yv (Wt.none rfl) rfl rfl (Yv.pur rfl) ?_
            refine TL.nil ?_
            refine K.seq ?_
            refine T.ret ?_
            exact K.ret1 rfl rfl (fun w' hw => ⟨rfl, hw.isBelow⟩)
end Go.Proofs.Ytphpmjnpjnmdmaa
