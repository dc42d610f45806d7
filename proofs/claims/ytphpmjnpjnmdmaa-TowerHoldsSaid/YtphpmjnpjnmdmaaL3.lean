/- The law TowerValid. -/
import Derived.Test.YtphpmjnpjnmdmaaL2
set_option maxRecDepth 100000
set_option maxHeartbeats 4000000
set_option linter.unusedSimpArgs false
set_option linter.unusedVariables false
set_option linter.unusedSectionVars false
namespace Go.Proofs.Ytphpmjnpjnmdmaa
open Go.RowKit

def gen (n : Nat) : List Mv := (List.range n).map fun (i : Nat) => ⟨(i : Int), 2, 0, 0, 0, 1⟩
def mcells (xs : List Mv) : List Value := xs.flatMap Mv.cells
theorem gen_len (n : Nat) : (gen n).length = n := by simp [gen]
theorem gen_snoc (n : Nat) : mcells (gen n) ++ (Mv.mk (n : Int) 2 0 0 0 1).cells = mcells (gen (n + 1)) := by simp [mcells, gen, List.range_succ]
theorem gen_nth {n k : Nat} (h : k < n) : nth (gen n) k = ⟨(k : Int), 2, 0, 0, 0, 1⟩ := by
  rw [nth_eq (by rw [gen_len]; exact h)]
  simp [gen]
theorem gen_ok (k : Nat) (n : Int) (h : (k : Int) = n) : (movesOk (gen k) == decide (n ≤ 512)) = true := by
  subst h
  rw [movesOk, gen_len]
  by_cases hk : (k : Int) ≤ 512
  · rw [range_true (f := mvOk (gen k)) (n := k) (fun j hj => by
      rw [mvOk, gen_nth hj]
      by_cases h0 : 0 < j
      · rw [gen_nth (show j - 1 < k by omega)]
        simp [Mv.ok, chB]
        omega
      · simp [Mv.ok, chB]
        omega)]
    simp
  · simp [hk]

theorem towerValid_ret (xs : List Mv) (ts : List Si) (v vt : Value) (n : Int) (w : World) (h : MovesAt w v xs) (ht : SitesAt w vt ts) (hl : xs.length ≤ 9223372036854775807) (hlt : ts.length ≤ 9223372036854775807) : Calls Try.prog 3 #[v, vt, .int .i64 n] w fun e w' => e = .returned (.bool true) ∧ Below w.heap.size w w' := by
  obtain ⟨A, cap, rfl, hsl⟩ := h.op
  obtain ⟨A2, cap2, rfl, hsl2⟩ := ht.op
  refine calls_T (M := fun _ => False) (hs := []) Try.func3 rfl rfl rfl (Hp.refl _ _) ?_
  refine T.seq ?_
  refine T.region ?_
  refine TL.yv (Wt.none rfl) rfl rfl (Yv.pur rfl) ?_
  refine TL.nil ?_
  refine K.seq ?_
  refine T.seq ?_
  refine T.seq ?_
  refine T.region ?_
  refine TL.yv (Wt.none rfl) rfl rfl (Yv.pur rfl) ?_
  first | refine TL.yv (Wt.none rfl) rfl rfl (Yv.lenSl rfl rfl) ?_ | refine TL.yv (Wt.none rfl) rfl rfl (Yv.lenAr rfl) ?_
  refine TL.yv (Wt.none rfl) rfl rfl (Yv.pur rfl) ?_
  refine TL.yv (Wt.none rfl) rfl rfl (Yv.pur rfl) ?_
  refine TL.gsplit rfl rfl rfl (fun h1 => ?_) (fun h1 => ?_)
  · have p1 := h1
    try simp only [decide_eq_true_eq, decide_eq_false_iff_not, Int.not_lt, Int.not_le, Bool.not_eq_true', Bool.not_eq_false', Decidable.not_not, Bool.and_eq_true, Bool.or_eq_true, Bool.and_eq_false_iff, Bool.or_eq_false_iff] at p1
    refine TL.off (Wt.not rfl rfl rfl h1) rfl rfl ?_
    refine TL.off (Wt.not rfl rfl rfl h1) rfl rfl ?_
    refine TL.off (Wt.not rfl rfl rfl h1) rfl rfl ?_
    refine TL.yv (Wt.none rfl) rfl rfl (Yv.pickT rfl rfl h1 rfl) ?_
    refine TL.nil ?_
    refine K.seq ?_
    refine T.condT rfl rfl ?_
    refine T.seq ?_
    refine T.region ?_
    (refine TL.ew (Wt.none rfl) rfl rfl (Ew.callD rfl rfl rfl (fun w hw => known_ret _)) ?_; rintro _ _ ⟨rfl, rfl⟩)
    refine TL.yv (Wt.none rfl) rfl rfl (Yv.pur rfl) ?_
    refine TL.nil ?_
    refine K.seq ?_
    refine T.ret ?_
    refine K.then_ret ?_
    exact K.ret1 rfl rfl (fun w' hw => ⟨rfl, hw.isBelow⟩)
  · have p1 := h1
    try simp only [decide_eq_true_eq, decide_eq_false_iff_not, Int.not_lt, Int.not_le, Bool.not_eq_true', Bool.not_eq_false', Decidable.not_not, Bool.and_eq_true, Bool.or_eq_true, Bool.and_eq_false_iff, Bool.or_eq_false_iff] at p1
    refine TL.yv (Wt.some rfl rfl rfl h1) rfl rfl (Yv.pur rfl) ?_
    first | refine TL.yv (Wt.some rfl rfl rfl h1) rfl rfl (Yv.lenSl rfl rfl) ?_ | refine TL.yv (Wt.some rfl rfl rfl h1) rfl rfl (Yv.lenAr rfl) ?_
    refine TL.yv (Wt.some rfl rfl rfl h1) rfl rfl (Yv.pur rfl) ?_
    refine TL.yv (Wt.none rfl) rfl rfl (Yv.pickF rfl rfl h1 rfl) ?_
    refine TL.nil ?_
    refine K.seq ?_
    refine T.cond rfl (fun h2 => ?_) (fun h2 => ?_)
    · have p2 := h2
      try simp only [decide_eq_true_eq, decide_eq_false_iff_not, Int.not_lt, Int.not_le, Bool.not_eq_true', Bool.not_eq_false', Decidable.not_not, Bool.and_eq_true, Bool.or_eq_true, Bool.and_eq_false_iff, Bool.or_eq_false_iff] at p2
      refine T.seq ?_
      refine T.region ?_
      (refine TL.ew (Wt.none rfl) rfl rfl (Ew.callD rfl rfl rfl (fun w hw => known_ret _)) ?_; rintro _ _ ⟨rfl, rfl⟩)
      refine TL.yv (Wt.none rfl) rfl rfl (Yv.pur rfl) ?_
      refine TL.nil ?_
      refine K.seq ?_
      refine T.ret ?_
      refine K.then_ret ?_
      exact K.ret1 rfl rfl (fun w' hw => ⟨rfl, hw.isBelow⟩)
    · have p2 := h2
      try simp only [decide_eq_true_eq, decide_eq_false_iff_not, Int.not_lt, Int.not_le, Bool.not_eq_true', Bool.not_eq_false', Decidable.not_not, Bool.and_eq_true, Bool.or_eq_true, Bool.and_eq_false_iff, Bool.or_eq_false_iff] at p2
      refine T.skip ?_
      refine K.seq ?_
      refine T.seq ?_
      refine T.seq ?_
      refine T.region ?_
      refine TL.yv (Wt.none rfl) rfl rfl (Yv.pur rfl) ?_
      refine TL.nil ?_
      refine K.seq ?_
      refine T.block ?_
      refine T.loop (ι := Nat) (fun k => [(0, .slice A xs.length cap), (1, .slice A2 ts.length cap2), (2, .int .i64 n), (7, .int .i64 (k : Int))]) (fun k => []) (fun k => k ≤ xs.length) (fun k => xs.length - k) 0 ?_ ?_ ?_ ?_
      · omega
      · exact (by repeat (first | exact Sub.nil | refine Sub.cons rfl ?_))
      · exact (by repeat (first | exact List.Sublist.refl _ | exact List.nil_sublist _ | refine List.Sublist.cons_cons _ ?_ | refine List.Sublist.cons _ ?_))
      · intro k hphi
        refine T.seq ?_
        refine T.seq ?_
        refine T.region ?_
        refine TL.yv (Wt.none rfl) rfl rfl (Yv.pur rfl) ?_
        refine TL.yv (Wt.none rfl) rfl rfl (Yv.pur rfl) ?_
        first | refine TL.yv (Wt.none rfl) rfl rfl (Yv.lenSl rfl rfl) ?_ | refine TL.yv (Wt.none rfl) rfl rfl (Yv.lenAr rfl) ?_
        refine TL.yv (Wt.none rfl) rfl rfl (Yv.pur rfl) ?_
        refine TL.nil ?_
        refine K.seq ?_
        refine T.cond rfl (fun h3 => ?_) (fun h3 => ?_)
        · have p3 := h3
          try simp only [decide_eq_true_eq, decide_eq_false_iff_not, Int.not_lt, Int.not_le, Bool.not_eq_true', Bool.not_eq_false', Decidable.not_not, Bool.and_eq_true, Bool.or_eq_true, Bool.and_eq_false_iff, Bool.or_eq_false_iff] at p3
          obtain ⟨g, off, rfl, hc⟩ := hsl (by omega)
          have hk := hc k (by omega)
          refine T.skip ?_
          refine K.seq ?_
          refine T.seq ?_
          refine T.block ?_
          refine T.seq ?_
          refine T.draw (.still 0 (.still 1 (.still 2 (.still 3 (.still 5 (.still 6 (.still 7 (.still 8 (.eff 4 (.eff 9 (.still 10 .done))))))))))) _ (by kernel_rfl) (List.Sublist.refl _) ?_
          refine TS.still rfl (Wt.none rfl) rfl rfl (Yv.pur rfl) ?_
          refine TS.still rfl (Wt.none rfl) rfl rfl (Yv.pur rfl) ?_
          first | refine TS.still rfl (Wt.none rfl) rfl rfl (Yv.indexSl rfl rfl rfl rfl (by omega)) ?_ | refine TS.still rfl (Wt.none rfl) rfl rfl (Yv.indexAr rfl rfl rfl rfl (by omega)) ?_
          first | refine TS.still rfl (Wt.none rfl) rfl rfl (Yv.loadAB rfl rfl hk rfl (fun h => h)) ?_ | refine TS.still rfl (Wt.none rfl) rfl rfl (Yv.loadAO 0 rfl rfl rfl rfl) ?_ | refine TS.still rfl (Wt.none rfl) rfl rfl (Yv.loadAO 1 rfl rfl rfl rfl) ?_ | refine TS.still rfl (Wt.none rfl) rfl rfl (Yv.loadAO 2 rfl rfl rfl rfl) ?_ | refine TS.still rfl (Wt.none rfl) rfl rfl (Yv.loadAB rfl rfl (by assumption) rfl (fun h => h)) ?_
          refine TS.still rfl (Wt.none rfl) rfl rfl (Yv.pur rfl) ?_
          refine TS.still rfl (Wt.none rfl) rfl rfl (Yv.pur rfl) ?_
          first | refine TS.still rfl (Wt.none rfl) rfl rfl (Yv.indexSl rfl rfl rfl rfl (by omega)) ?_ | refine TS.still rfl (Wt.none rfl) rfl rfl (Yv.indexAr rfl rfl rfl rfl (by omega)) ?_
          first | refine TS.still rfl (Wt.none rfl) rfl rfl (Yv.loadAB rfl rfl hk rfl (fun h => h)) ?_ | refine TS.still rfl (Wt.none rfl) rfl rfl (Yv.loadAO 0 rfl rfl rfl rfl) ?_ | refine TS.still rfl (Wt.none rfl) rfl rfl (Yv.loadAO 1 rfl rfl rfl rfl) ?_ | refine TS.still rfl (Wt.none rfl) rfl rfl (Yv.loadAO 2 rfl rfl rfl rfl) ?_ | refine TS.still rfl (Wt.none rfl) rfl rfl (Yv.loadAB rfl rfl (by assumption) rfl (fun h => h)) ?_
          refine TS.eff ?_
          (refine TSo.ew rfl (Wt.none rfl) rfl rfl (Ew.callD rfl rfl rfl (fun w hw => valid_ret (nth xs k) _)) ?_; rintro _ _ ⟨rfl, rfl⟩; refine ⟨(by repeat (first | exact List.Sublist.refl _ | exact List.nil_sublist _ | refine List.Sublist.cons_cons _ ?_ | refine List.Sublist.cons _ ?_)), ?_⟩)
          refine TS.eff ?_
          (refine TSo.ew rfl (Wt.none rfl) rfl rfl (Ew.callD rfl rfl rfl (fun w hw => refValid_ret (nth xs k) _)) ?_; rintro _ _ ⟨rfl, rfl⟩; refine ⟨(by repeat (first | exact List.Sublist.refl _ | exact List.nil_sublist _ | refine List.Sublist.cons_cons _ ?_ | refine List.Sublist.cons _ ?_)), ?_⟩)
          first | refine TS.still rfl (Wt.none rfl) rfl rfl (Yv.pur rfl) ?_ | refine TS.still rfl (Wt.none rfl) rfl rfl (Yv.neB rfl rfl rfl rfl) ?_
          refine TS.done ?_
          refine K.seq ?_
          refine T.condF rfl (by simp) ?_
          refine T.skip ?_
          refine K.blk_normal ?_
          refine K.seq ?_
          refine T.region ?_
          refine TL.yv (Wt.none rfl) rfl rfl (Yv.pur rfl) ?_
          first | refine TL.yv (Wt.none rfl) rfl rfl (Yv.addI rfl rfl rfl (by omega)) ?_ | refine TL.yv (Wt.none rfl) rfl rfl (Yv.pur rfl) ?_
          refine TL.yv (Wt.none rfl) rfl rfl (Yv.pur rfl) ?_
          refine TL.nil ?_
          exact K.next (k + 1) (by omega) (by omega) (by repeat (first | exact Sub.nil | refine Sub.cons rfl ?_)) (by repeat (first | exact List.Sublist.refl _ | exact List.nil_sublist _ | refine List.Sublist.cons_cons _ ?_ | refine List.Sublist.cons _ ?_))
        · have p3 := h3
          try simp only [decide_eq_true_eq, decide_eq_false_iff_not, Int.not_lt, Int.not_le, Bool.not_eq_true', Bool.not_eq_false', Decidable.not_not, Bool.and_eq_true, Bool.or_eq_true, Bool.and_eq_false_iff, Bool.or_eq_false_iff] at p3
          refine T.exit ?_
          refine K.then_exit ?_
          refine K.then_exit ?_
          refine K.blk_exit_eq ?_
          refine K.seq ?_
          refine T.seq ?_
          refine T.seq ?_
          refine T.region ?_
          refine TL.yv (Wt.none rfl) rfl rfl (Yv.pur rfl) ?_
          (refine TL.ew (Wt.none rfl) rfl rfl (Ew.callD rfl rfl rfl (fun w hw => validMoves_ret xs _ _ (h.kept hw) hl)) ?_; rintro _ _ ⟨rfl, rfl⟩)
          refine TL.yv (Wt.none rfl) rfl rfl (Yv.pur rfl) ?_
          (refine TL.ew (Wt.none rfl) rfl rfl (Ew.callD rfl rfl rfl (fun w hw => refMoves_ret xs _ _ (h.kept hw) hl)) ?_; rintro _ _ ⟨rfl, rfl⟩)
          first | refine TL.yv (Wt.none rfl) rfl rfl (Yv.pur rfl) ?_ | refine TL.yv (Wt.none rfl) rfl rfl (Yv.neB rfl rfl rfl rfl) ?_
          refine TL.yv (Wt.none rfl) rfl rfl (Yv.pur rfl) ?_
          refine TL.yv (Wt.some rfl rfl rfl (by simp)) rfl rfl (Yv.pur rfl) ?_
          (refine TL.ew (Wt.some rfl rfl rfl (by simp)) rfl rfl (Ew.callD rfl rfl rfl (fun w hw => validSites_ret ts _ _ (ht.kept hw) hlt)) ?_; rintro _ _ ⟨rfl, rfl⟩)
          refine TL.yv (Wt.some rfl rfl rfl (by simp)) rfl rfl (Yv.pur rfl) ?_
          (refine TL.ew (Wt.some rfl rfl rfl (by simp)) rfl rfl (Ew.callD rfl rfl rfl (fun w hw => refSites_ret ts _ _ (ht.kept hw) hlt)) ?_; rintro _ _ ⟨rfl, rfl⟩)
          first | refine TL.yv (Wt.some rfl rfl rfl (by simp)) rfl rfl (Yv.pur rfl) ?_ | refine TL.yv (Wt.some rfl rfl rfl (by simp)) rfl rfl (Yv.neB rfl rfl rfl rfl) ?_
          refine TL.yv (Wt.none rfl) rfl rfl (Yv.pickF rfl rfl (by simp) rfl) ?_
          refine TL.nil ?_
          refine K.seq ?_
          refine T.condF rfl (by simp) ?_
          refine T.skip ?_
          refine K.seq ?_
          refine T.seq ?_
          refine T.seq ?_
          refine T.region ?_
          refine TL.yv (Wt.none rfl) rfl rfl (Yv.pur rfl) ?_
          refine TL.yv (Wt.none rfl) rfl rfl (Yv.pur rfl) ?_
          refine TL.yv (Wt.none rfl) rfl rfl (Yv.pur rfl) ?_
          refine TL.gsplit rfl rfl rfl (fun h4 => ?_) (fun h4 => ?_)
          · have p4 := h4
            try simp only [decide_eq_true_eq, decide_eq_false_iff_not, Int.not_lt, Int.not_le, Bool.not_eq_true', Bool.not_eq_false', Decidable.not_not, Bool.and_eq_true, Bool.or_eq_true, Bool.and_eq_false_iff, Bool.or_eq_false_iff] at p4
            refine TL.off (Wt.not rfl rfl rfl h4) rfl rfl ?_
            refine TL.off (Wt.not rfl rfl rfl h4) rfl rfl ?_
            refine TL.yv (Wt.none rfl) rfl rfl (Yv.pickT rfl rfl h4 rfl) ?_
            refine TL.nil ?_
            refine K.seq ?_
            refine T.condT rfl rfl ?_
            refine T.seq ?_
            refine T.region ?_
            (refine TL.ew (Wt.none rfl) rfl rfl (Ew.callD rfl rfl rfl (fun w hw => known_ret _)) ?_; rintro _ _ ⟨rfl, rfl⟩)
            refine TL.yv (Wt.none rfl) rfl rfl (Yv.pur rfl) ?_
            refine TL.nil ?_
            refine K.seq ?_
            refine T.ret ?_
            refine K.then_ret ?_
            exact K.ret1 rfl rfl (fun w' hw => ⟨rfl, hw.isBelow⟩)
          · have p4 := h4
            try simp only [decide_eq_true_eq, decide_eq_false_iff_not, Int.not_lt, Int.not_le, Bool.not_eq_true', Bool.not_eq_false', Decidable.not_not, Bool.and_eq_true, Bool.or_eq_true, Bool.and_eq_false_iff, Bool.or_eq_false_iff] at p4
            refine TL.yv (Wt.some rfl rfl rfl h4) rfl rfl (Yv.pur rfl) ?_
            refine TL.yv (Wt.some rfl rfl rfl h4) rfl rfl (Yv.pur rfl) ?_
            refine TL.yv (Wt.none rfl) rfl rfl (Yv.pickF rfl rfl h4 rfl) ?_
            refine TL.nil ?_
            refine K.seq ?_
            refine T.cond rfl (fun h5 => ?_) (fun h5 => ?_)
            · have p5 := h5
              try simp only [decide_eq_true_eq, decide_eq_false_iff_not, Int.not_lt, Int.not_le, Bool.not_eq_true', Bool.not_eq_false', Decidable.not_not, Bool.and_eq_true, Bool.or_eq_true, Bool.and_eq_false_iff, Bool.or_eq_false_iff] at p5
              refine T.seq ?_
              refine T.region ?_
              (refine TL.ew (Wt.none rfl) rfl rfl (Ew.callD rfl rfl rfl (fun w hw => known_ret _)) ?_; rintro _ _ ⟨rfl, rfl⟩)
              refine TL.yv (Wt.none rfl) rfl rfl (Yv.pur rfl) ?_
              refine TL.nil ?_
              refine K.seq ?_
              refine T.ret ?_
              refine K.then_ret ?_
              exact K.ret1 rfl rfl (fun w' hw => ⟨rfl, hw.isBelow⟩)
            · have p5 := h5
              try simp only [decide_eq_true_eq, decide_eq_false_iff_not, Int.not_lt, Int.not_le, Bool.not_eq_true', Bool.not_eq_false', Decidable.not_not, Bool.and_eq_true, Bool.or_eq_true, Bool.and_eq_false_iff, Bool.or_eq_false_iff] at p5
              refine T.skip ?_
              refine K.seq ?_
              refine T.seq ?_
              refine T.region ?_
              refine TL.yv (Wt.none rfl) rfl rfl (Yv.pur rfl) ?_
              refine TL.nil ?_
              refine K.seq ?_
              refine T.seq ?_
              refine T.seq ?_
              refine T.region ?_
              refine TL.yv (Wt.none rfl) rfl rfl (Yv.pur rfl) ?_
              refine TL.nil ?_
              refine K.seq ?_
              refine T.block ?_
              refine T.slNil 27 6 ?_
              refine T.loop (ι := Value × Nat) (fun y => [(2, .int .i64 n), (8, y.1), (9, .int .i64 (y.2 : Int))]) (fun y => [.sl y.1 27 6 y.2 (mcells (gen y.2))]) (fun y => (y.2 : Int) ≤ n) (fun y => n.toNat - y.2) (.slice none 0 0, 0) ?_ ?_ ?_ ?_
              · show ((0 : Nat) : Int) ≤ n; omega
              · exact (by repeat (first | exact Sub.nil | refine Sub.cons rfl ?_))
              · exact (by exact List.Sublist.refl _)
              · intro y hphi
                obtain ⟨vm, j⟩ := y
                dsimp only at hphi ⊢
                refine T.seq ?_
                refine T.seq ?_
                refine T.region ?_
                refine TL.yv (Wt.none rfl) rfl rfl (Yv.pur rfl) ?_
                refine TL.yv (Wt.none rfl) rfl rfl (Yv.pur rfl) ?_
                refine TL.yv (Wt.none rfl) rfl rfl (Yv.pur rfl) ?_
                refine TL.nil ?_
                refine K.seq ?_
                refine T.cond rfl (fun h6 => ?_) (fun h6 => ?_)
                · have p6 := h6
                  try simp only [decide_eq_true_eq, decide_eq_false_iff_not, Int.not_lt, Int.not_le, Bool.not_eq_true', Bool.not_eq_false', Decidable.not_not, Bool.and_eq_true, Bool.or_eq_true, Bool.and_eq_false_iff, Bool.or_eq_false_iff] at p6
                  refine T.skip ?_
                  refine K.seq ?_
                  refine T.seq ?_
                  refine T.block ?_
                  refine T.region ?_
                  refine TL.yv (Wt.none rfl) rfl rfl (Yv.pur rfl) ?_
                  refine TL.yv (Wt.none rfl) rfl rfl (Yv.pur rfl) ?_
                  first | refine TL.yv (Wt.none rfl) rfl rfl (Yv.build rfl rfl) ?_ | refine TL.yv (Wt.none rfl) rfl rfl (Yv.buildAr rfl rfl) ?_
                  (refine TL.ew (Wt.none rfl) rfl rfl (Ew.buildSlice rfl rfl rfl (by decide)) ?_; rintro _ _ ⟨g63, rfl, rfl⟩)
                  first | (refine TL.ew (Wt.none rfl) rfl rfl (Ew.append 0 1 rfl rfl rfl rfl rfl rfl (by omega) (by omega)) ?_; rintro v64 _ ⟨hv64, rfl⟩) | (refine TL.ew (Wt.none rfl) rfl rfl (Ew.append 0 2 rfl rfl rfl rfl rfl rfl (by omega) (by omega)) ?_; rintro v64 _ ⟨hv64, rfl⟩) | (refine TL.ew (Wt.none rfl) rfl rfl (Ew.append 1 0 rfl rfl rfl rfl rfl rfl (by omega) (by omega)) ?_; rintro v64 _ ⟨hv64, rfl⟩) | (refine TL.ew (Wt.none rfl) rfl rfl (Ew.append 1 2 rfl rfl rfl rfl rfl rfl (by omega) (by omega)) ?_; rintro v64 _ ⟨hv64, rfl⟩) | (refine TL.ew (Wt.none rfl) rfl rfl (Ew.append 2 0 rfl rfl rfl rfl rfl rfl (by omega) (by omega)) ?_; rintro v64 _ ⟨hv64, rfl⟩) | (refine TL.ew (Wt.none rfl) rfl rfl (Ew.append 2 1 rfl rfl rfl rfl rfl rfl (by omega) (by omega)) ?_; rintro v64 _ ⟨hv64, rfl⟩)
                  refine TL.yv (Wt.none rfl) rfl rfl (Yv.pur rfl) ?_
                  refine TL.nil ?_
                  refine K.blk_normal ?_
                  refine K.seq ?_
                  refine T.region ?_
                  refine TL.yv (Wt.none rfl) rfl rfl (Yv.pur rfl) ?_
                  first | refine TL.yv (Wt.none rfl) rfl rfl (Yv.addI rfl rfl rfl (by omega)) ?_ | refine TL.yv (Wt.none rfl) rfl rfl (Yv.pur rfl) ?_
                  refine TL.yv (Wt.none rfl) rfl rfl (Yv.pur rfl) ?_
                  refine TL.nil ?_
                  rw [show ([Value.int .i64 (j : Int), .int .i64 2, .int .i64 0, .int .i64 0, .int .i64 0, .int .i64 1] : List Value) = (Mv.mk (j : Int) 2 0 0 0 1).cells from rfl, gen_snoc]
                  exact K.next (v64, j + 1) (by show ((j + 1 : Nat) : Int) ≤ n; omega) (by dsimp only; omega) (by repeat (first | exact Sub.nil | refine Sub.cons rfl ?_)) (List.Sublist.cons _ (List.Sublist.refl _))
                · have p6 := h6
                  try simp only [decide_eq_true_eq, decide_eq_false_iff_not, Int.not_lt, Int.not_le, Bool.not_eq_true', Bool.not_eq_false', Decidable.not_not, Bool.and_eq_true, Bool.or_eq_true, Bool.and_eq_false_iff, Bool.or_eq_false_iff] at p6
                  have hgen := gen_ok j n (by omega)
                  refine T.exit ?_
                  refine K.then_exit ?_
                  refine K.then_exit ?_
                  refine K.blk_exit_eq ?_
                  refine K.seq ?_
                  refine T.seq ?_
                  refine T.region ?_
                  refine TL.yv (Wt.none rfl) rfl rfl (Yv.pur rfl) ?_
                  (refine TL.ew (Wt.none rfl) rfl rfl (Ew.callD rfl rfl rfl (fun w hw => validMoves_ret (gen j) _ _ (SlOf.ownAt mv6 hw 0 rfl (gen_len j).symm) (by rw [gen_len]; omega))) ?_; rintro _ _ ⟨rfl, rfl⟩)
                  refine TL.yv (Wt.none rfl) rfl rfl (Yv.pur rfl) ?_
                  refine TL.yv (Wt.none rfl) rfl rfl (Yv.pur rfl) ?_
                  first | refine TL.yv (Wt.none rfl) rfl rfl (Yv.pur rfl) ?_ | refine TL.yv (Wt.none rfl) rfl rfl (Yv.eqB rfl rfl rfl rfl) ?_
                  refine TL.yv (Wt.none rfl) rfl rfl (Yv.pur rfl) ?_
                  (refine TL.ew (Wt.some rfl rfl rfl hgen) rfl rfl (Ew.callD rfl rfl rfl (fun w hw => known_ret _)) ?_; rintro _ _ ⟨rfl, rfl⟩)
                  refine TL.yv (Wt.none rfl) rfl rfl (Yv.pickT rfl rfl hgen rfl) ?_
                  refine TL.yv (Wt.none rfl) rfl rfl (Yv.pur rfl) ?_
                  refine TL.nil ?_
                  refine K.seq ?_
                  refine T.ret ?_
                  exact K.ret1 rfl rfl (fun w' hw => ⟨rfl, hw.isBelow⟩)
end Go.Proofs.Ytphpmjnpjnmdmaa
