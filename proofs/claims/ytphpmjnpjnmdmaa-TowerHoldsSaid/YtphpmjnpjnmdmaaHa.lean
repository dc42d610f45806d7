/- The reference: Fits, least. -/
import Derived.Test.YtphpmjnpjnmdmaaG
set_option maxRecDepth 100000
set_option maxHeartbeats 4000000
set_option linter.unusedSimpArgs false
set_option linter.unusedVariables false
set_option linter.unusedSectionVars false
namespace Go.Proofs.Ytphpmjnpjnmdmaa
open Go.RowKit

theorem errM_of_code {xs : List Mv} {ts cs : List Si} {limit : Int} (h : codeOf xs ts cs (decide (0 ≤ limit)) = 0) : errM xs ts cs = 0 ∧ 0 ≤ limit := by
  obtain ⟨h1, h2, h3⟩ := codeOf_args h
  exact ⟨by simp [errM, codeOf, h1, h3], by simpa using h2⟩

theorem refFits_ok (xs : List Mv) (ts cs : List Si) (v vt vc : Value) (limit : Int) (w : World) (h : MovesAt w v xs) (ht : SitesAt w vt ts) (hcr : SitesAt w vc cs) (hl : xs.length ≤ 9223372036854775807) (hlt : ts.length ≤ 9223372036854775807) (hlc : cs.length ≤ 9223372036854775807) (hb : xs.length ≤ 1000000) (hco : codeOf xs ts cs (decide (0 ≤ limit)) = 0) : Calls Try.prog 17 #[v, vt, vc, .int .i64 limit] w fun e w' => e = .returned (.tuple #[.bool (fitsM xs ts cs && decide ((xs.length : Int) ≤ limit)), .int .i64 0]) ∧ Below w.heap.size w w' := by
  obtain ⟨A, cap, rfl, hsl⟩ := h.op
  obtain ⟨he, hlim⟩ := errM_of_code hco
  refine calls_T (M := fun _ => False) (hs := []) Try.func17 rfl rfl rfl (Hp.refl _ _) ?_
  refine T.seq ?_
  refine T.region ?_
  refine TL.yv (Wt.none rfl) rfl rfl (Yv.pur rfl) ?_
  refine TL.yv (Wt.none rfl) rfl rfl (Yv.pur rfl) ?_
  refine TL.nil ?_
  refine K.seq ?_
  refine T.seq ?_
  refine T.region ?_
  refine TL.yv (Wt.none rfl) rfl rfl (Yv.pur rfl) ?_
  refine TL.yv (Wt.none rfl) rfl rfl (Yv.pur rfl) ?_
  refine TL.yv (Wt.none rfl) rfl rfl (Yv.pur rfl) ?_
  (refine TL.ew (Wt.none rfl) rfl rfl (Ew.callD rfl rfl rfl (fun w hw => by have := refError_ret xs ts cs _ _ _ _ (h.kept hw) (ht.kept hw) (hcr.kept hw) hl hlt hlc; rw [he] at this; exact this)) ?_; rintro _ _ ⟨rfl, rfl⟩)
  refine TL.yv (Wt.none rfl) rfl rfl (Yv.pur rfl) ?_
  refine TL.nil ?_
  refine K.seq ?_
  refine T.seq ?_
  refine T.seq ?_
  refine T.region ?_
  refine TL.yv (Wt.none rfl) rfl rfl (Yv.pur rfl) ?_
  first | refine TL.yv (Wt.none rfl) rfl rfl (Yv.pur rfl) ?_ | refine TL.yv (Wt.none rfl) rfl rfl (Yv.neB rfl rfl rfl rfl) ?_
  refine TL.yv (Wt.none rfl) rfl rfl (Yv.pur rfl) ?_
  refine TL.gsplit rfl rfl rfl (fun h1 => ?_) (fun h1 => ?_)
  · have p1 := h1
    try simp only [decide_eq_true_eq, decide_eq_false_iff_not, Int.not_lt, Int.not_le, Bool.not_eq_true', Bool.not_eq_false', Decidable.not_not, Bool.and_eq_true, Bool.or_eq_true, Bool.and_eq_false_iff, Bool.or_eq_false_iff] at p1
    refine TL.yv (Wt.some rfl rfl rfl h1) rfl rfl (Yv.pur rfl) ?_
    refine TL.yv (Wt.some rfl rfl rfl h1) rfl rfl (Yv.pur rfl) ?_
    refine TL.yv (Wt.none rfl) rfl rfl (Yv.pickT rfl rfl h1 rfl) ?_
    refine TL.nil ?_
    refine K.seq ?_
    refine T.condF rfl (decide_eq_false (by omega)) ?_
    refine T.skip ?_
    refine K.seq ?_
    refine T.seq ?_
    refine T.seq ?_
    refine T.region ?_
    refine TL.yv (Wt.none rfl) rfl rfl (Yv.pur rfl) ?_
    first | refine TL.yv (Wt.none rfl) rfl rfl (Yv.pur rfl) ?_ | refine TL.yv (Wt.none rfl) rfl rfl (Yv.neB rfl rfl rfl rfl) ?_
    refine TL.nil ?_
    refine K.seq ?_
    refine T.condF rfl (by decide) ?_
    refine T.skip ?_
    refine K.seq ?_
    refine T.seq ?_
    refine T.seq ?_
    refine T.region ?_
    refine TL.yv (Wt.none rfl) rfl rfl (Yv.pur rfl) ?_
    refine TL.nil ?_
    refine K.seq ?_
    refine T.block ?_
    refine T.loop (ι := Nat) (fun k => [(0, .slice A xs.length cap), (1, vt), (2, vc), (3, .int .i64 limit), (11, .int .i64 (k : Int))]) (fun k => []) (fun k => k ≤ xs.length ∧ ∀ j, j < k → fitK xs ts cs j = true) (fun k => xs.length - k) 0 ?_ ?_ ?_ ?_
    · exact ⟨by omega, fun j hj => by omega⟩
    · exact (by repeat (first | exact Sub.nil | refine Sub.cons rfl ?_))
    · exact (by repeat (first | exact List.Sublist.refl _ | exact List.nil_sublist _ | refine List.Sublist.cons_cons _ ?_ | refine List.Sublist.cons _ ?_))
    · intro k hphi
      obtain ⟨hkl, hall⟩ := hphi
      refine T.seq ?_
      refine T.seq ?_
      refine T.region ?_
      refine TL.yv (Wt.none rfl) rfl rfl (Yv.pur rfl) ?_
      refine TL.yv (Wt.none rfl) rfl rfl (Yv.pur rfl) ?_
      first | refine TL.yv (Wt.none rfl) rfl rfl (Yv.lenSl rfl rfl) ?_ | refine TL.yv (Wt.none rfl) rfl rfl (Yv.lenAr rfl) ?_
      refine TL.yv (Wt.none rfl) rfl rfl (Yv.pur rfl) ?_
      refine TL.nil ?_
      refine K.seq ?_
      refine T.cond rfl (fun h2 => ?_) (fun h2 => ?_)
      · have p2 := h2
        try simp only [decide_eq_true_eq, decide_eq_false_iff_not, Int.not_lt, Int.not_le, Bool.not_eq_true', Bool.not_eq_false', Decidable.not_not, Bool.and_eq_true, Bool.or_eq_true, Bool.and_eq_false_iff, Bool.or_eq_false_iff] at p2
        obtain ⟨g, off, rfl, hc⟩ := hsl (by omega)
        have hk := hc k (by omega)
        simp only [Mv.cells] at hk
        refine T.skip ?_
        refine K.seq ?_
        refine T.seq ?_
        refine T.block ?_
        refine T.seq ?_
        refine T.region ?_
        refine TL.yv (Wt.none rfl) rfl rfl (Yv.pur rfl) ?_
        refine TL.yv (Wt.none rfl) rfl rfl (Yv.pur rfl) ?_
        refine TL.nil ?_
        refine K.seq ?_
        refine T.seq ?_
        refine T.seq ?_
        refine T.region ?_
        refine TL.yv (Wt.none rfl) rfl rfl (Yv.pur rfl) ?_
        refine TL.nil ?_
        refine K.seq ?_
        refine T.block ?_
        refine T.loop (ι := Nat) (fun j => [(0, .slice (some ⟨g, off, none⟩) xs.length cap), (1, vt), (2, vc), (3, .int .i64 limit), (11, .int .i64 (k : Int)), (12, .int .i64 (RT xs one j (nth xs k).tw)), (13, .int .i64 (RC xs one j (nth xs k).cr)), (14, .int .i64 (j : Int))]) (fun j => []) (fun j => j ≤ xs.length) (fun j => xs.length - j) 0 ?_ ?_ ?_ ?_
        · omega
        · exact (by repeat (first | exact Sub.nil | refine Sub.cons rfl ?_))
        · exact (by repeat (first | exact List.Sublist.refl _ | exact List.nil_sublist _ | refine List.Sublist.cons_cons _ ?_ | refine List.Sublist.cons _ ?_))
        · intro j hphi
          have hr1 := (R_le xs j (nth xs k).tw).1
          have hr2 := (R_le xs j (nth xs k).cr).2
          refine T.seq ?_
          refine T.seq ?_
          refine T.region ?_
          refine TL.yv (Wt.none rfl) rfl rfl (Yv.pur rfl) ?_
          refine TL.yv (Wt.none rfl) rfl rfl (Yv.pur rfl) ?_
          first | refine TL.yv (Wt.none rfl) rfl rfl (Yv.lenSl rfl rfl) ?_ | refine TL.yv (Wt.none rfl) rfl rfl (Yv.lenAr rfl) ?_
          refine TL.yv (Wt.none rfl) rfl rfl (Yv.pur rfl) ?_
          refine TL.nil ?_
          refine K.seq ?_
          refine T.cond rfl (fun h3 => ?_) (fun h3 => ?_)
          · have p3 := h3
            try simp only [decide_eq_true_eq, decide_eq_false_iff_not, Int.not_lt, Int.not_le, Bool.not_eq_true', Bool.not_eq_false', Decidable.not_not, Bool.and_eq_true, Bool.or_eq_true, Bool.and_eq_false_iff, Bool.or_eq_false_iff] at p3
            have hkj := hc j (by omega)
            simp only [Mv.cells] at hkj
            refine T.skip ?_
            refine K.seq ?_
            refine T.seq ?_
            refine T.block ?_
            refine T.seq ?_
            refine T.seq ?_
            refine T.draw (.still 0 (.still 1 (.still 2 (.still 3 (.still 4 (.still 5 (.still 6 (.still 7 (.still 8 (.still 9 (.still 10 .done))))))))))) _ (by kernel_rfl) (List.Sublist.refl _) ?_
            refine TS.still rfl (Wt.none rfl) rfl rfl (Yv.pur rfl) ?_
            refine TS.still rfl (Wt.none rfl) rfl rfl (Yv.pur rfl) ?_
            first | refine TS.still rfl (Wt.none rfl) rfl rfl (Yv.indexSl rfl rfl rfl rfl (by omega)) ?_ | refine TS.still rfl (Wt.none rfl) rfl rfl (Yv.indexAr rfl rfl rfl rfl (by omega)) ?_
            refine TS.still rfl (Wt.none rfl) rfl rfl (Yv.fieldAddr rfl rfl) ?_
            first | refine TS.still rfl (Wt.none rfl) rfl rfl (Yv.loadC rfl rfl hkj rfl rfl (fun h => h)) ?_ | refine TS.still rfl (Wt.none rfl) rfl rfl (Yv.loadC rfl rfl hk rfl rfl (fun h => h)) ?_ | refine TS.still rfl (Wt.none rfl) rfl rfl (Yv.loadO 0 rfl rfl rfl rfl) ?_ | refine TS.still rfl (Wt.none rfl) rfl rfl (Yv.loadO 1 rfl rfl rfl rfl) ?_ | refine TS.still rfl (Wt.none rfl) rfl rfl (Yv.loadO 2 rfl rfl rfl rfl) ?_ | refine TS.still rfl (Wt.none rfl) rfl rfl (Yv.loadB rfl rfl (by assumption) (fun h => h)) ?_ | refine TS.still rfl (Wt.none rfl) rfl rfl (Yv.loadS 0 rfl rfl rfl (by first | rfl | assumption)) ?_ | refine TS.still rfl (Wt.none rfl) rfl rfl (Yv.loadS 1 rfl rfl rfl (by first | rfl | assumption)) ?_ | refine TS.still rfl (Wt.none rfl) rfl rfl (Yv.loadS 2 rfl rfl rfl (by first | rfl | assumption)) ?_
            refine TS.still rfl (Wt.none rfl) rfl rfl (Yv.pur rfl) ?_
            refine TS.still rfl (Wt.none rfl) rfl rfl (Yv.pur rfl) ?_
            first | refine TS.still rfl (Wt.none rfl) rfl rfl (Yv.indexSl rfl rfl rfl rfl (by omega)) ?_ | refine TS.still rfl (Wt.none rfl) rfl rfl (Yv.indexAr rfl rfl rfl rfl (by omega)) ?_
            refine TS.still rfl (Wt.none rfl) rfl rfl (Yv.fieldAddr rfl rfl) ?_
            first | refine TS.still rfl (Wt.none rfl) rfl rfl (Yv.loadC rfl rfl hkj rfl rfl (fun h => h)) ?_ | refine TS.still rfl (Wt.none rfl) rfl rfl (Yv.loadC rfl rfl hk rfl rfl (fun h => h)) ?_ | refine TS.still rfl (Wt.none rfl) rfl rfl (Yv.loadO 0 rfl rfl rfl rfl) ?_ | refine TS.still rfl (Wt.none rfl) rfl rfl (Yv.loadO 1 rfl rfl rfl rfl) ?_ | refine TS.still rfl (Wt.none rfl) rfl rfl (Yv.loadO 2 rfl rfl rfl rfl) ?_ | refine TS.still rfl (Wt.none rfl) rfl rfl (Yv.loadB rfl rfl (by assumption) (fun h => h)) ?_ | refine TS.still rfl (Wt.none rfl) rfl rfl (Yv.loadS 0 rfl rfl rfl (by first | rfl | assumption)) ?_ | refine TS.still rfl (Wt.none rfl) rfl rfl (Yv.loadS 1 rfl rfl rfl (by first | rfl | assumption)) ?_ | refine TS.still rfl (Wt.none rfl) rfl rfl (Yv.loadS 2 rfl rfl rfl (by first | rfl | assumption)) ?_
            first | refine TS.still rfl (Wt.none rfl) rfl rfl (Yv.pur rfl) ?_ | refine TS.still rfl (Wt.none rfl) rfl rfl (Yv.eqB rfl rfl rfl rfl) ?_
            refine TS.done ?_
            refine K.seq ?_
            refine T.cond rfl (fun h4 => ?_) (fun h4 => ?_)
            · have p4 := h4
              try simp only [decide_eq_true_eq, decide_eq_false_iff_not, Int.not_lt, Int.not_le, Bool.not_eq_true', Bool.not_eq_false', Decidable.not_not, Bool.and_eq_true, Bool.or_eq_true, Bool.and_eq_false_iff, Bool.or_eq_false_iff] at p4
              refine T.region ?_
              refine TL.yv (Wt.none rfl) rfl rfl (Yv.pur rfl) ?_
              first | refine TL.yv (Wt.none rfl) rfl rfl (Yv.addI rfl rfl rfl (by omega)) ?_ | refine TL.yv (Wt.none rfl) rfl rfl (Yv.pur rfl) ?_
              refine TL.yv (Wt.none rfl) rfl rfl (Yv.pur rfl) ?_
              refine TL.nil ?_
              refine K.seq ?_
              refine T.seq ?_
              refine T.draw (.still 0 (.still 1 (.still 2 (.still 3 (.still 4 (.still 5 (.still 6 (.still 7 (.still 8 (.still 9 (.still 10 .done))))))))))) _ (by kernel_rfl) (List.Sublist.refl _) ?_
              refine TS.still rfl (Wt.none rfl) rfl rfl (Yv.pur rfl) ?_
              refine TS.still rfl (Wt.none rfl) rfl rfl (Yv.pur rfl) ?_
              first | refine TS.still rfl (Wt.none rfl) rfl rfl (Yv.indexSl rfl rfl rfl rfl (by omega)) ?_ | refine TS.still rfl (Wt.none rfl) rfl rfl (Yv.indexAr rfl rfl rfl rfl (by omega)) ?_
              refine TS.still rfl (Wt.none rfl) rfl rfl (Yv.fieldAddr rfl rfl) ?_
              first | refine TS.still rfl (Wt.none rfl) rfl rfl (Yv.loadC rfl rfl hkj rfl rfl (fun h => h)) ?_ | refine TS.still rfl (Wt.none rfl) rfl rfl (Yv.loadC rfl rfl hk rfl rfl (fun h => h)) ?_ | refine TS.still rfl (Wt.none rfl) rfl rfl (Yv.loadO 0 rfl rfl rfl rfl) ?_ | refine TS.still rfl (Wt.none rfl) rfl rfl (Yv.loadO 1 rfl rfl rfl rfl) ?_ | refine TS.still rfl (Wt.none rfl) rfl rfl (Yv.loadO 2 rfl rfl rfl rfl) ?_ | refine TS.still rfl (Wt.none rfl) rfl rfl (Yv.loadB rfl rfl (by assumption) (fun h => h)) ?_ | refine TS.still rfl (Wt.none rfl) rfl rfl (Yv.loadS 0 rfl rfl rfl (by first | rfl | assumption)) ?_ | refine TS.still rfl (Wt.none rfl) rfl rfl (Yv.loadS 1 rfl rfl rfl (by first | rfl | assumption)) ?_ | refine TS.still rfl (Wt.none rfl) rfl rfl (Yv.loadS 2 rfl rfl rfl (by first | rfl | assumption)) ?_
              refine TS.still rfl (Wt.none rfl) rfl rfl (Yv.pur rfl) ?_
              refine TS.still rfl (Wt.none rfl) rfl rfl (Yv.pur rfl) ?_
              first | refine TS.still rfl (Wt.none rfl) rfl rfl (Yv.indexSl rfl rfl rfl rfl (by omega)) ?_ | refine TS.still rfl (Wt.none rfl) rfl rfl (Yv.indexAr rfl rfl rfl rfl (by omega)) ?_
              refine TS.still rfl (Wt.none rfl) rfl rfl (Yv.fieldAddr rfl rfl) ?_
              first | refine TS.still rfl (Wt.none rfl) rfl rfl (Yv.loadC rfl rfl hkj rfl rfl (fun h => h)) ?_ | refine TS.still rfl (Wt.none rfl) rfl rfl (Yv.loadC rfl rfl hk rfl rfl (fun h => h)) ?_ | refine TS.still rfl (Wt.none rfl) rfl rfl (Yv.loadO 0 rfl rfl rfl rfl) ?_ | refine TS.still rfl (Wt.none rfl) rfl rfl (Yv.loadO 1 rfl rfl rfl rfl) ?_ | refine TS.still rfl (Wt.none rfl) rfl rfl (Yv.loadO 2 rfl rfl rfl rfl) ?_ | refine TS.still rfl (Wt.none rfl) rfl rfl (Yv.loadB rfl rfl (by assumption) (fun h => h)) ?_ | refine TS.still rfl (Wt.none rfl) rfl rfl (Yv.loadS 0 rfl rfl rfl (by first | rfl | assumption)) ?_ | refine TS.still rfl (Wt.none rfl) rfl rfl (Yv.loadS 1 rfl rfl rfl (by first | rfl | assumption)) ?_ | refine TS.still rfl (Wt.none rfl) rfl rfl (Yv.loadS 2 rfl rfl rfl (by first | rfl | assumption)) ?_
              first | refine TS.still rfl (Wt.none rfl) rfl rfl (Yv.pur rfl) ?_ | refine TS.still rfl (Wt.none rfl) rfl rfl (Yv.eqB rfl rfl rfl rfl) ?_
              refine TS.done ?_
              refine K.seq ?_
              refine T.cond rfl (fun h5 => ?_) (fun h5 => ?_)
              · have p5 := h5
                try simp only [decide_eq_true_eq, decide_eq_false_iff_not, Int.not_lt, Int.not_le, Bool.not_eq_true', Bool.not_eq_false', Decidable.not_not, Bool.and_eq_true, Bool.or_eq_true, Bool.and_eq_false_iff, Bool.or_eq_false_iff] at p5
                refine T.region ?_
                refine TL.yv (Wt.none rfl) rfl rfl (Yv.pur rfl) ?_
                first | refine TL.yv (Wt.none rfl) rfl rfl (Yv.addI rfl rfl rfl (by omega)) ?_ | refine TL.yv (Wt.none rfl) rfl rfl (Yv.pur rfl) ?_
                refine TL.yv (Wt.none rfl) rfl rfl (Yv.pur rfl) ?_
                refine TL.nil ?_
                refine K.blk_normal ?_
                refine K.seq ?_
                refine T.region ?_
                refine TL.yv (Wt.none rfl) rfl rfl (Yv.pur rfl) ?_
                first | refine TL.yv (Wt.none rfl) rfl rfl (Yv.addI rfl rfl rfl (by omega)) ?_ | refine TL.yv (Wt.none rfl) rfl rfl (Yv.pur rfl) ?_
                refine TL.yv (Wt.none rfl) rfl rfl (Yv.pur rfl) ?_
                refine TL.nil ?_
                exact K.next (j + 1) (by omega) (by omega) (by repeat (first | exact Sub.nil | refine Sub.cons rfl ?_ | (refine Sub.consI rfl ?_ ?_; first | (rw [RT, if_pos (by assumption)]; rfl) | (rw [RT, if_neg (by assumption), Int.add_zero]) | (rw [RC, if_pos (by assumption)]; rfl) | (rw [RC, if_neg (by assumption), Int.add_zero])))) (by repeat (first | exact List.Sublist.refl _ | exact List.nil_sublist _ | refine List.Sublist.cons_cons _ ?_ | refine List.Sublist.cons _ ?_))
              · have p5 := h5
                try simp only [decide_eq_true_eq, decide_eq_false_iff_not, Int.not_lt, Int.not_le, Bool.not_eq_true', Bool.not_eq_false', Decidable.not_not, Bool.and_eq_true, Bool.or_eq_true, Bool.and_eq_false_iff, Bool.or_eq_false_iff] at p5
                refine T.skip ?_
                refine K.blk_normal ?_
                refine K.seq ?_
                refine T.region ?_
                refine TL.yv (Wt.none rfl) rfl rfl (Yv.pur rfl) ?_
                first | refine TL.yv (Wt.none rfl) rfl rfl (Yv.addI rfl rfl rfl (by omega)) ?_ | refine TL.yv (Wt.none rfl) rfl rfl (Yv.pur rfl) ?_
                refine TL.yv (Wt.none rfl) rfl rfl (Yv.pur rfl) ?_
                refine TL.nil ?_
                exact K.next (j + 1) (by omega) (by omega) (by repeat (first | exact Sub.nil | refine Sub.cons rfl ?_ | (refine Sub.consI rfl ?_ ?_; first | (rw [RT, if_pos (by assumption)]; rfl) | (rw [RT, if_neg (by assumption), Int.add_zero]) | (rw [RC, if_pos (by assumption)]; rfl) | (rw [RC, if_neg (by assumption), Int.add_zero])))) (by repeat (first | exact List.Sublist.refl _ | exact List.nil_sublist _ | refine List.Sublist.cons_cons _ ?_ | refine List.Sublist.cons _ ?_))
            · have p4 := h4
              try simp only [decide_eq_true_eq, decide_eq_false_iff_not, Int.not_lt, Int.not_le, Bool.not_eq_true', Bool.not_eq_false', Decidable.not_not, Bool.and_eq_true, Bool.or_eq_true, Bool.and_eq_false_iff, Bool.or_eq_false_iff] at p4
              refine T.skip ?_
              refine K.seq ?_
              refine T.seq ?_
              refine T.draw (.still 0 (.still 1 (.still 2 (.still 3 (.still 4 (.still 5 (.still 6 (.still 7 (.still 8 (.still 9 (.still 10 .done))))))))))) _ (by kernel_rfl) (List.Sublist.refl _) ?_
              refine TS.still rfl (Wt.none rfl) rfl rfl (Yv.pur rfl) ?_
              refine TS.still rfl (Wt.none rfl) rfl rfl (Yv.pur rfl) ?_
              first | refine TS.still rfl (Wt.none rfl) rfl rfl (Yv.indexSl rfl rfl rfl rfl (by omega)) ?_ | refine TS.still rfl (Wt.none rfl) rfl rfl (Yv.indexAr rfl rfl rfl rfl (by omega)) ?_
              refine TS.still rfl (Wt.none rfl) rfl rfl (Yv.fieldAddr rfl rfl) ?_
              first | refine TS.still rfl (Wt.none rfl) rfl rfl (Yv.loadC rfl rfl hkj rfl rfl (fun h => h)) ?_ | refine TS.still rfl (Wt.none rfl) rfl rfl (Yv.loadC rfl rfl hk rfl rfl (fun h => h)) ?_ | refine TS.still rfl (Wt.none rfl) rfl rfl (Yv.loadO 0 rfl rfl rfl rfl) ?_ | refine TS.still rfl (Wt.none rfl) rfl rfl (Yv.loadO 1 rfl rfl rfl rfl) ?_ | refine TS.still rfl (Wt.none rfl) rfl rfl (Yv.loadO 2 rfl rfl rfl rfl) ?_ | refine TS.still rfl (Wt.none rfl) rfl rfl (Yv.loadB rfl rfl (by assumption) (fun h => h)) ?_ | refine TS.still rfl (Wt.none rfl) rfl rfl (Yv.loadS 0 rfl rfl rfl (by first | rfl | assumption)) ?_ | refine TS.still rfl (Wt.none rfl) rfl rfl (Yv.loadS 1 rfl rfl rfl (by first | rfl | assumption)) ?_ | refine TS.still rfl (Wt.none rfl) rfl rfl (Yv.loadS 2 rfl rfl rfl (by first | rfl | assumption)) ?_
              refine TS.still rfl (Wt.none rfl) rfl rfl (Yv.pur rfl) ?_
              refine TS.still rfl (Wt.none rfl) rfl rfl (Yv.pur rfl) ?_
              first | refine TS.still rfl (Wt.none rfl) rfl rfl (Yv.indexSl rfl rfl rfl rfl (by omega)) ?_ | refine TS.still rfl (Wt.none rfl) rfl rfl (Yv.indexAr rfl rfl rfl rfl (by omega)) ?_
              refine TS.still rfl (Wt.none rfl) rfl rfl (Yv.fieldAddr rfl rfl) ?_
              first | refine TS.still rfl (Wt.none rfl) rfl rfl (Yv.loadC rfl rfl hkj rfl rfl (fun h => h)) ?_ | refine TS.still rfl (Wt.none rfl) rfl rfl (Yv.loadC rfl rfl hk rfl rfl (fun h => h)) ?_ | refine TS.still rfl (Wt.none rfl) rfl rfl (Yv.loadO 0 rfl rfl rfl rfl) ?_ | refine TS.still rfl (Wt.none rfl) rfl rfl (Yv.loadO 1 rfl rfl rfl rfl) ?_ | refine TS.still rfl (Wt.none rfl) rfl rfl (Yv.loadO 2 rfl rfl rfl rfl) ?_ | refine TS.still rfl (Wt.none rfl) rfl rfl (Yv.loadB rfl rfl (by assumption) (fun h => h)) ?_ | refine TS.still rfl (Wt.none rfl) rfl rfl (Yv.loadS 0 rfl rfl rfl (by first | rfl | assumption)) ?_ | refine TS.still rfl (Wt.none rfl) rfl rfl (Yv.loadS 1 rfl rfl rfl (by first | rfl | assumption)) ?_ | refine TS.still rfl (Wt.none rfl) rfl rfl (Yv.loadS 2 rfl rfl rfl (by first | rfl | assumption)) ?_
              first | refine TS.still rfl (Wt.none rfl) rfl rfl (Yv.pur rfl) ?_ | refine TS.still rfl (Wt.none rfl) rfl rfl (Yv.eqB rfl rfl rfl rfl) ?_
              refine TS.done ?_
              refine K.seq ?_
              refine T.cond rfl (fun h6 => ?_) (fun h6 => ?_)
              · have p6 := h6
                try simp only [decide_eq_true_eq, decide_eq_false_iff_not, Int.not_lt, Int.not_le, Bool.not_eq_true', Bool.not_eq_false', Decidable.not_not, Bool.and_eq_true, Bool.or_eq_true, Bool.and_eq_false_iff, Bool.or_eq_false_iff] at p6
                refine T.region ?_
                refine TL.yv (Wt.none rfl) rfl rfl (Yv.pur rfl) ?_
                first | refine TL.yv (Wt.none rfl) rfl rfl (Yv.addI rfl rfl rfl (by omega)) ?_ | refine TL.yv (Wt.none rfl) rfl rfl (Yv.pur rfl) ?_
                refine TL.yv (Wt.none rfl) rfl rfl (Yv.pur rfl) ?_
                refine TL.nil ?_
                refine K.blk_normal ?_
                refine K.seq ?_
                refine T.region ?_
                refine TL.yv (Wt.none rfl) rfl rfl (Yv.pur rfl) ?_
                first | refine TL.yv (Wt.none rfl) rfl rfl (Yv.addI rfl rfl rfl (by omega)) ?_ | refine TL.yv (Wt.none rfl) rfl rfl (Yv.pur rfl) ?_
                refine TL.yv (Wt.none rfl) rfl rfl (Yv.pur rfl) ?_
                refine TL.nil ?_
                exact K.next (j + 1) (by omega) (by omega) (by repeat (first | exact Sub.nil | refine Sub.cons rfl ?_ | (refine Sub.consI rfl ?_ ?_; first | (rw [RT, if_pos (by assumption)]; rfl) | (rw [RT, if_neg (by assumption), Int.add_zero]) | (rw [RC, if_pos (by assumption)]; rfl) | (rw [RC, if_neg (by assumption), Int.add_zero])))) (by repeat (first | exact List.Sublist.refl _ | exact List.nil_sublist _ | refine List.Sublist.cons_cons _ ?_ | refine List.Sublist.cons _ ?_))
              · have p6 := h6
                try simp only [decide_eq_true_eq, decide_eq_false_iff_not, Int.not_lt, Int.not_le, Bool.not_eq_true', Bool.not_eq_false', Decidable.not_not, Bool.and_eq_true, Bool.or_eq_true, Bool.and_eq_false_iff, Bool.or_eq_false_iff] at p6
                refine T.skip ?_
                refine K.blk_normal ?_
                refine K.seq ?_
                refine T.region ?_
                refine TL.yv (Wt.none rfl) rfl rfl (Yv.pur rfl) ?_
                first | refine TL.yv (Wt.none rfl) rfl rfl (Yv.addI rfl rfl rfl (by omega)) ?_ | refine TL.yv (Wt.none rfl) rfl rfl (Yv.pur rfl) ?_
                refine TL.yv (Wt.none rfl) rfl rfl (Yv.pur rfl) ?_
                refine TL.nil ?_
                exact K.next (j + 1) (by omega) (by omega) (by repeat (first | exact Sub.nil | refine Sub.cons rfl ?_ | (refine Sub.consI rfl ?_ ?_; first | (rw [RT, if_pos (by assumption)]; rfl) | (rw [RT, if_neg (by assumption), Int.add_zero]) | (rw [RC, if_pos (by assumption)]; rfl) | (rw [RC, if_neg (by assumption), Int.add_zero])))) (by repeat (first | exact List.Sublist.refl _ | exact List.nil_sublist _ | refine List.Sublist.cons_cons _ ?_ | refine List.Sublist.cons _ ?_))
          · have p3 := h3
            try simp only [decide_eq_true_eq, decide_eq_false_iff_not, Int.not_lt, Int.not_le, Bool.not_eq_true', Bool.not_eq_false', Decidable.not_not, Bool.and_eq_true, Bool.or_eq_true, Bool.and_eq_false_iff, Bool.or_eq_false_iff] at p3
            obtain rfl : j = xs.length := by omega
            refine T.exit ?_
            refine K.then_exit ?_
            refine K.then_exit ?_
            refine K.blk_exit_eq ?_
            refine K.seq ?_
            refine T.seq ?_
            refine T.region ?_
            refine TL.yv (Wt.none rfl) rfl rfl (Yv.pur rfl) ?_
            refine TL.yv (Wt.none rfl) rfl rfl (Yv.pur rfl) ?_
            refine TL.yv (Wt.none rfl) rfl rfl (Yv.pur rfl) ?_
            refine TL.yv (Wt.none rfl) rfl rfl (Yv.pur rfl) ?_
            first | refine TL.yv (Wt.none rfl) rfl rfl (Yv.indexSl rfl rfl rfl rfl (by omega)) ?_ | refine TL.yv (Wt.none rfl) rfl rfl (Yv.indexAr rfl rfl rfl rfl (by omega)) ?_
            refine TL.yv (Wt.none rfl) rfl rfl (Yv.fieldAddr rfl rfl) ?_
            first | refine TL.yv (Wt.none rfl) rfl rfl (Yv.loadC rfl rfl hkj rfl rfl (fun h => h)) ?_ | refine TL.yv (Wt.none rfl) rfl rfl (Yv.loadC rfl rfl hk rfl rfl (fun h => h)) ?_ | refine TL.yv (Wt.none rfl) rfl rfl (Yv.loadO 0 rfl rfl rfl rfl) ?_ | refine TL.yv (Wt.none rfl) rfl rfl (Yv.loadO 1 rfl rfl rfl rfl) ?_ | refine TL.yv (Wt.none rfl) rfl rfl (Yv.loadO 2 rfl rfl rfl rfl) ?_ | refine TL.yv (Wt.none rfl) rfl rfl (Yv.loadB rfl rfl (by assumption) (fun h => h)) ?_ | refine TL.yv (Wt.none rfl) rfl rfl (Yv.loadS 0 rfl rfl rfl (by first | rfl | assumption)) ?_ | refine TL.yv (Wt.none rfl) rfl rfl (Yv.loadS 1 rfl rfl rfl (by first | rfl | assumption)) ?_ | refine TL.yv (Wt.none rfl) rfl rfl (Yv.loadS 2 rfl rfl rfl (by first | rfl | assumption)) ?_
            (refine TL.ew (Wt.none rfl) rfl rfl (Ew.callD rfl rfl rfl (fun w hw => refCap_ret ts _ _ _ (ht.kept hw) hlt)) ?_; rintro _ _ ⟨rfl, rfl⟩)
            refine TL.yv (Wt.none rfl) rfl rfl (Yv.pur rfl) ?_
            refine TL.yv (Wt.none rfl) rfl rfl (Yv.pur rfl) ?_
            refine TL.gsplit rfl rfl rfl (fun h7 => ?_) (fun h7 => ?_)
            · have p7 := h7
              try simp only [decide_eq_true_eq, decide_eq_false_iff_not, Int.not_lt, Int.not_le, Bool.not_eq_true', Bool.not_eq_false', Decidable.not_not, Bool.and_eq_true, Bool.or_eq_true, Bool.and_eq_false_iff, Bool.or_eq_false_iff] at p7
              refine TL.off (Wt.not rfl rfl rfl h7) rfl rfl ?_
              refine TL.off (Wt.not rfl rfl rfl h7) rfl rfl ?_
              refine TL.off (Wt.not rfl rfl rfl h7) rfl rfl ?_
              refine TL.off (Wt.not rfl rfl rfl h7) rfl rfl ?_
              refine TL.off (Wt.not rfl rfl rfl h7) rfl rfl ?_
              refine TL.off (Wt.not rfl rfl rfl h7) rfl rfl ?_
              refine TL.off (Wt.not rfl rfl rfl h7) rfl rfl ?_
              refine TL.off (Wt.not rfl rfl rfl h7) rfl rfl ?_
              refine TL.off (Wt.not rfl rfl rfl h7) rfl rfl ?_
              refine TL.yv (Wt.none rfl) rfl rfl (Yv.pickT rfl rfl h7 rfl) ?_
              refine TL.nil ?_
              refine K.seq ?_
              refine T.condT rfl rfl ?_
              refine T.seq ?_
              refine T.region ?_
              refine TL.yv (Wt.none rfl) rfl rfl (Yv.pur rfl) ?_
              refine TL.yv (Wt.none rfl) rfl rfl (Yv.pur rfl) ?_
              refine TL.nil ?_
              refine K.seq ?_
              refine T.ret ?_
              refine K.blk_ret ?_
              refine K.then_ret ?_
              refine K.then_ret ?_
              refine K.blk_ret ?_
              refine K.then_ret ?_
              exact K.ret2 rfl rfl rfl (fun w' hw => ⟨by rw [fitsM_eq, range_false k (by omega) (by simp only [fitK, *, Bool.not_true, Bool.not_false, Bool.or_false, Bool.false_or, Bool.or_true, Bool.true_or, Bool.and_false, Bool.false_and, Bool.true_and, Bool.and_true, Bool.or_self, Bool.and_self, Bool.not_not, decide_true, decide_false, not_true_eq_false, not_false_eq_true, cond_true, cond_false])]; rfl, hw.isBelow⟩)
            · have p7 := h7
              try simp only [decide_eq_true_eq, decide_eq_false_iff_not, Int.not_lt, Int.not_le, Bool.not_eq_true', Bool.not_eq_false', Decidable.not_not, Bool.and_eq_true, Bool.or_eq_true, Bool.and_eq_false_iff, Bool.or_eq_false_iff] at p7
              refine TL.yv (Wt.some rfl rfl rfl h7) rfl rfl (Yv.pur rfl) ?_
              refine TL.yv (Wt.some rfl rfl rfl h7) rfl rfl (Yv.pur rfl) ?_
              refine TL.yv (Wt.some rfl rfl rfl h7) rfl rfl (Yv.pur rfl) ?_
              refine TL.yv (Wt.some rfl rfl rfl h7) rfl rfl (Yv.pur rfl) ?_
              first | refine TL.yv (Wt.some rfl rfl rfl h7) rfl rfl (Yv.indexSl rfl rfl rfl rfl (by omega)) ?_ | refine TL.yv (Wt.some rfl rfl rfl h7) rfl rfl (Yv.indexAr rfl rfl rfl rfl (by omega)) ?_
              refine TL.yv (Wt.some rfl rfl rfl h7) rfl rfl (Yv.fieldAddr rfl rfl) ?_
              first | refine TL.yv (Wt.some rfl rfl rfl h7) rfl rfl (Yv.loadC rfl rfl hkj rfl rfl (fun h => h)) ?_ | refine TL.yv (Wt.some rfl rfl rfl h7) rfl rfl (Yv.loadC rfl rfl hk rfl rfl (fun h => h)) ?_ | refine TL.yv (Wt.some rfl rfl rfl h7) rfl rfl (Yv.loadO 0 rfl rfl rfl rfl) ?_ | refine TL.yv (Wt.some rfl rfl rfl h7) rfl rfl (Yv.loadO 1 rfl rfl rfl rfl) ?_ | refine TL.yv (Wt.some rfl rfl rfl h7) rfl rfl (Yv.loadO 2 rfl rfl rfl rfl) ?_ | refine TL.yv (Wt.some rfl rfl rfl h7) rfl rfl (Yv.loadB rfl rfl (by assumption) (fun h => h)) ?_ | refine TL.yv (Wt.some rfl rfl rfl h7) rfl rfl (Yv.loadS 0 rfl rfl rfl (by first | rfl | assumption)) ?_ | refine TL.yv (Wt.some rfl rfl rfl h7) rfl rfl (Yv.loadS 1 rfl rfl rfl (by first | rfl | assumption)) ?_ | refine TL.yv (Wt.some rfl rfl rfl h7) rfl rfl (Yv.loadS 2 rfl rfl rfl (by first | rfl | assumption)) ?_
              (refine TL.ew (Wt.some rfl rfl rfl h7) rfl rfl (Ew.callD rfl rfl rfl (fun w hw => refCap_ret cs _ _ _ (hcr.kept hw) hlc)) ?_; rintro _ _ ⟨rfl, rfl⟩)
              refine TL.yv (Wt.some rfl rfl rfl h7) rfl rfl (Yv.pur rfl) ?_
              refine TL.yv (Wt.none rfl) rfl rfl (Yv.pickF rfl rfl h7 rfl) ?_
              refine TL.nil ?_
              refine K.seq ?_
              refine T.cond rfl (fun h8 => ?_) (fun h8 => ?_)
              · have p8 := h8
                try simp only [decide_eq_true_eq, decide_eq_false_iff_not, Int.not_lt, Int.not_le, Bool.not_eq_true', Bool.not_eq_false', Decidable.not_not, Bool.and_eq_true, Bool.or_eq_true, Bool.and_eq_false_iff, Bool.or_eq_false_iff] at p8
                refine T.seq ?_
                refine T.region ?_
                refine TL.yv (Wt.none rfl) rfl rfl (Yv.pur rfl) ?_
                refine TL.yv (Wt.none rfl) rfl rfl (Yv.pur rfl) ?_
                refine TL.nil ?_
                refine K.seq ?_
                refine T.ret ?_
                refine K.blk_ret ?_
                refine K.then_ret ?_
                refine K.then_ret ?_
                refine K.blk_ret ?_
                refine K.then_ret ?_
                exact K.ret2 rfl rfl rfl (fun w' hw => ⟨by rw [fitsM_eq, range_false k (by omega) (by simp only [fitK, *, Bool.not_true, Bool.not_false, Bool.or_false, Bool.false_or, Bool.or_true, Bool.true_or, Bool.and_false, Bool.false_and, Bool.true_and, Bool.and_true, Bool.or_self, Bool.and_self, Bool.not_not, decide_true, decide_false, not_true_eq_false, not_false_eq_true, cond_true, cond_false])]; rfl, hw.isBelow⟩)
              · have p8 := h8
                try simp only [decide_eq_true_eq, decide_eq_false_iff_not, Int.not_lt, Int.not_le, Bool.not_eq_true', Bool.not_eq_false', Decidable.not_not, Bool.and_eq_true, Bool.or_eq_true, Bool.and_eq_false_iff, Bool.or_eq_false_iff] at p8
                refine T.skip ?_
                refine K.blk_normal ?_
                refine K.seq ?_
                refine T.region ?_
                refine TL.yv (Wt.none rfl) rfl rfl (Yv.pur rfl) ?_
                first | refine TL.yv (Wt.none rfl) rfl rfl (Yv.addI rfl rfl rfl (by omega)) ?_ | refine TL.yv (Wt.none rfl) rfl rfl (Yv.pur rfl) ?_
                refine TL.yv (Wt.none rfl) rfl rfl (Yv.pur rfl) ?_
                refine TL.nil ?_
                exact K.next (k + 1) ⟨by omega, upto_succ hall (by simp only [fitK, *, Bool.not_true, Bool.not_false, Bool.or_false, Bool.false_or, Bool.or_true, Bool.true_or, Bool.and_false, Bool.false_and, Bool.true_and, Bool.and_true, Bool.or_self, Bool.and_self, Bool.not_not, decide_true, decide_false, not_true_eq_false, not_false_eq_true, cond_true, cond_false])⟩ (by omega) (by repeat (first | exact Sub.nil | refine Sub.cons rfl ?_)) (by repeat (first | exact List.Sublist.refl _ | exact List.nil_sublist _ | refine List.Sublist.cons_cons _ ?_ | refine List.Sublist.cons _ ?_))
      · have p2 := h2
        try simp only [decide_eq_true_eq, decide_eq_false_iff_not, Int.not_lt, Int.not_le, Bool.not_eq_true', Bool.not_eq_false', Decidable.not_not, Bool.and_eq_true, Bool.or_eq_true, Bool.and_eq_false_iff, Bool.or_eq_false_iff] at p2
        refine T.exit ?_
        refine K.then_exit ?_
        refine K.then_exit ?_
        refine K.blk_exit_eq ?_
        refine K.seq ?_
        refine T.seq ?_
        refine T.region ?_
        refine TL.yv (Wt.none rfl) rfl rfl (Yv.pur rfl) ?_
        first | refine TL.yv (Wt.none rfl) rfl rfl (Yv.lenSl rfl rfl) ?_ | refine TL.yv (Wt.none rfl) rfl rfl (Yv.lenAr rfl) ?_
        refine TL.yv (Wt.none rfl) rfl rfl (Yv.pur rfl) ?_
        refine TL.yv (Wt.none rfl) rfl rfl (Yv.pur rfl) ?_
        refine TL.yv (Wt.none rfl) rfl rfl (Yv.pur rfl) ?_
        refine TL.yv (Wt.none rfl) rfl rfl (Yv.pur rfl) ?_
        refine TL.nil ?_
        refine K.seq ?_
        refine T.ret ?_
        exact K.ret2 rfl rfl rfl (fun w' hw => ⟨by rw [fitsM_eq, range_end hall (by omega)]; rfl, hw.isBelow⟩)
  · have p1 := h1
    try simp only [decide_eq_true_eq, decide_eq_false_iff_not, Int.not_lt, Int.not_le, Bool.not_eq_true', Bool.not_eq_false', Decidable.not_not, Bool.and_eq_true, Bool.or_eq_true, Bool.and_eq_false_iff, Bool.or_eq_false_iff] at p1
    exact absurd p1 (by decide)

theorem ceilD_nonneg {a c : Int} (hc : 1 ≤ c) (ha : 0 ≤ a) : 0 ≤ ceilD a c := Int.ediv_nonneg (by omega) (by omega)
theorem least_mul {wk c : Int} {n : Nat} (hc : 1 ≤ c) (h : (n : Int) ≤ ceilD wk c) : (n : Int) * c < wk + c := by
  have : ¬ ceilD wk c ≤ (n : Int) - 1 := by omega
  rw [ceilD_spec hc, Int.sub_mul] at this
  omega

theorem least_ret (wk c : Int) (w : World) (hw0 : 0 ≤ wk) (hw1 : wk ≤ 1000000000) (hc1 : 1 ≤ c) (hc2 : c ≤ 1000000) : Calls Try.prog 42 #[.int .i64 wk, .int .i64 c] w fun e w' => e = .returned (.int .i64 (ceilD wk c)) ∧ Below w.heap.size w w' := by
  refine calls_T (M := fun _ => False) (hs := []) Try.func42 rfl rfl rfl (Hp.refl _ _) ?_
  refine T.seq ?_
  refine T.region ?_
  refine TL.yv (Wt.none rfl) rfl rfl (Yv.pur rfl) ?_
  refine TL.nil ?_
  refine K.seq ?_
  refine T.seq ?_
  refine T.region ?_
  refine TL.yv (Wt.none rfl) rfl rfl (Yv.pur rfl) ?_
  refine TL.nil ?_
  refine K.seq ?_
  refine T.seq ?_
  refine T.block ?_
  refine T.loop (ι := Nat) (fun n => [(0, .int .i64 wk), (1, .int .i64 c), (5, .int .i64 (n : Int))]) (fun n => []) (fun n => (n : Int) ≤ ceilD wk c) (fun n => (ceilD wk c).toNat - n) 0 ?_ ?_ ?_ ?_
  · have := ceilD_nonneg hc1 hw0; omega
  · exact (by repeat (first | exact Sub.nil | refine Sub.cons rfl ?_))
  · exact (by repeat (first | exact List.Sublist.refl _ | exact List.nil_sublist _ | refine List.Sublist.cons_cons _ ?_ | refine List.Sublist.cons _ ?_))
  · intro n hphi
    have hm1 := least_mul hc1 hphi
    have hm2 : (0 : Int) ≤ (n : Int) * c := Int.mul_nonneg (by omega) (by omega)
    refine T.seq ?_
    refine T.seq ?_
    refine T.region ?_
    refine TL.yv (Wt.none rfl) rfl rfl (Yv.pur rfl) ?_
    refine TL.yv (Wt.none rfl) rfl rfl (Yv.pur rfl) ?_
    first | refine TL.yv (Wt.none rfl) rfl rfl (Yv.mulI rfl rfl rfl (by omega)) ?_ | refine TL.yv (Wt.none rfl) rfl rfl (Yv.pur rfl) ?_
    refine TL.yv (Wt.none rfl) rfl rfl (Yv.pur rfl) ?_
    refine TL.yv (Wt.none rfl) rfl rfl (Yv.pur rfl) ?_
    refine TL.nil ?_
    refine K.seq ?_
    refine T.cond rfl (fun h1 => ?_) (fun h1 => ?_)
    · have p1 := h1
      try simp only [decide_eq_true_eq, decide_eq_false_iff_not, Int.not_lt, Int.not_le, Bool.not_eq_true', Bool.not_eq_false', Decidable.not_not, Bool.and_eq_true, Bool.or_eq_true, Bool.and_eq_false_iff, Bool.or_eq_false_iff] at p1
      have hn1 : (n : Int) ≤ 1000000000 := by have : (n : Int) * 1 ≤ (n : Int) * c := Int.mul_le_mul_of_nonneg_left hc1 (by omega); omega
      refine T.skip ?_
      refine K.seq ?_
      refine T.block ?_
      refine T.region ?_
      refine TL.yv (Wt.none rfl) rfl rfl (Yv.pur rfl) ?_
      first | refine TL.yv (Wt.none rfl) rfl rfl (Yv.addI rfl rfl rfl (by omega)) ?_ | refine TL.yv (Wt.none rfl) rfl rfl (Yv.pur rfl) ?_
      refine TL.yv (Wt.none rfl) rfl rfl (Yv.pur rfl) ?_
      refine TL.nil ?_
      refine K.blk_normal ?_
      have hlt : ¬ ceilD wk c ≤ (n : Int) := fun hh => by rw [ceilD_spec hc1] at hh; omega
      exact K.next (n + 1) (by omega) (by omega) (by repeat (first | exact Sub.nil | refine Sub.cons rfl ?_)) (by repeat (first | exact List.Sublist.refl _ | exact List.nil_sublist _ | refine List.Sublist.cons_cons _ ?_ | refine List.Sublist.cons _ ?_))
    · have p1 := h1
      try simp only [decide_eq_true_eq, decide_eq_false_iff_not, Int.not_lt, Int.not_le, Bool.not_eq_true', Bool.not_eq_false', Decidable.not_not, Bool.and_eq_true, Bool.or_eq_true, Bool.and_eq_false_iff, Bool.or_eq_false_iff] at p1
      refine T.exit ?_
      refine K.then_exit ?_
      refine K.then_exit ?_
      refine K.blk_exit_eq ?_
      refine K.seq ?_
      refine T.seq ?_
      refine T.region ?_
      refine TL.yv (Wt.none rfl) rfl rfl (Yv.pur rfl) ?_
      refine TL.yv (Wt.none rfl) rfl rfl (Yv.pur rfl) ?_
      refine TL.nil ?_
      refine K.seq ?_
      refine T.ret ?_
      exact K.ret1 rfl rfl (fun w' hw => ⟨ret_int (by have : ceilD wk c ≤ (n : Int) := (ceilD_spec hc1).2 (by omega); omega), hw.isBelow⟩)
end Go.Proofs.Ytphpmjnpjnmdmaa
