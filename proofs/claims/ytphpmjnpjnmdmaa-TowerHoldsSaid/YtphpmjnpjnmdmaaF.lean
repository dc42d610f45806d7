/- The reference: Error. -/
import Derived.Test.YtphpmjnpjnmdmaaE
set_option maxRecDepth 100000
set_option maxHeartbeats 4000000
set_option linter.unusedSimpArgs false
set_option linter.unusedVariables false
set_option linter.unusedSectionVars false
namespace Go.Proofs.Ytphpmjnpjnmdmaa
open Go.RowKit

theorem found_cap {xs : List Si} {id : Int} (h : sitesOk xs = true) : decide (capOf xs id = 0) = !(findSi xs id).isSome := by
  cases hf : (findSi xs id).isSome with
  | true => have := cap_range h hf; simp; omega
  | false =>
    rw [capOf_find]
    have : findSi xs id = none := by cases hq : findSi xs id with | none => rfl | some s => rw [hq] at hf; cases hf
    simp [this]
def errM (xs : List Mv) (ts cs : List Si) : Int := codeOf xs ts cs true
theorem errM_bad {xs : List Mv} {ts cs : List Si} (h : argsOk xs ts cs = false) : errM xs ts cs = 2 := by simp [errM, codeOf, h]
theorem errM_none {xs : List Mv} {ts cs : List Si} (h : argsOk xs ts cs = true) (k : Nat) (hk : k < xs.length) (hf : (foundP ts cs (plOf (nth xs k) 0) && foundP ts cs (plOf (nth xs k) 1)) = false) : errM xs ts cs = 9 := by
  have : allFound xs ts cs = false := range_false k hk hf
  simp [errM, codeOf, h, this]
theorem errM_ok {xs : List Mv} {ts cs : List Si} (h : argsOk xs ts cs = true) {k : Nat} (hall : ∀ j, j < k → (foundP ts cs (plOf (nth xs j) 0) && foundP ts cs (plOf (nth xs j) 1)) = true) (hk : xs.length ≤ k) : errM xs ts cs = 0 := by
  have : allFound xs ts cs = true := range_end hall hk
  simp [errM, codeOf, h, this]
theorem foundP_zero (ts cs : List Si) (m : Mv) : foundP ts cs (plOf m 0) = (findSi ts m.tw).isSome := rfl
theorem foundP_one (ts cs : List Si) (m : Mv) : foundP ts cs (plOf m 1) = (findSi cs m.cr).isSome := rfl
theorem found0 {ts : List Si} (h : sitesOk ts = true) {id : Int} (e : decide (capOf ts id = 0) = true) : (findSi ts id).isSome = false := by rw [found_cap h] at e; simpa using e
theorem found1 {ts : List Si} (h : sitesOk ts = true) {id : Int} (e : decide (capOf ts id = 0) = false) : (findSi ts id).isSome = true := by rw [found_cap h] at e; simpa using e

theorem refError_ret (xs : List Mv) (ts cs : List Si) (v vt vc : Value) (w : World) (h : MovesAt w v xs) (ht : SitesAt w vt ts) (hcr : SitesAt w vc cs) (hl : xs.length ≤ 9223372036854775807) (hlt : ts.length ≤ 9223372036854775807) (hlc : cs.length ≤ 9223372036854775807) : Calls Try.prog 37 #[v, vt, vc] w fun e w' => e = .returned (.int .i64 (errM xs ts cs)) ∧ Below w.heap.size w w' := by
  obtain ⟨A, cap, rfl, hsl⟩ := h.op
  refine calls_T (M := fun _ => False) (hs := []) Try.func37 rfl rfl rfl (Hp.refl _ _) ?_
  refine T.seq ?_
  refine T.region ?_
  refine TL.yv (Wt.none rfl) rfl rfl (Yv.pur rfl) ?_
  refine TL.nil ?_
  refine K.seq ?_
  refine T.seq ?_
  refine T.seq ?_
  refine T.region ?_
  refine TL.yv (Wt.none rfl) rfl rfl (Yv.pur rfl) ?_
  (refine TL.ew (Wt.none rfl) rfl rfl (Ew.callD rfl rfl rfl (fun w hw => refMoves_ret xs _ _ (h.kept hw) hl)) ?_; rintro _ _ ⟨rfl, rfl⟩)
  first | refine TL.yv (Wt.none rfl) rfl rfl (Yv.pur rfl) ?_ | refine TL.yv (Wt.none rfl) rfl rfl (Yv.not rfl rfl) ?_
  refine TL.yv (Wt.none rfl) rfl rfl (Yv.pur rfl) ?_
  refine TL.gsplit rfl rfl rfl (fun h1 => ?_) (fun h1 => ?_)
  · have p1 := h1
    try simp only [decide_eq_true_eq, decide_eq_false_iff_not, Int.not_lt, Int.not_le, Bool.not_eq_true', Bool.not_eq_false', Decidable.not_not, Bool.and_eq_true, Bool.or_eq_true, Bool.and_eq_false_iff, Bool.or_eq_false_iff] at p1
    refine TL.off (Wt.not rfl rfl rfl h1) rfl rfl ?_
    refine TL.off (Wt.not rfl rfl rfl h1) rfl rfl ?_
    refine TL.off (Wt.not rfl rfl rfl h1) rfl rfl ?_
    refine TL.yv (Wt.none rfl) rfl rfl (Yv.pickT rfl rfl h1 rfl) ?_
    refine TL.yv (Wt.none rfl) rfl rfl (Yv.pur rfl) ?_
    refine TL.off (Wt.not rfl rfl rfl rfl) rfl rfl ?_
    refine TL.off (Wt.not rfl rfl rfl rfl) rfl rfl ?_
    refine TL.off (Wt.not rfl rfl rfl rfl) rfl rfl ?_
    refine TL.yv (Wt.none rfl) rfl rfl (Yv.pickT rfl rfl rfl rfl) ?_
    refine TL.nil ?_
    refine K.seq ?_
    refine T.condT rfl rfl ?_
    refine T.seq ?_
    refine T.region ?_
    refine TL.yv (Wt.none rfl) rfl rfl (Yv.pur rfl) ?_
    refine TL.nil ?_
    refine K.seq ?_
    refine T.ret ?_
    refine K.then_ret ?_
    exact K.ret1 rfl rfl (fun w' hw => ⟨by rw [errM_bad (by simp only [argsOk, *, Bool.not_true, Bool.not_false, Bool.or_false, Bool.false_or, Bool.or_true, Bool.true_or, Bool.and_false, Bool.false_and, Bool.true_and, Bool.and_true, Bool.or_self, Bool.and_self, Bool.not_not, decide_true, decide_false, not_true_eq_false, not_false_eq_true, cond_true, cond_false])], hw.isBelow⟩)
  · have p1 := h1
    try simp only [decide_eq_true_eq, decide_eq_false_iff_not, Int.not_lt, Int.not_le, Bool.not_eq_true', Bool.not_eq_false', Decidable.not_not, Bool.and_eq_true, Bool.or_eq_true, Bool.and_eq_false_iff, Bool.or_eq_false_iff] at p1
    refine TL.yv (Wt.some rfl rfl rfl h1) rfl rfl (Yv.pur rfl) ?_
    (refine TL.ew (Wt.some rfl rfl rfl h1) rfl rfl (Ew.callD rfl rfl rfl (fun w hw => refSites_ret ts _ _ (ht.kept hw) hlt)) ?_; rintro _ _ ⟨rfl, rfl⟩)
    first | refine TL.yv (Wt.some rfl rfl rfl h1) rfl rfl (Yv.pur rfl) ?_ | refine TL.yv (Wt.some rfl rfl rfl h1) rfl rfl (Yv.not rfl rfl) ?_
    refine TL.yv (Wt.none rfl) rfl rfl (Yv.pickF rfl rfl h1 rfl) ?_
    refine TL.yv (Wt.none rfl) rfl rfl (Yv.pur rfl) ?_
    refine TL.gsplit rfl rfl rfl (fun h2 => ?_) (fun h2 => ?_)
    · have p2 := h2
      try simp only [decide_eq_true_eq, decide_eq_false_iff_not, Int.not_lt, Int.not_le, Bool.not_eq_true', Bool.not_eq_false', Decidable.not_not, Bool.and_eq_true, Bool.or_eq_true, Bool.and_eq_false_iff, Bool.or_eq_false_iff] at p2
      refine TL.off (Wt.not rfl rfl rfl h2) rfl rfl ?_
      refine TL.off (Wt.not rfl rfl rfl h2) rfl rfl ?_
      refine TL.off (Wt.not rfl rfl rfl h2) rfl rfl ?_
      refine TL.yv (Wt.none rfl) rfl rfl (Yv.pickT rfl rfl h2 rfl) ?_
      refine TL.nil ?_
      refine K.seq ?_
      refine T.condT rfl rfl ?_
      refine T.seq ?_
      refine T.region ?_
      refine TL.yv (Wt.none rfl) rfl rfl (Yv.pur rfl) ?_
      refine TL.nil ?_
      refine K.seq ?_
      refine T.ret ?_
      refine K.then_ret ?_
      exact K.ret1 rfl rfl (fun w' hw => ⟨by rw [errM_bad (by simp only [argsOk, *, Bool.not_true, Bool.not_false, Bool.or_false, Bool.false_or, Bool.or_true, Bool.true_or, Bool.and_false, Bool.false_and, Bool.true_and, Bool.and_true, Bool.or_self, Bool.and_self, Bool.not_not, decide_true, decide_false, not_true_eq_false, not_false_eq_true, cond_true, cond_false])], hw.isBelow⟩)
    · have p2 := h2
      try simp only [decide_eq_true_eq, decide_eq_false_iff_not, Int.not_lt, Int.not_le, Bool.not_eq_true', Bool.not_eq_false', Decidable.not_not, Bool.and_eq_true, Bool.or_eq_true, Bool.and_eq_false_iff, Bool.or_eq_false_iff] at p2
      refine TL.yv (Wt.some rfl rfl rfl h2) rfl rfl (Yv.pur rfl) ?_
      (refine TL.ew (Wt.some rfl rfl rfl h2) rfl rfl (Ew.callD rfl rfl rfl (fun w hw => refSites_ret cs _ _ (hcr.kept hw) hlc)) ?_; rintro _ _ ⟨rfl, rfl⟩)
      first | refine TL.yv (Wt.some rfl rfl rfl h2) rfl rfl (Yv.pur rfl) ?_ | refine TL.yv (Wt.some rfl rfl rfl h2) rfl rfl (Yv.not rfl rfl) ?_
      refine TL.yv (Wt.none rfl) rfl rfl (Yv.pickF rfl rfl h2 rfl) ?_
      refine TL.nil ?_
      refine K.seq ?_
      refine T.cond rfl (fun h3 => ?_) (fun h3 => ?_)
      · have p3 := h3
        try simp only [decide_eq_true_eq, decide_eq_false_iff_not, Int.not_lt, Int.not_le, Bool.not_eq_true', Bool.not_eq_false', Decidable.not_not, Bool.and_eq_true, Bool.or_eq_true, Bool.and_eq_false_iff, Bool.or_eq_false_iff] at p3
        refine T.seq ?_
        refine T.region ?_
        refine TL.yv (Wt.none rfl) rfl rfl (Yv.pur rfl) ?_
        refine TL.nil ?_
        refine K.seq ?_
        refine T.ret ?_
        refine K.then_ret ?_
        exact K.ret1 rfl rfl (fun w' hw => ⟨by rw [errM_bad (by simp only [argsOk, *, Bool.not_true, Bool.not_false, Bool.or_false, Bool.false_or, Bool.or_true, Bool.true_or, Bool.and_false, Bool.false_and, Bool.true_and, Bool.and_true, Bool.or_self, Bool.and_self, Bool.not_not, decide_true, decide_false, not_true_eq_false, not_false_eq_true, cond_true, cond_false])], hw.isBelow⟩)
      · have p3 := h3
        try simp only [decide_eq_true_eq, decide_eq_false_iff_not, Int.not_lt, Int.not_le, Bool.not_eq_true', Bool.not_eq_false', Decidable.not_not, Bool.and_eq_true, Bool.or_eq_true, Bool.and_eq_false_iff, Bool.or_eq_false_iff] at p3
        refine T.skip ?_
        refine K.seq ?_
        refine T.seq ?_
        refine T.seq ?_
        refine T.region ?_
        refine TL.yv (Wt.none rfl) rfl rfl (Yv.pur rfl) ?_
        refine TL.nil ?_
        refine K.seq ?_
        refine T.block ?_
        refine T.loop (ι := Nat) (fun k => [(0, .slice A xs.length cap), (1, vt), (2, vc), (7, .int .i64 (k : Int))]) (fun k => []) (fun k => k ≤ xs.length ∧ ∀ j, j < k → (foundP ts cs (plOf (nth xs j) 0) && foundP ts cs (plOf (nth xs j) 1)) = true) (fun k => xs.length - k) 0 ?_ ?_ ?_ ?_
        · exact ⟨by omega, fun j hj => by omega⟩
        · exact (by repeat (first | exact Sub.nil | refine Sub.cons rfl ?_))
        · exact (by repeat (first | exact List.Sublist.refl _ | exact List.nil_sublist _ | refine List.Sublist.cons_cons _ ?_ | refine List.Sublist.cons _ ?_))
        · intro k hphi
          obtain ⟨hkl, hall⟩ := hphi
          refine T.seq ?_
          refine T.seq ?_
          refine T.region ?_
          refine TL.yv (Wt.none rfl) rfl rfl (Yv.pur rfl) ?_
          refine TL.yv (Wt.none rfl) rfl rfl (Yv.pur rfl) ?_
          first | refine TL.yv (Wt.none rfl) rfl rfl (Yv.lenSl rfl rfl) ?_ | refine TL.yv (Wt.none rfl) rfl rfl (Yv.lenAr rfl) ?_
          refine TL.yv (Wt.none rfl) rfl rfl (Yv.pur rfl) ?_
          refine TL.nil ?_
          refine K.seq ?_
          refine T.cond rfl (fun h4 => ?_) (fun h4 => ?_)
          · have p4 := h4
            try simp only [decide_eq_true_eq, decide_eq_false_iff_not, Int.not_lt, Int.not_le, Bool.not_eq_true', Bool.not_eq_false', Decidable.not_not, Bool.and_eq_true, Bool.or_eq_true, Bool.and_eq_false_iff, Bool.or_eq_false_iff] at p4
            obtain ⟨g, off, rfl, hc⟩ := hsl (by omega)
            have hk := hc k (by omega)
            have hk1 := hc (k - 1) (by omega)
            simp only [Mv.cells] at hk hk1
            refine T.skip ?_
            refine K.seq ?_
            refine T.seq ?_
            refine T.block ?_
            refine T.seq ?_
            refine T.region ?_
            refine TL.yv (Wt.none rfl) rfl rfl (Yv.pur rfl) ?_
            refine TL.yv (Wt.none rfl) rfl rfl (Yv.pur rfl) ?_
            refine TL.yv (Wt.none rfl) rfl rfl (Yv.pur rfl) ?_
            first | refine TL.yv (Wt.none rfl) rfl rfl (Yv.indexSl rfl rfl rfl rfl (by omega)) ?_ | refine TL.yv (Wt.none rfl) rfl rfl (Yv.indexAr rfl rfl rfl rfl (by omega)) ?_
            refine TL.yv (Wt.none rfl) rfl rfl (Yv.fieldAddr rfl rfl) ?_
            first | refine TL.yv (Wt.none rfl) rfl rfl (Yv.loadC rfl rfl hk rfl rfl (fun h => h)) ?_ | refine TL.yv (Wt.none rfl) rfl rfl (Yv.loadC rfl rfl hk1 rfl rfl (fun h => h)) ?_ | refine TL.yv (Wt.none rfl) rfl rfl (Yv.loadAB rfl rfl hk rfl (fun h => h)) ?_ | refine TL.yv (Wt.none rfl) rfl rfl (Yv.loadO 0 rfl rfl rfl rfl) ?_ | refine TL.yv (Wt.none rfl) rfl rfl (Yv.loadO 1 rfl rfl rfl rfl) ?_ | refine TL.yv (Wt.none rfl) rfl rfl (Yv.loadO 2 rfl rfl rfl rfl) ?_ | refine TL.yv (Wt.none rfl) rfl rfl (Yv.loadB rfl rfl (by assumption) (fun h => h)) ?_ | refine TL.yv (Wt.none rfl) rfl rfl (Yv.loadS 0 rfl rfl rfl (by first | rfl | assumption)) ?_ | refine TL.yv (Wt.none rfl) rfl rfl (Yv.loadS 1 rfl rfl rfl (by first | rfl | assumption)) ?_ | refine TL.yv (Wt.none rfl) rfl rfl (Yv.loadS 2 rfl rfl rfl (by first | rfl | assumption)) ?_
            (refine TL.ew (Wt.none rfl) rfl rfl (Ew.callD rfl rfl rfl (fun w hw => refCap_ret ts _ _ _ (ht.kept hw) hlt)) ?_; rintro _ _ ⟨rfl, rfl⟩)
            first | refine TL.yv (Wt.none rfl) rfl rfl (Yv.pur rfl) ?_ | refine TL.yv (Wt.none rfl) rfl rfl (Yv.eqB rfl rfl rfl rfl) ?_
            refine TL.yv (Wt.none rfl) rfl rfl (Yv.pur rfl) ?_
            refine TL.gsplit rfl rfl rfl (fun h5 => ?_) (fun h5 => ?_)
            · have p5 := h5
              try simp only [decide_eq_true_eq, decide_eq_false_iff_not, Int.not_lt, Int.not_le, Bool.not_eq_true', Bool.not_eq_false', Decidable.not_not, Bool.and_eq_true, Bool.or_eq_true, Bool.and_eq_false_iff, Bool.or_eq_false_iff] at p5
              refine TL.off (Wt.not rfl rfl rfl h5) rfl rfl ?_
              refine TL.off (Wt.not rfl rfl rfl h5) rfl rfl ?_
              refine TL.off (Wt.not rfl rfl rfl h5) rfl rfl ?_
              refine TL.off (Wt.not rfl rfl rfl h5) rfl rfl ?_
              refine TL.off (Wt.not rfl rfl rfl h5) rfl rfl ?_
              refine TL.off (Wt.not rfl rfl rfl h5) rfl rfl ?_
              refine TL.off (Wt.not rfl rfl rfl h5) rfl rfl ?_
              refine TL.off (Wt.not rfl rfl rfl h5) rfl rfl ?_
              refine TL.yv (Wt.none rfl) rfl rfl (Yv.pickT rfl rfl h5 rfl) ?_
              refine TL.nil ?_
              refine K.seq ?_
              refine T.condT rfl rfl ?_
              refine T.seq ?_
              refine T.region ?_
              refine TL.yv (Wt.none rfl) rfl rfl (Yv.pur rfl) ?_
              refine TL.nil ?_
              refine K.seq ?_
              refine T.ret ?_
              refine K.blk_ret ?_
              refine K.then_ret ?_
              refine K.then_ret ?_
              refine K.blk_ret ?_
              refine K.then_ret ?_
              exact K.ret1 rfl rfl (fun w' hw => ⟨by rw [errM_none (by simp only [argsOk, *, Bool.not_true, Bool.not_false, Bool.or_false, Bool.false_or, Bool.or_true, Bool.true_or, Bool.and_false, Bool.false_and, Bool.true_and, Bool.and_true, Bool.or_self, Bool.and_self, Bool.not_not, decide_true, decide_false, not_true_eq_false, not_false_eq_true, cond_true, cond_false]) k (by omega) (by rw [foundP_zero, foundP_one, found0 p2 (by assumption)]; rfl)], hw.isBelow⟩)
            · have p5 := h5
              try simp only [decide_eq_true_eq, decide_eq_false_iff_not, Int.not_lt, Int.not_le, Bool.not_eq_true', Bool.not_eq_false', Decidable.not_not, Bool.and_eq_true, Bool.or_eq_true, Bool.and_eq_false_iff, Bool.or_eq_false_iff] at p5
              refine TL.yv (Wt.some rfl rfl rfl h5) rfl rfl (Yv.pur rfl) ?_
              refine TL.yv (Wt.some rfl rfl rfl h5) rfl rfl (Yv.pur rfl) ?_
              refine TL.yv (Wt.some rfl rfl rfl h5) rfl rfl (Yv.pur rfl) ?_
              first | refine TL.yv (Wt.some rfl rfl rfl h5) rfl rfl (Yv.indexSl rfl rfl rfl rfl (by omega)) ?_ | refine TL.yv (Wt.some rfl rfl rfl h5) rfl rfl (Yv.indexAr rfl rfl rfl rfl (by omega)) ?_
              refine TL.yv (Wt.some rfl rfl rfl h5) rfl rfl (Yv.fieldAddr rfl rfl) ?_
              first | refine TL.yv (Wt.some rfl rfl rfl h5) rfl rfl (Yv.loadC rfl rfl hk rfl rfl (fun h => h)) ?_ | refine TL.yv (Wt.some rfl rfl rfl h5) rfl rfl (Yv.loadC rfl rfl hk1 rfl rfl (fun h => h)) ?_ | refine TL.yv (Wt.some rfl rfl rfl h5) rfl rfl (Yv.loadAB rfl rfl hk rfl (fun h => h)) ?_ | refine TL.yv (Wt.some rfl rfl rfl h5) rfl rfl (Yv.loadO 0 rfl rfl rfl rfl) ?_ | refine TL.yv (Wt.some rfl rfl rfl h5) rfl rfl (Yv.loadO 1 rfl rfl rfl rfl) ?_ | refine TL.yv (Wt.some rfl rfl rfl h5) rfl rfl (Yv.loadO 2 rfl rfl rfl rfl) ?_ | refine TL.yv (Wt.some rfl rfl rfl h5) rfl rfl (Yv.loadB rfl rfl (by assumption) (fun h => h)) ?_ | refine TL.yv (Wt.some rfl rfl rfl h5) rfl rfl (Yv.loadS 0 rfl rfl rfl (by first | rfl | assumption)) ?_ | refine TL.yv (Wt.some rfl rfl rfl h5) rfl rfl (Yv.loadS 1 rfl rfl rfl (by first | rfl | assumption)) ?_ | refine TL.yv (Wt.some rfl rfl rfl h5) rfl rfl (Yv.loadS 2 rfl rfl rfl (by first | rfl | assumption)) ?_
              (refine TL.ew (Wt.some rfl rfl rfl h5) rfl rfl (Ew.callD rfl rfl rfl (fun w hw => refCap_ret cs _ _ _ (hcr.kept hw) hlc)) ?_; rintro _ _ ⟨rfl, rfl⟩)
              first | refine TL.yv (Wt.some rfl rfl rfl h5) rfl rfl (Yv.pur rfl) ?_ | refine TL.yv (Wt.some rfl rfl rfl h5) rfl rfl (Yv.eqB rfl rfl rfl rfl) ?_
              refine TL.yv (Wt.none rfl) rfl rfl (Yv.pickF rfl rfl h5 rfl) ?_
              refine TL.nil ?_
              refine K.seq ?_
              refine T.cond rfl (fun h6 => ?_) (fun h6 => ?_)
              · have p6 := h6
                try simp only [decide_eq_true_eq, decide_eq_false_iff_not, Int.not_lt, Int.not_le, Bool.not_eq_true', Bool.not_eq_false', Decidable.not_not, Bool.and_eq_true, Bool.or_eq_true, Bool.and_eq_false_iff, Bool.or_eq_false_iff] at p6
                refine T.seq ?_
                refine T.region ?_
                refine TL.yv (Wt.none rfl) rfl rfl (Yv.pur rfl) ?_
                refine TL.nil ?_
                refine K.seq ?_
                refine T.ret ?_
                refine K.blk_ret ?_
                refine K.then_ret ?_
                refine K.then_ret ?_
                refine K.blk_ret ?_
                refine K.then_ret ?_
                exact K.ret1 rfl rfl (fun w' hw => ⟨by rw [errM_none (by simp only [argsOk, *, Bool.not_true, Bool.not_false, Bool.or_false, Bool.false_or, Bool.or_true, Bool.true_or, Bool.and_false, Bool.false_and, Bool.true_and, Bool.and_true, Bool.or_self, Bool.and_self, Bool.not_not, decide_true, decide_false, not_true_eq_false, not_false_eq_true, cond_true, cond_false]) k (by omega) (by rw [foundP_zero, foundP_one, found0 p3 (by assumption), Bool.and_false])], hw.isBelow⟩)
              · have p6 := h6
                try simp only [decide_eq_true_eq, decide_eq_false_iff_not, Int.not_lt, Int.not_le, Bool.not_eq_true', Bool.not_eq_false', Decidable.not_not, Bool.and_eq_true, Bool.or_eq_true, Bool.and_eq_false_iff, Bool.or_eq_false_iff] at p6
                refine T.skip ?_
                refine K.blk_normal ?_
                refine K.seq ?_
                refine T.region ?_
                refine TL.yv (Wt.none rfl) rfl rfl (Yv.pur rfl) ?_
                first | refine TL.yv (Wt.none rfl) rfl rfl (Yv.addI rfl rfl rfl (by omega)) ?_ | refine TL.yv (Wt.none rfl) rfl rfl (Yv.pur rfl) ?_
                refine TL.yv (Wt.none rfl) rfl rfl (Yv.pur rfl) ?_
                refine TL.nil ?_
                exact K.next (k + 1) ⟨by omega, upto_succ hall (by rw [foundP_zero, foundP_one, found1 p2 (by assumption), found1 p3 (by assumption)]; rfl)⟩ (by omega) (by repeat (first | exact Sub.nil | refine Sub.cons rfl ?_)) (by repeat (first | exact List.Sublist.refl _ | exact List.nil_sublist _ | refine List.Sublist.cons_cons _ ?_ | refine List.Sublist.cons _ ?_))
          · have p4 := h4
            try simp only [decide_eq_true_eq, decide_eq_false_iff_not, Int.not_lt, Int.not_le, Bool.not_eq_true', Bool.not_eq_false', Decidable.not_not, Bool.and_eq_true, Bool.or_eq_true, Bool.and_eq_false_iff, Bool.or_eq_false_iff] at p4
            refine T.exit ?_
            refine K.then_exit ?_
            refine K.then_exit ?_
            refine K.blk_exit_eq ?_
            refine K.seq ?_
            refine T.seq ?_
            refine T.region ?_
            refine TL.yv (Wt.none rfl) rfl rfl (Yv.pur rfl) ?_
            refine TL.nil ?_
            refine K.seq ?_
            refine T.ret ?_
            exact K.ret1 rfl rfl (fun w' hw => ⟨by rw [errM_ok (by simp only [argsOk, *, Bool.not_true, Bool.not_false, Bool.or_false, Bool.false_or, Bool.or_true, Bool.true_or, Bool.and_false, Bool.false_and, Bool.true_and, Bool.and_true, Bool.or_self, Bool.and_self, Bool.not_not, decide_true, decide_false, not_true_eq_false, not_false_eq_true, cond_true, cond_false]) hall (by omega)], hw.isBelow⟩)
end Go.Proofs.Ytphpmjnpjnmdmaa
