/- The reference: Same, Used. -/
import Derived.Test.YtphpmjnpjnmdmaaMb
set_option maxRecDepth 100000
set_option maxHeartbeats 4000000
set_option linter.unusedSimpArgs false
set_option linter.unusedVariables false
set_option linter.unusedSectionVars false
namespace Go.Proofs.Ytphpmjnpjnmdmaa
open Go.RowKit

theorem same_end {xs ys : List Wk} {k : Nat} (hl : xs.length = ys.length) (h : ∀ j, j < k → nth xs j = nth ys j) (hk : xs.length ≤ k) : decide (xs = ys) = true := by
  apply decide_eq_true
  apply List.ext_getElem hl
  intro j h1 h2
  have := h j (by omega)
  rwa [nth_eq h1, nth_eq h2] at this
theorem same_not {xs ys : List Wk} {k : Nat} (h : ¬ nth xs k = nth ys k) : decide (xs = ys) = false := decide_eq_false fun e => h (by rw [e])
theorem same_len {xs ys : List Wk} (h : ¬ (xs.length : Int) = (ys.length : Int)) : decide (xs = ys) = false := decide_eq_false fun e => h (by rw [e])

theorem same_ret (xs ys : List Wk) (v v2 : Value) (w : World) (h : WorksAt w v xs) (h2 : WorksAt w v2 ys) (hl : xs.length ≤ 9223372036854775807) : Calls Try.prog 22 #[v, v2] w fun e w' => e = .returned (.bool (decide (xs = ys))) ∧ Below w.heap.size w w' := by
  obtain ⟨A, cap, rfl, hsl⟩ := h.op
  obtain ⟨A2, cap2, rfl, hsl2⟩ := h2.op
  refine calls_T (M := fun _ => False) (hs := []) Try.func22 rfl rfl rfl (Hp.refl _ _) ?_
  refine T.seq ?_
  refine T.region ?_
  refine TL.yv (Wt.none rfl) rfl rfl (Yv.pur rfl) ?_
  refine TL.nil ?_
  refine K.seq ?_
  refine T.seq ?_
  refine T.seq ?_
  refine T.region ?_
  refine TL.yv (Wt.none rfl) rfl rfl (Yv.pur rfl) ?_
  first | refine TL.yv (Wt.none rfl) rfl rfl (Yv.lenSl rfl rfl) ?_ | refine TL.yv (Wt.none rfl) rfl rfl (Yv.lenAr rfl) ?_
  refine TL.yv (Wt.none rfl) rfl rfl (Yv.pur rfl) ?_
  first | refine TL.yv (Wt.none rfl) rfl rfl (Yv.lenSl rfl rfl) ?_ | refine TL.yv (Wt.none rfl) rfl rfl (Yv.lenAr rfl) ?_
  first | refine TL.yv (Wt.none rfl) rfl rfl (Yv.pur rfl) ?_ | refine TL.yv (Wt.none rfl) rfl rfl (Yv.neB rfl rfl rfl rfl) ?_ | refine TL.yv (Wt.none rfl) rfl rfl (Yv.neW rfl rfl rfl) ?_
  refine TL.nil ?_
  refine K.seq ?_
  refine T.cond rfl (fun h1 => ?_) (fun h1 => ?_)
  · have p1 := h1
    try simp only [decide_eq_true_eq, decide_eq_false_iff_not, Int.not_lt, Int.not_le, Bool.not_eq_true', Bool.not_eq_false', Decidable.not_not, Bool.and_eq_true, Bool.or_eq_true, Bool.and_eq_false_iff, Bool.or_eq_false_iff] at p1
    refine T.seq ?_
    refine T.region ?_
    refine TL.yv (Wt.none rfl) rfl rfl (Yv.pur rfl) ?_
    refine TL.nil ?_
    refine K.seq ?_
    refine T.ret ?_
    refine K.then_ret ?_
    exact K.ret1 rfl rfl (fun w' hw => ⟨by rw [same_len (by assumption)], hw.isBelow⟩)
  · have p1 := h1
    try simp only [decide_eq_true_eq, decide_eq_false_iff_not, Int.not_lt, Int.not_le, Bool.not_eq_true', Bool.not_eq_false', Decidable.not_not, Bool.and_eq_true, Bool.or_eq_true, Bool.and_eq_false_iff, Bool.or_eq_false_iff] at p1
    refine T.skip ?_
    refine K.seq ?_
    refine T.seq ?_
    refine T.seq ?_
    refine T.region ?_
    refine TL.yv (Wt.none rfl) rfl rfl (Yv.pur rfl) ?_
    refine TL.nil ?_
    refine K.seq ?_
    refine T.block ?_
    refine T.loop (ι := Nat) (fun k => [(0, .slice A xs.length cap), (1, .slice A2 ys.length cap2), (5, .int .i64 (k : Int))]) (fun k => []) (fun k => k ≤ xs.length ∧ ∀ j, j < k → nth xs j = nth ys j) (fun k => xs.length - k) 0 ?_ ?_ ?_ ?_
    · exact ⟨by omega, fun j hj => by omega⟩
    · exact (by repeat (first | exact Sub.nil | refine Sub.cons rfl ?_))
    · exact (by repeat (first | exact List.Sublist.refl _ | exact List.nil_sublist _ | refine List.Sublist.cons_cons _ ?_ | refine List.Sublist.cons _ ?_))
    · intro k hphi
      obtain ⟨hkl, hall⟩ := hphi
      refine T.seq ?_
      refine T.seq ?_
      refine T.region ?_
      refine TL.yv (Wt.none rfl) rfl rfl (Yv.pur rfl) ?_
      refine TL.yv (Wt.none rfl) rfl rfl (Yv.pur rfl) ?_
      first | refine TL.yv (Wt.none rfl) rfl rfl (Yv.lenSl rfl rfl) ?_ | refine TL.yv (Wt.none rfl) rfl rfl (Yv.lenAr rfl) ?_
      refine TL.yv (Wt.none rfl) rfl rfl (Yv.pur rfl) ?_
      refine TL.nil ?_
      refine K.seq ?_
      refine T.cond rfl (fun h2 => ?_) (fun h2 => ?_)
      · have p2 := h2
        try simp only [decide_eq_true_eq, decide_eq_false_iff_not, Int.not_lt, Int.not_le, Bool.not_eq_true', Bool.not_eq_false', Decidable.not_not, Bool.and_eq_true, Bool.or_eq_true, Bool.and_eq_false_iff, Bool.or_eq_false_iff] at p2
        obtain ⟨g, off, rfl, hc⟩ := hsl (by omega)
        obtain ⟨g2, off2, rfl, hc2⟩ := hsl2 (by omega)
        have hk := hc k (by omega)
        have hk2 := hc2 k (by omega)
        refine T.skip ?_
        refine K.seq ?_
        refine T.seq ?_
        refine T.block ?_
        refine T.seq ?_
        refine T.draw (.still 0 (.still 1 (.still 2 (.still 3 (.still 4 (.still 5 (.still 6 (.still 7 (.still 8 .done))))))))) _ (by kernel_rfl) (List.Sublist.refl _) ?_
        refine TS.still rfl (Wt.none rfl) rfl rfl (Yv.pur rfl) ?_
        refine TS.still rfl (Wt.none rfl) rfl rfl (Yv.pur rfl) ?_
        first | refine TS.still rfl (Wt.none rfl) rfl rfl (Yv.indexSl rfl rfl rfl rfl (by omega)) ?_ | refine TS.still rfl (Wt.none rfl) rfl rfl (Yv.indexAr rfl rfl rfl rfl (by omega)) ?_
        first | refine TS.still rfl (Wt.none rfl) rfl rfl (Yv.loadAB rfl rfl hk rfl (fun h => h)) ?_ | refine TS.still rfl (Wt.none rfl) rfl rfl (Yv.loadAB rfl rfl hk2 rfl (fun h => h)) ?_ | refine TS.still rfl (Wt.none rfl) rfl rfl (Yv.loadAO 0 rfl rfl rfl rfl) ?_ | refine TS.still rfl (Wt.none rfl) rfl rfl (Yv.loadAO 1 rfl rfl rfl rfl) ?_ | refine TS.still rfl (Wt.none rfl) rfl rfl (Yv.loadAO 2 rfl rfl rfl rfl) ?_ | refine TS.still rfl (Wt.none rfl) rfl rfl (Yv.loadAB rfl rfl (by assumption) rfl (fun h => h)) ?_
        refine TS.still rfl (Wt.none rfl) rfl rfl (Yv.pur rfl) ?_
        refine TS.still rfl (Wt.none rfl) rfl rfl (Yv.pur rfl) ?_
        first | refine TS.still rfl (Wt.none rfl) rfl rfl (Yv.indexSl rfl rfl rfl rfl (by omega)) ?_ | refine TS.still rfl (Wt.none rfl) rfl rfl (Yv.indexAr rfl rfl rfl rfl (by omega)) ?_
        first | refine TS.still rfl (Wt.none rfl) rfl rfl (Yv.loadAB rfl rfl hk rfl (fun h => h)) ?_ | refine TS.still rfl (Wt.none rfl) rfl rfl (Yv.loadAB rfl rfl hk2 rfl (fun h => h)) ?_ | refine TS.still rfl (Wt.none rfl) rfl rfl (Yv.loadAO 0 rfl rfl rfl rfl) ?_ | refine TS.still rfl (Wt.none rfl) rfl rfl (Yv.loadAO 1 rfl rfl rfl rfl) ?_ | refine TS.still rfl (Wt.none rfl) rfl rfl (Yv.loadAO 2 rfl rfl rfl rfl) ?_ | refine TS.still rfl (Wt.none rfl) rfl rfl (Yv.loadAB rfl rfl (by assumption) rfl (fun h => h)) ?_
        first | refine TS.still rfl (Wt.none rfl) rfl rfl (Yv.pur rfl) ?_ | refine TS.still rfl (Wt.none rfl) rfl rfl (Yv.neB rfl rfl rfl rfl) ?_ | refine TS.still rfl (Wt.none rfl) rfl rfl (Yv.neW rfl rfl rfl) ?_
        refine TS.done ?_
        refine K.seq ?_
        refine T.cond rfl (fun h3 => ?_) (fun h3 => ?_)
        · have p3 := h3
          try simp only [decide_eq_true_eq, decide_eq_false_iff_not, Int.not_lt, Int.not_le, Bool.not_eq_true', Bool.not_eq_false', Decidable.not_not, Bool.and_eq_true, Bool.or_eq_true, Bool.and_eq_false_iff, Bool.or_eq_false_iff] at p3
          refine T.seq ?_
          refine T.region ?_
          refine TL.yv (Wt.none rfl) rfl rfl (Yv.pur rfl) ?_
          refine TL.nil ?_
          refine K.seq ?_
          refine T.ret ?_
          refine K.blk_ret ?_
          refine K.then_ret ?_
          refine K.then_ret ?_
          refine K.blk_ret ?_
          refine K.then_ret ?_
          exact K.ret1 rfl rfl (fun w' hw => ⟨by rw [same_not (k := k) (by simpa using h3)], hw.isBelow⟩)
        · have p3 := h3
          try simp only [decide_eq_true_eq, decide_eq_false_iff_not, Int.not_lt, Int.not_le, Bool.not_eq_true', Bool.not_eq_false', Decidable.not_not, Bool.and_eq_true, Bool.or_eq_true, Bool.and_eq_false_iff, Bool.or_eq_false_iff] at p3
          refine T.skip ?_
          refine K.blk_normal ?_
          refine K.seq ?_
          refine T.region ?_
          refine TL.yv (Wt.none rfl) rfl rfl (Yv.pur rfl) ?_
          first | refine TL.yv (Wt.none rfl) rfl rfl (Yv.addI rfl rfl rfl (by omega)) ?_ | refine TL.yv (Wt.none rfl) rfl rfl (Yv.pur rfl) ?_
          refine TL.yv (Wt.none rfl) rfl rfl (Yv.pur rfl) ?_
          refine TL.nil ?_
          exact K.next (k + 1) ⟨by omega, upto_succ hall (by simpa using h3)⟩ (by omega) (by repeat (first | exact Sub.nil | refine Sub.cons rfl ?_)) (by repeat (first | exact List.Sublist.refl _ | exact List.nil_sublist _ | refine List.Sublist.cons_cons _ ?_ | refine List.Sublist.cons _ ?_))
      · have p2 := h2
        try simp only [decide_eq_true_eq, decide_eq_false_iff_not, Int.not_lt, Int.not_le, Bool.not_eq_true', Bool.not_eq_false', Decidable.not_not, Bool.and_eq_true, Bool.or_eq_true, Bool.and_eq_false_iff, Bool.or_eq_false_iff] at p2
        refine T.exit ?_
        refine K.then_exit ?_
        refine K.then_exit ?_
        refine K.blk_exit_eq ?_
        refine K.seq ?_
        refine T.seq ?_
        refine T.region ?_
        refine TL.yv (Wt.none rfl) rfl rfl (Yv.pur rfl) ?_
        refine TL.nil ?_
        refine K.seq ?_
        refine T.ret ?_
        exact K.ret1 rfl rfl (fun w' hw => ⟨by rw [same_end (by omega) hall (by omega)], hw.isBelow⟩)

theorem usedN_pos {xs : List Mv} {ws : List Wk} {week : Int} {q : Pl} {n : Nat} (h : (plOf (nth xs n) (if q.1 = true then 1 else 0)).2 = q.2) (h1 : (nth ws n).start ≤ week) (h2 : week < (nth ws n).fin) : usedN xs ws week q n + 1 = usedN xs ws week q (n + 1) := by rw [usedN, if_pos ⟨h, h1, h2⟩]
theorem usedN_neg {xs : List Mv} {ws : List Wk} {week : Int} {q : Pl} {n : Nat} (h : ¬ ((plOf (nth xs n) (if q.1 = true then 1 else 0)).2 = q.2 ∧ (nth ws n).start ≤ week ∧ week < (nth ws n).fin)) : usedN xs ws week q n = usedN xs ws week q (n + 1) := by rw [usedN, if_neg h, Int.add_zero]

theorem used_false (xs : List Mv) (ws : List Wk) (v v2 : Value) (n : Nat) (week id : Int) (w : World) (h : MovesAt w v xs) (h2 : WorksAt w v2 ws) (hn : n ≤ xs.length) (hn2 : n ≤ ws.length) (hl : n ≤ 1000000) : Calls Try.prog 25 #[v, v2, .int .i64 (n : Int), .int .i64 week, .int .i64 id, .bool false] w fun e w' => e = .returned (.int .i64 (usedN xs ws week (false, id) n)) ∧ Below w.heap.size w w' := by
  obtain ⟨A, cap, rfl, hsl⟩ := h.op
  obtain ⟨A2, cap2, rfl, hsl2⟩ := h2.op
  refine calls_T (M := fun _ => False) (hs := []) Try.func25 rfl rfl rfl (Hp.refl _ _) ?_
  refine T.seq ?_
  refine T.region ?_
  refine TL.yv (Wt.none rfl) rfl rfl (Yv.pur rfl) ?_
  refine TL.nil ?_
  refine K.seq ?_
  refine T.seq ?_
  refine T.region ?_
  refine TL.yv (Wt.none rfl) rfl rfl (Yv.pur rfl) ?_
  refine TL.nil ?_
  refine K.seq ?_
  refine T.seq ?_
  refine T.seq ?_
  refine T.region ?_
  refine TL.yv (Wt.none rfl) rfl rfl (Yv.pur rfl) ?_
  refine TL.nil ?_
  refine K.seq ?_
  refine T.block ?_
  refine T.loop (ι := Nat) (fun k => [(0, .slice A xs.length cap), (1, .slice A2 ws.length cap2), (2, .int .i64 (n : Int)), (3, .int .i64 week), (4, .int .i64 id), (5, .bool false), (13, .int .i64 (usedN xs ws week (false, id) k)), (14, .int .i64 (k : Int))]) (fun k => []) (fun k => k ≤ n) (fun k => n - k) 0 ?_ ?_ ?_ ?_
  · omega
  · exact (by repeat (first | exact Sub.nil | refine Sub.cons rfl ?_))
  · exact (by repeat (first | exact List.Sublist.refl _ | exact List.nil_sublist _ | refine List.Sublist.cons_cons _ ?_ | refine List.Sublist.cons _ ?_))
  · intro k hphi
    have hu := usedN_le xs ws week (false, id) k
    refine T.seq ?_
    refine T.seq ?_
    refine T.region ?_
    refine TL.yv (Wt.none rfl) rfl rfl (Yv.pur rfl) ?_
    refine TL.yv (Wt.none rfl) rfl rfl (Yv.pur rfl) ?_
    refine TL.yv (Wt.none rfl) rfl rfl (Yv.pur rfl) ?_
    refine TL.nil ?_
    refine K.seq ?_
    refine T.cond rfl (fun h1 => ?_) (fun h1 => ?_)
    · have p1 := h1
      try simp only [decide_eq_true_eq, decide_eq_false_iff_not, Int.not_lt, Int.not_le, Bool.not_eq_true', Bool.not_eq_false', Decidable.not_not, Bool.and_eq_true, Bool.or_eq_true, Bool.and_eq_false_iff, Bool.or_eq_false_iff] at p1
      obtain ⟨g, off, rfl, hc⟩ := hsl (by omega)
      obtain ⟨g2, off2, rfl, hc2⟩ := hsl2 (by omega)
      have hk := hc k (by omega)
      have hk2 := hc2 k (by omega)
      simp only [Mv.cells] at hk
      simp only [Wk.cells] at hk2
      refine T.skip ?_
      refine K.seq ?_
      refine T.seq ?_
      refine T.block ?_
      refine T.seq ?_
      refine T.region ?_
      refine TL.yv (Wt.none rfl) rfl rfl (Yv.pur rfl) ?_
      refine TL.yv (Wt.none rfl) rfl rfl (Yv.pur rfl) ?_
      first | refine TL.yv (Wt.none rfl) rfl rfl (Yv.indexSl rfl rfl rfl rfl (by omega)) ?_ | refine TL.yv (Wt.none rfl) rfl rfl (Yv.indexAr rfl rfl rfl rfl (by omega)) ?_
      refine TL.yv (Wt.none rfl) rfl rfl (Yv.fieldAddr rfl rfl) ?_
      first | refine TL.yv (Wt.none rfl) rfl rfl (Yv.loadC rfl rfl hk rfl rfl (fun h => h)) ?_ | refine TL.yv (Wt.none rfl) rfl rfl (Yv.loadC rfl rfl hk2 rfl rfl (fun h => h)) ?_ | refine TL.yv (Wt.none rfl) rfl rfl (Yv.loadO 0 rfl rfl rfl rfl) ?_ | refine TL.yv (Wt.none rfl) rfl rfl (Yv.loadO 1 rfl rfl rfl rfl) ?_ | refine TL.yv (Wt.none rfl) rfl rfl (Yv.loadO 2 rfl rfl rfl rfl) ?_ | refine TL.yv (Wt.none rfl) rfl rfl (Yv.loadB rfl rfl (by assumption) (fun h => h)) ?_ | refine TL.yv (Wt.none rfl) rfl rfl (Yv.loadS 0 rfl rfl rfl (by first | rfl | assumption)) ?_ | refine TL.yv (Wt.none rfl) rfl rfl (Yv.loadS 1 rfl rfl rfl (by first | rfl | assumption)) ?_ | refine TL.yv (Wt.none rfl) rfl rfl (Yv.loadS 2 rfl rfl rfl (by first | rfl | assumption)) ?_
      refine TL.yv (Wt.none rfl) rfl rfl (Yv.pur rfl) ?_
      refine TL.nil ?_
      refine K.seq ?_
      refine T.seq ?_
      refine T.seq ?_
      refine T.region ?_
      refine TL.yv (Wt.none rfl) rfl rfl (Yv.pur rfl) ?_
      refine TL.nil ?_
      refine K.seq ?_
      refine T.condF rfl rfl ?_
      refine T.skip ?_
      refine K.seq ?_
      refine T.seq ?_
      refine T.region ?_
      refine TL.yv (Wt.none rfl) rfl rfl (Yv.pur rfl) ?_
      refine TL.yv (Wt.none rfl) rfl rfl (Yv.pur rfl) ?_
      first | refine TL.yv (Wt.none rfl) rfl rfl (Yv.pur rfl) ?_ | refine TL.yv (Wt.none rfl) rfl rfl (Yv.eqB rfl rfl rfl rfl) ?_
      refine TL.yv (Wt.none rfl) rfl rfl (Yv.pur rfl) ?_
      refine TL.gsplit rfl rfl rfl (fun h2 => ?_) (fun h2 => ?_)
      · have p2 := h2
        try simp only [decide_eq_true_eq, decide_eq_false_iff_not, Int.not_lt, Int.not_le, Bool.not_eq_true', Bool.not_eq_false', Decidable.not_not, Bool.and_eq_true, Bool.or_eq_true, Bool.and_eq_false_iff, Bool.or_eq_false_iff] at p2
        refine TL.yv (Wt.some rfl rfl rfl h2) rfl rfl (Yv.pur rfl) ?_
        refine TL.yv (Wt.some rfl rfl rfl h2) rfl rfl (Yv.pur rfl) ?_
        first | refine TL.yv (Wt.some rfl rfl rfl h2) rfl rfl (Yv.indexSl rfl rfl rfl rfl (by omega)) ?_ | refine TL.yv (Wt.some rfl rfl rfl h2) rfl rfl (Yv.indexAr rfl rfl rfl rfl (by omega)) ?_
        refine TL.yv (Wt.some rfl rfl rfl h2) rfl rfl (Yv.fieldAddr rfl rfl) ?_
        first | refine TL.yv (Wt.some rfl rfl rfl h2) rfl rfl (Yv.loadC rfl rfl hk rfl rfl (fun h => h)) ?_ | refine TL.yv (Wt.some rfl rfl rfl h2) rfl rfl (Yv.loadC rfl rfl hk2 rfl rfl (fun h => h)) ?_ | refine TL.yv (Wt.some rfl rfl rfl h2) rfl rfl (Yv.loadO 0 rfl rfl rfl rfl) ?_ | refine TL.yv (Wt.some rfl rfl rfl h2) rfl rfl (Yv.loadO 1 rfl rfl rfl rfl) ?_ | refine TL.yv (Wt.some rfl rfl rfl h2) rfl rfl (Yv.loadO 2 rfl rfl rfl rfl) ?_ | refine TL.yv (Wt.some rfl rfl rfl h2) rfl rfl (Yv.loadB rfl rfl (by assumption) (fun h => h)) ?_ | refine TL.yv (Wt.some rfl rfl rfl h2) rfl rfl (Yv.loadS 0 rfl rfl rfl (by first | rfl | assumption)) ?_ | refine TL.yv (Wt.some rfl rfl rfl h2) rfl rfl (Yv.loadS 1 rfl rfl rfl (by first | rfl | assumption)) ?_ | refine TL.yv (Wt.some rfl rfl rfl h2) rfl rfl (Yv.loadS 2 rfl rfl rfl (by first | rfl | assumption)) ?_
        refine TL.yv (Wt.some rfl rfl rfl h2) rfl rfl (Yv.pur rfl) ?_
        refine TL.yv (Wt.some rfl rfl rfl h2) rfl rfl (Yv.pur rfl) ?_
        refine TL.yv (Wt.none rfl) rfl rfl (Yv.pickT rfl rfl h2 rfl) ?_
        refine TL.yv (Wt.none rfl) rfl rfl (Yv.pur rfl) ?_
        refine TL.gsplit rfl rfl rfl (fun h3 => ?_) (fun h3 => ?_)
        · have p3 := h3
          try simp only [decide_eq_true_eq, decide_eq_false_iff_not, Int.not_lt, Int.not_le, Bool.not_eq_true', Bool.not_eq_false', Decidable.not_not, Bool.and_eq_true, Bool.or_eq_true, Bool.and_eq_false_iff, Bool.or_eq_false_iff] at p3
          refine TL.yv (Wt.some rfl rfl rfl h3) rfl rfl (Yv.pur rfl) ?_
          refine TL.yv (Wt.some rfl rfl rfl h3) rfl rfl (Yv.pur rfl) ?_
          refine TL.yv (Wt.some rfl rfl rfl h3) rfl rfl (Yv.pur rfl) ?_
          first | refine TL.yv (Wt.some rfl rfl rfl h3) rfl rfl (Yv.indexSl rfl rfl rfl rfl (by omega)) ?_ | refine TL.yv (Wt.some rfl rfl rfl h3) rfl rfl (Yv.indexAr rfl rfl rfl rfl (by omega)) ?_
          refine TL.yv (Wt.some rfl rfl rfl h3) rfl rfl (Yv.fieldAddr rfl rfl) ?_
          first | refine TL.yv (Wt.some rfl rfl rfl h3) rfl rfl (Yv.loadC rfl rfl hk rfl rfl (fun h => h)) ?_ | refine TL.yv (Wt.some rfl rfl rfl h3) rfl rfl (Yv.loadC rfl rfl hk2 rfl rfl (fun h => h)) ?_ | refine TL.yv (Wt.some rfl rfl rfl h3) rfl rfl (Yv.loadO 0 rfl rfl rfl rfl) ?_ | refine TL.yv (Wt.some rfl rfl rfl h3) rfl rfl (Yv.loadO 1 rfl rfl rfl rfl) ?_ | refine TL.yv (Wt.some rfl rfl rfl h3) rfl rfl (Yv.loadO 2 rfl rfl rfl rfl) ?_ | refine TL.yv (Wt.some rfl rfl rfl h3) rfl rfl (Yv.loadB rfl rfl (by assumption) (fun h => h)) ?_ | refine TL.yv (Wt.some rfl rfl rfl h3) rfl rfl (Yv.loadS 0 rfl rfl rfl (by first | rfl | assumption)) ?_ | refine TL.yv (Wt.some rfl rfl rfl h3) rfl rfl (Yv.loadS 1 rfl rfl rfl (by first | rfl | assumption)) ?_ | refine TL.yv (Wt.some rfl rfl rfl h3) rfl rfl (Yv.loadS 2 rfl rfl rfl (by first | rfl | assumption)) ?_
          refine TL.yv (Wt.some rfl rfl rfl h3) rfl rfl (Yv.pur rfl) ?_
          refine TL.yv (Wt.none rfl) rfl rfl (Yv.pickT rfl rfl h3 rfl) ?_
          refine TL.nil ?_
          refine K.seq ?_
          refine T.cond rfl (fun h4 => ?_) (fun h4 => ?_)
          · have p4 := h4
            try simp only [decide_eq_true_eq, decide_eq_false_iff_not, Int.not_lt, Int.not_le, Bool.not_eq_true', Bool.not_eq_false', Decidable.not_not, Bool.and_eq_true, Bool.or_eq_true, Bool.and_eq_false_iff, Bool.or_eq_false_iff] at p4
            refine T.region ?_
            refine TL.yv (Wt.none rfl) rfl rfl (Yv.pur rfl) ?_
            first | refine TL.yv (Wt.none rfl) rfl rfl (Yv.addI rfl rfl rfl (by omega)) ?_ | refine TL.yv (Wt.none rfl) rfl rfl (Yv.pur rfl) ?_
            refine TL.yv (Wt.none rfl) rfl rfl (Yv.pur rfl) ?_
            refine TL.nil ?_
            refine K.blk_normal ?_
            refine K.seq ?_
            refine T.region ?_
            refine TL.yv (Wt.none rfl) rfl rfl (Yv.pur rfl) ?_
            first | refine TL.yv (Wt.none rfl) rfl rfl (Yv.addI rfl rfl rfl (by omega)) ?_ | refine TL.yv (Wt.none rfl) rfl rfl (Yv.pur rfl) ?_
            refine TL.yv (Wt.none rfl) rfl rfl (Yv.pur rfl) ?_
            refine TL.nil ?_
            exact K.next (k + 1) (by omega) (by omega) (by repeat (first | exact Sub.nil | refine Sub.cons rfl ?_ | (refine Sub.consI rfl ?_ ?_; first | exact usedN_pos (by simpa [plOf] using ‹_ = id›) (by assumption) (by assumption) | exact usedN_neg (by simp only [plOf]; simp; omega)))) (by repeat (first | exact List.Sublist.refl _ | exact List.nil_sublist _ | refine List.Sublist.cons_cons _ ?_ | refine List.Sublist.cons _ ?_))
          · have p4 := h4
            try simp only [decide_eq_true_eq, decide_eq_false_iff_not, Int.not_lt, Int.not_le, Bool.not_eq_true', Bool.not_eq_false', Decidable.not_not, Bool.and_eq_true, Bool.or_eq_true, Bool.and_eq_false_iff, Bool.or_eq_false_iff] at p4
            refine T.skip ?_
            refine K.blk_normal ?_
            refine K.seq ?_
            refine T.region ?_
            refine TL.yv (Wt.none rfl) rfl rfl (Yv.pur rfl) ?_
            first | refine TL.yv (Wt.none rfl) rfl rfl (Yv.addI rfl rfl rfl (by omega)) ?_ | refine TL.yv (Wt.none rfl) rfl rfl (Yv.pur rfl) ?_
            refine TL.yv (Wt.none rfl) rfl rfl (Yv.pur rfl) ?_
            refine TL.nil ?_
            exact K.next (k + 1) (by omega) (by omega) (by repeat (first | exact Sub.nil | refine Sub.cons rfl ?_ | (refine Sub.consI rfl ?_ ?_; first | exact usedN_pos (by simpa [plOf] using ‹_ = id›) (by assumption) (by assumption) | exact usedN_neg (by simp only [plOf]; simp; omega)))) (by repeat (first | exact List.Sublist.refl _ | exact List.nil_sublist _ | refine List.Sublist.cons_cons _ ?_ | refine List.Sublist.cons _ ?_))
        · have p3 := h3
          try simp only [decide_eq_true_eq, decide_eq_false_iff_not, Int.not_lt, Int.not_le, Bool.not_eq_true', Bool.not_eq_false', Decidable.not_not, Bool.and_eq_true, Bool.or_eq_true, Bool.and_eq_false_iff, Bool.or_eq_false_iff] at p3
          refine TL.off (Wt.not rfl rfl rfl h3) rfl rfl ?_
          refine TL.off (Wt.not rfl rfl rfl h3) rfl rfl ?_
          refine TL.off (Wt.not rfl rfl rfl h3) rfl rfl ?_
          refine TL.off (Wt.not rfl rfl rfl h3) rfl rfl ?_
          refine TL.off (Wt.not rfl rfl rfl h3) rfl rfl ?_
          refine TL.off (Wt.not rfl rfl rfl h3) rfl rfl ?_
          refine TL.off (Wt.not rfl rfl rfl h3) rfl rfl ?_
          refine TL.yv (Wt.none rfl) rfl rfl (Yv.pickF rfl rfl h3 rfl) ?_
          refine TL.nil ?_
          refine K.seq ?_
          refine T.condF rfl rfl ?_
          refine T.skip ?_
          refine K.blk_normal ?_
          refine K.seq ?_
          refine T.region ?_
          refine TL.yv (Wt.none rfl) rfl rfl (Yv.pur rfl) ?_
          first | refine TL.yv (Wt.none rfl) rfl rfl (Yv.addI rfl rfl rfl (by omega)) ?_ | refine TL.yv (Wt.none rfl) rfl rfl (Yv.pur rfl) ?_
          refine TL.yv (Wt.none rfl) rfl rfl (Yv.pur rfl) ?_
          refine TL.nil ?_
          exact K.next (k + 1) (by omega) (by omega) (by repeat (first | exact Sub.nil | refine Sub.cons rfl ?_ | (refine Sub.consI rfl ?_ ?_; first | exact usedN_pos (by simpa [plOf] using ‹_ = id›) (by assumption) (by assumption) | exact usedN_neg (by simp only [plOf]; simp; omega)))) (by repeat (first | exact List.Sublist.refl _ | exact List.nil_sublist _ | refine List.Sublist.cons_cons _ ?_ | refine List.Sublist.cons _ ?_))
      · have p2 := h2
        try simp only [decide_eq_true_eq, decide_eq_false_iff_not, Int.not_lt, Int.not_le, Bool.not_eq_true', Bool.not_eq_false', Decidable.not_not, Bool.and_eq_true, Bool.or_eq_true, Bool.and_eq_false_iff, Bool.or_eq_false_iff] at p2
        refine TL.off (Wt.not rfl rfl rfl h2) rfl rfl ?_
        refine TL.off (Wt.not rfl rfl rfl h2) rfl rfl ?_
        refine TL.off (Wt.not rfl rfl rfl h2) rfl rfl ?_
        refine TL.off (Wt.not rfl rfl rfl h2) rfl rfl ?_
        refine TL.off (Wt.not rfl rfl rfl h2) rfl rfl ?_
        refine TL.off (Wt.not rfl rfl rfl h2) rfl rfl ?_
        refine TL.off (Wt.not rfl rfl rfl h2) rfl rfl ?_
        refine TL.yv (Wt.none rfl) rfl rfl (Yv.pickF rfl rfl h2 rfl) ?_
        refine TL.yv (Wt.none rfl) rfl rfl (Yv.pur rfl) ?_
        refine TL.off (Wt.not rfl rfl rfl rfl) rfl rfl ?_
        refine TL.off (Wt.not rfl rfl rfl rfl) rfl rfl ?_
        refine TL.off (Wt.not rfl rfl rfl rfl) rfl rfl ?_
        refine TL.off (Wt.not rfl rfl rfl rfl) rfl rfl ?_
        refine TL.off (Wt.not rfl rfl rfl rfl) rfl rfl ?_
        refine TL.off (Wt.not rfl rfl rfl rfl) rfl rfl ?_
        refine TL.off (Wt.not rfl rfl rfl rfl) rfl rfl ?_
        refine TL.yv (Wt.none rfl) rfl rfl (Yv.pickF rfl rfl rfl rfl) ?_
        refine TL.nil ?_
        refine K.seq ?_
        refine T.condF rfl rfl ?_
        refine T.skip ?_
        refine K.blk_normal ?_
        refine K.seq ?_
        refine T.region ?_
        refine TL.yv (Wt.none rfl) rfl rfl (Yv.pur rfl) ?_
        first | refine TL.yv (Wt.none rfl) rfl rfl (Yv.addI rfl rfl rfl (by omega)) ?_ | refine TL.yv (Wt.none rfl) rfl rfl (Yv.pur rfl) ?_
        refine TL.yv (Wt.none rfl) rfl rfl (Yv.pur rfl) ?_
        refine TL.nil ?_
        exact K.next (k + 1) (by omega) (by omega) (by repeat (first | exact Sub.nil | refine Sub.cons rfl ?_ | (refine Sub.consI rfl ?_ ?_; first | exact usedN_pos (by simpa [plOf] using ‹_ = id›) (by assumption) (by assumption) | exact usedN_neg (by simp only [plOf]; simp; omega)))) (by repeat (first | exact List.Sublist.refl _ | exact List.nil_sublist _ | refine List.Sublist.cons_cons _ ?_ | refine List.Sublist.cons _ ?_))
    · have p1 := h1
      try simp only [decide_eq_true_eq, decide_eq_false_iff_not, Int.not_lt, Int.not_le, Bool.not_eq_true', Bool.not_eq_false', Decidable.not_not, Bool.and_eq_true, Bool.or_eq_true, Bool.and_eq_false_iff, Bool.or_eq_false_iff] at p1
      refine T.exit ?_
      refine K.then_exit ?_
      refine K.then_exit ?_
      refine K.blk_exit_eq ?_
      refine K.seq ?_
      refine T.seq ?_
      refine T.region ?_
      refine TL.yv (Wt.none rfl) rfl rfl (Yv.pur rfl) ?_
      refine TL.yv (Wt.none rfl) rfl rfl (Yv.pur rfl) ?_
      refine TL.nil ?_
      refine K.seq ?_
      refine T.ret ?_
      exact K.ret1 rfl rfl (fun w' hw => ⟨by rw [show k = n from by omega], hw.isBelow⟩)
theorem used_true (xs : List Mv) (ws : List Wk) (v v2 : Value) (n : Nat) (week id : Int) (w : World) (h : MovesAt w v xs) (h2 : WorksAt w v2 ws) (hn : n ≤ xs.length) (hn2 : n ≤ ws.length) (hl : n ≤ 1000000) : Calls Try.prog 25 #[v, v2, .int .i64 (n : Int), .int .i64 week, .int .i64 id, .bool true] w fun e w' => e = .returned (.int .i64 (usedN xs ws week (true, id) n)) ∧ Below w.heap.size w w' := by
  obtain ⟨A, cap, rfl, hsl⟩ := h.op
  obtain ⟨A2, cap2, rfl, hsl2⟩ := h2.op
  refine calls_T (M := fun _ => False) (hs := []) Try.func25 rfl rfl rfl (Hp.refl _ _) ?_
  refine T.seq ?_
  refine T.region ?_
  refine TL.yv (Wt.none rfl) rfl rfl (Yv.pur rfl) ?_
  refine TL.nil ?_
  refine K.seq ?_
  refine T.seq ?_
  refine T.region ?_
  refine TL.yv (Wt.none rfl) rfl rfl (Yv.pur rfl) ?_
  refine TL.nil ?_
  refine K.seq ?_
  refine T.seq ?_
  refine T.seq ?_
  refine T.region ?_
  refine TL.yv (Wt.none rfl) rfl rfl (Yv.pur rfl) ?_
  refine TL.nil ?_
  refine K.seq ?_
  refine T.block ?_
  refine T.loop (ι := Nat) (fun k => [(0, .slice A xs.length cap), (1, .slice A2 ws.length cap2), (2, .int .i64 (n : Int)), (3, .int .i64 week), (4, .int .i64 id), (5, .bool true), (13, .int .i64 (usedN xs ws week (true, id) k)), (14, .int .i64 (k : Int))]) (fun k => []) (fun k => k ≤ n) (fun k => n - k) 0 ?_ ?_ ?_ ?_
  · omega
  · exact (by repeat (first | exact Sub.nil | refine Sub.cons rfl ?_))
  · exact (by repeat (first | exact List.Sublist.refl _ | exact List.nil_sublist _ | refine List.Sublist.cons_cons _ ?_ | refine List.Sublist.cons _ ?_))
  · intro k hphi
    have hu := usedN_le xs ws week (true, id) k
    refine T.seq ?_
    refine T.seq ?_
    refine T.region ?_
    refine TL.yv (Wt.none rfl) rfl rfl (Yv.pur rfl) ?_
    refine TL.yv (Wt.none rfl) rfl rfl (Yv.pur rfl) ?_
    refine TL.yv (Wt.none rfl) rfl rfl (Yv.pur rfl) ?_
    refine TL.nil ?_
    refine K.seq ?_
    refine T.cond rfl (fun h1 => ?_) (fun h1 => ?_)
    · have p1 := h1
      try simp only [decide_eq_true_eq, decide_eq_false_iff_not, Int.not_lt, Int.not_le, Bool.not_eq_true', Bool.not_eq_false', Decidable.not_not, Bool.and_eq_true, Bool.or_eq_true, Bool.and_eq_false_iff, Bool.or_eq_false_iff] at p1
      obtain ⟨g, off, rfl, hc⟩ := hsl (by omega)
      obtain ⟨g2, off2, rfl, hc2⟩ := hsl2 (by omega)
      have hk := hc k (by omega)
      have hk2 := hc2 k (by omega)
      simp only [Mv.cells] at hk
      simp only [Wk.cells] at hk2
      refine T.skip ?_
      refine K.seq ?_
      refine T.seq ?_
      refine T.block ?_
      refine T.seq ?_
      refine T.region ?_
      refine TL.yv (Wt.none rfl) rfl rfl (Yv.pur rfl) ?_
      refine TL.yv (Wt.none rfl) rfl rfl (Yv.pur rfl) ?_
      first | refine TL.yv (Wt.none rfl) rfl rfl (Yv.indexSl rfl rfl rfl rfl (by omega)) ?_ | refine TL.yv (Wt.none rfl) rfl rfl (Yv.indexAr rfl rfl rfl rfl (by omega)) ?_
      refine TL.yv (Wt.none rfl) rfl rfl (Yv.fieldAddr rfl rfl) ?_
      first | refine TL.yv (Wt.none rfl) rfl rfl (Yv.loadC rfl rfl hk rfl rfl (fun h => h)) ?_ | refine TL.yv (Wt.none rfl) rfl rfl (Yv.loadC rfl rfl hk2 rfl rfl (fun h => h)) ?_ | refine TL.yv (Wt.none rfl) rfl rfl (Yv.loadO 0 rfl rfl rfl rfl) ?_ | refine TL.yv (Wt.none rfl) rfl rfl (Yv.loadO 1 rfl rfl rfl rfl) ?_ | refine TL.yv (Wt.none rfl) rfl rfl (Yv.loadO 2 rfl rfl rfl rfl) ?_ | refine TL.yv (Wt.none rfl) rfl rfl (Yv.loadB rfl rfl (by assumption) (fun h => h)) ?_ | refine TL.yv (Wt.none rfl) rfl rfl (Yv.loadS 0 rfl rfl rfl (by first | rfl | assumption)) ?_ | refine TL.yv (Wt.none rfl) rfl rfl (Yv.loadS 1 rfl rfl rfl (by first | rfl | assumption)) ?_ | refine TL.yv (Wt.none rfl) rfl rfl (Yv.loadS 2 rfl rfl rfl (by first | rfl | assumption)) ?_
      refine TL.yv (Wt.none rfl) rfl rfl (Yv.pur rfl) ?_
      refine TL.nil ?_
      refine K.seq ?_
      refine T.seq ?_
      refine T.seq ?_
      refine T.region ?_
      refine TL.yv (Wt.none rfl) rfl rfl (Yv.pur rfl) ?_
      refine TL.nil ?_
      refine K.seq ?_
      refine T.condT rfl rfl ?_
      refine T.region ?_
      refine TL.yv (Wt.none rfl) rfl rfl (Yv.pur rfl) ?_
      refine TL.yv (Wt.none rfl) rfl rfl (Yv.pur rfl) ?_
      first | refine TL.yv (Wt.none rfl) rfl rfl (Yv.indexSl rfl rfl rfl rfl (by omega)) ?_ | refine TL.yv (Wt.none rfl) rfl rfl (Yv.indexAr rfl rfl rfl rfl (by omega)) ?_
      refine TL.yv (Wt.none rfl) rfl rfl (Yv.fieldAddr rfl rfl) ?_
      first | refine TL.yv (Wt.none rfl) rfl rfl (Yv.loadC rfl rfl hk rfl rfl (fun h => h)) ?_ | refine TL.yv (Wt.none rfl) rfl rfl (Yv.loadC rfl rfl hk2 rfl rfl (fun h => h)) ?_ | refine TL.yv (Wt.none rfl) rfl rfl (Yv.loadO 0 rfl rfl rfl rfl) ?_ | refine TL.yv (Wt.none rfl) rfl rfl (Yv.loadO 1 rfl rfl rfl rfl) ?_ | refine TL.yv (Wt.none rfl) rfl rfl (Yv.loadO 2 rfl rfl rfl rfl) ?_ | refine TL.yv (Wt.none rfl) rfl rfl (Yv.loadB rfl rfl (by assumption) (fun h => h)) ?_ | refine TL.yv (Wt.none rfl) rfl rfl (Yv.loadS 0 rfl rfl rfl (by first | rfl | assumption)) ?_ | refine TL.yv (Wt.none rfl) rfl rfl (Yv.loadS 1 rfl rfl rfl (by first | rfl | assumption)) ?_ | refine TL.yv (Wt.none rfl) rfl rfl (Yv.loadS 2 rfl rfl rfl (by first | rfl | assumption)) ?_
      refine TL.yv (Wt.none rfl) rfl rfl (Yv.pur rfl) ?_
      refine TL.nil ?_
      refine K.seq ?_
      refine T.seq ?_
      refine T.region ?_
      refine TL.yv (Wt.none rfl) rfl rfl (Yv.pur rfl) ?_
      refine TL.yv (Wt.none rfl) rfl rfl (Yv.pur rfl) ?_
      first | refine TL.yv (Wt.none rfl) rfl rfl (Yv.pur rfl) ?_ | refine TL.yv (Wt.none rfl) rfl rfl (Yv.eqB rfl rfl rfl rfl) ?_
      refine TL.yv (Wt.none rfl) rfl rfl (Yv.pur rfl) ?_
      refine TL.gsplit rfl rfl rfl (fun h2 => ?_) (fun h2 => ?_)
      · have p2 := h2
        try simp only [decide_eq_true_eq, decide_eq_false_iff_not, Int.not_lt, Int.not_le, Bool.not_eq_true', Bool.not_eq_false', Decidable.not_not, Bool.and_eq_true, Bool.or_eq_true, Bool.and_eq_false_iff, Bool.or_eq_false_iff] at p2
        refine TL.yv (Wt.some rfl rfl rfl h2) rfl rfl (Yv.pur rfl) ?_
        refine TL.yv (Wt.some rfl rfl rfl h2) rfl rfl (Yv.pur rfl) ?_
        first | refine TL.yv (Wt.some rfl rfl rfl h2) rfl rfl (Yv.indexSl rfl rfl rfl rfl (by omega)) ?_ | refine TL.yv (Wt.some rfl rfl rfl h2) rfl rfl (Yv.indexAr rfl rfl rfl rfl (by omega)) ?_
        refine TL.yv (Wt.some rfl rfl rfl h2) rfl rfl (Yv.fieldAddr rfl rfl) ?_
        first | refine TL.yv (Wt.some rfl rfl rfl h2) rfl rfl (Yv.loadC rfl rfl hk rfl rfl (fun h => h)) ?_ | refine TL.yv (Wt.some rfl rfl rfl h2) rfl rfl (Yv.loadC rfl rfl hk2 rfl rfl (fun h => h)) ?_ | refine TL.yv (Wt.some rfl rfl rfl h2) rfl rfl (Yv.loadO 0 rfl rfl rfl rfl) ?_ | refine TL.yv (Wt.some rfl rfl rfl h2) rfl rfl (Yv.loadO 1 rfl rfl rfl rfl) ?_ | refine TL.yv (Wt.some rfl rfl rfl h2) rfl rfl (Yv.loadO 2 rfl rfl rfl rfl) ?_ | refine TL.yv (Wt.some rfl rfl rfl h2) rfl rfl (Yv.loadB rfl rfl (by assumption) (fun h => h)) ?_ | refine TL.yv (Wt.some rfl rfl rfl h2) rfl rfl (Yv.loadS 0 rfl rfl rfl (by first | rfl | assumption)) ?_ | refine TL.yv (Wt.some rfl rfl rfl h2) rfl rfl (Yv.loadS 1 rfl rfl rfl (by first | rfl | assumption)) ?_ | refine TL.yv (Wt.some rfl rfl rfl h2) rfl rfl (Yv.loadS 2 rfl rfl rfl (by first | rfl | assumption)) ?_
        refine TL.yv (Wt.some rfl rfl rfl h2) rfl rfl (Yv.pur rfl) ?_
        refine TL.yv (Wt.some rfl rfl rfl h2) rfl rfl (Yv.pur rfl) ?_
        refine TL.yv (Wt.none rfl) rfl rfl (Yv.pickT rfl rfl h2 rfl) ?_
        refine TL.yv (Wt.none rfl) rfl rfl (Yv.pur rfl) ?_
        refine TL.gsplit rfl rfl rfl (fun h3 => ?_) (fun h3 => ?_)
        · have p3 := h3
          try simp only [decide_eq_true_eq, decide_eq_false_iff_not, Int.not_lt, Int.not_le, Bool.not_eq_true', Bool.not_eq_false', Decidable.not_not, Bool.and_eq_true, Bool.or_eq_true, Bool.and_eq_false_iff, Bool.or_eq_false_iff] at p3
          refine TL.yv (Wt.some rfl rfl rfl h3) rfl rfl (Yv.pur rfl) ?_
          refine TL.yv (Wt.some rfl rfl rfl h3) rfl rfl (Yv.pur rfl) ?_
          refine TL.yv (Wt.some rfl rfl rfl h3) rfl rfl (Yv.pur rfl) ?_
          first | refine TL.yv (Wt.some rfl rfl rfl h3) rfl rfl (Yv.indexSl rfl rfl rfl rfl (by omega)) ?_ | refine TL.yv (Wt.some rfl rfl rfl h3) rfl rfl (Yv.indexAr rfl rfl rfl rfl (by omega)) ?_
          refine TL.yv (Wt.some rfl rfl rfl h3) rfl rfl (Yv.fieldAddr rfl rfl) ?_
          first | refine TL.yv (Wt.some rfl rfl rfl h3) rfl rfl (Yv.loadC rfl rfl hk rfl rfl (fun h => h)) ?_ | refine TL.yv (Wt.some rfl rfl rfl h3) rfl rfl (Yv.loadC rfl rfl hk2 rfl rfl (fun h => h)) ?_ | refine TL.yv (Wt.some rfl rfl rfl h3) rfl rfl (Yv.loadO 0 rfl rfl rfl rfl) ?_ | refine TL.yv (Wt.some rfl rfl rfl h3) rfl rfl (Yv.loadO 1 rfl rfl rfl rfl) ?_ | refine TL.yv (Wt.some rfl rfl rfl h3) rfl rfl (Yv.loadO 2 rfl rfl rfl rfl) ?_ | refine TL.yv (Wt.some rfl rfl rfl h3) rfl rfl (Yv.loadB rfl rfl (by assumption) (fun h => h)) ?_ | refine TL.yv (Wt.some rfl rfl rfl h3) rfl rfl (Yv.loadS 0 rfl rfl rfl (by first | rfl | assumption)) ?_ | refine TL.yv (Wt.some rfl rfl rfl h3) rfl rfl (Yv.loadS 1 rfl rfl rfl (by first | rfl | assumption)) ?_ | refine TL.yv (Wt.some rfl rfl rfl h3) rfl rfl (Yv.loadS 2 rfl rfl rfl (by first | rfl | assumption)) ?_
          refine TL.yv (Wt.some rfl rfl rfl h3) rfl rfl (Yv.pur rfl) ?_
          refine TL.yv (Wt.none rfl) rfl rfl (Yv.pickT rfl rfl h3 rfl) ?_
          refine TL.nil ?_
          refine K.seq ?_
          refine T.cond rfl (fun h4 => ?_) (fun h4 => ?_)
          · have p4 := h4
            try simp only [decide_eq_true_eq, decide_eq_false_iff_not, Int.not_lt, Int.not_le, Bool.not_eq_true', Bool.not_eq_false', Decidable.not_not, Bool.and_eq_true, Bool.or_eq_true, Bool.and_eq_false_iff, Bool.or_eq_false_iff] at p4
            refine T.region ?_
            refine TL.yv (Wt.none rfl) rfl rfl (Yv.pur rfl) ?_
            first | refine TL.yv (Wt.none rfl) rfl rfl (Yv.addI rfl rfl rfl (by omega)) ?_ | refine TL.yv (Wt.none rfl) rfl rfl (Yv.pur rfl) ?_
            refine TL.yv (Wt.none rfl) rfl rfl (Yv.pur rfl) ?_
            refine TL.nil ?_
            refine K.blk_normal ?_
            refine K.seq ?_
            refine T.region ?_
            refine TL.yv (Wt.none rfl) rfl rfl (Yv.pur rfl) ?_
            first | refine TL.yv (Wt.none rfl) rfl rfl (Yv.addI rfl rfl rfl (by omega)) ?_ | refine TL.yv (Wt.none rfl) rfl rfl (Yv.pur rfl) ?_
            refine TL.yv (Wt.none rfl) rfl rfl (Yv.pur rfl) ?_
            refine TL.nil ?_
            exact K.next (k + 1) (by omega) (by omega) (by repeat (first | exact Sub.nil | refine Sub.cons rfl ?_ | (refine Sub.consI rfl ?_ ?_; first | exact usedN_pos (by simpa [plOf] using ‹_ = id›) (by assumption) (by assumption) | exact usedN_neg (by simp only [plOf]; simp; omega)))) (by repeat (first | exact List.Sublist.refl _ | exact List.nil_sublist _ | refine List.Sublist.cons_cons _ ?_ | refine List.Sublist.cons _ ?_))
          · have p4 := h4
            try simp only [decide_eq_true_eq, decide_eq_false_iff_not, Int.not_lt, Int.not_le, Bool.not_eq_true', Bool.not_eq_false', Decidable.not_not, Bool.and_eq_true, Bool.or_eq_true, Bool.and_eq_false_iff, Bool.or_eq_false_iff] at p4
            refine T.skip ?_
            refine K.blk_normal ?_
            refine K.seq ?_
            refine T.region ?_
            refine TL.yv (Wt.none rfl) rfl rfl (Yv.pur rfl) ?_
            first | refine TL.yv (Wt.none rfl) rfl rfl (Yv.addI rfl rfl rfl (by omega)) ?_ | refine TL.yv (Wt.none rfl) rfl rfl (Yv.pur rfl) ?_
            refine TL.yv (Wt.none rfl) rfl rfl (Yv.pur rfl) ?_
            refine TL.nil ?_
            exact K.next (k + 1) (by omega) (by omega) (by repeat (first | exact Sub.nil | refine Sub.cons rfl ?_ | (refine Sub.consI rfl ?_ ?_; first | exact usedN_pos (by simpa [plOf] using ‹_ = id›) (by assumption) (by assumption) | exact usedN_neg (by simp only [plOf]; simp; omega)))) (by repeat (first | exact List.Sublist.refl _ | exact List.nil_sublist _ | refine List.Sublist.cons_cons _ ?_ | refine List.Sublist.cons _ ?_))
        · have p3 := h3
          try simp only [decide_eq_true_eq, decide_eq_false_iff_not, Int.not_lt, Int.not_le, Bool.not_eq_true', Bool.not_eq_false', Decidable.not_not, Bool.and_eq_true, Bool.or_eq_true, Bool.and_eq_false_iff, Bool.or_eq_false_iff] at p3
          refine TL.off (Wt.not rfl rfl rfl h3) rfl rfl ?_
          refine TL.off (Wt.not rfl rfl rfl h3) rfl rfl ?_
          refine TL.off (Wt.not rfl rfl rfl h3) rfl rfl ?_
          refine TL.off (Wt.not rfl rfl rfl h3) rfl rfl ?_
          refine TL.off (Wt.not rfl rfl rfl h3) rfl rfl ?_
          refine TL.off (Wt.not rfl rfl rfl h3) rfl rfl ?_
          refine TL.off (Wt.not rfl rfl rfl h3) rfl rfl ?_
          refine TL.yv (Wt.none rfl) rfl rfl (Yv.pickF rfl rfl h3 rfl) ?_
          refine TL.nil ?_
          refine K.seq ?_
          refine T.condF rfl rfl ?_
          refine T.skip ?_
          refine K.blk_normal ?_
          refine K.seq ?_
          refine T.region ?_
          refine TL.yv (Wt.none rfl) rfl rfl (Yv.pur rfl) ?_
          first | refine TL.yv (Wt.none rfl) rfl rfl (Yv.addI rfl rfl rfl (by omega)) ?_ | refine TL.yv (Wt.none rfl) rfl rfl (Yv.pur rfl) ?_
          refine TL.yv (Wt.none rfl) rfl rfl (Yv.pur rfl) ?_
          refine TL.nil ?_
          exact K.next (k + 1) (by omega) (by omega) (by repeat (first | exact Sub.nil | refine Sub.cons rfl ?_ | (refine Sub.consI rfl ?_ ?_; first | exact usedN_pos (by simpa [plOf] using ‹_ = id›) (by assumption) (by assumption) | exact usedN_neg (by simp only [plOf]; simp; omega)))) (by repeat (first | exact List.Sublist.refl _ | exact List.nil_sublist _ | refine List.Sublist.cons_cons _ ?_ | refine List.Sublist.cons _ ?_))
      · have p2 := h2
        try simp only [decide_eq_true_eq, decide_eq_false_iff_not, Int.not_lt, Int.not_le, Bool.not_eq_true', Bool.not_eq_false', Decidable.not_not, Bool.and_eq_true, Bool.or_eq_true, Bool.and_eq_false_iff, Bool.or_eq_false_iff] at p2
        refine TL.off (Wt.not rfl rfl rfl h2) rfl rfl ?_
        refine TL.off (Wt.not rfl rfl rfl h2) rfl rfl ?_
        refine TL.off (Wt.not rfl rfl rfl h2) rfl rfl ?_
        refine TL.off (Wt.not rfl rfl rfl h2) rfl rfl ?_
        refine TL.off (Wt.not rfl rfl rfl h2) rfl rfl ?_
        refine TL.off (Wt.not rfl rfl rfl h2) rfl rfl ?_
        refine TL.off (Wt.not rfl rfl rfl h2) rfl rfl ?_
        refine TL.yv (Wt.none rfl) rfl rfl (Yv.pickF rfl rfl h2 rfl) ?_
        refine TL.yv (Wt.none rfl) rfl rfl (Yv.pur rfl) ?_
        refine TL.off (Wt.not rfl rfl rfl rfl) rfl rfl ?_
        refine TL.off (Wt.not rfl rfl rfl rfl) rfl rfl ?_
        refine TL.off (Wt.not rfl rfl rfl rfl) rfl rfl ?_
        refine TL.off (Wt.not rfl rfl rfl rfl) rfl rfl ?_
        refine TL.off (Wt.not rfl rfl rfl rfl) rfl rfl ?_
        refine TL.off (Wt.not rfl rfl rfl rfl) rfl rfl ?_
        refine TL.off (Wt.not rfl rfl rfl rfl) rfl rfl ?_
        refine TL.yv (Wt.none rfl) rfl rfl (Yv.pickF rfl rfl rfl rfl) ?_
        refine TL.nil ?_
        refine K.seq ?_
        refine T.condF rfl rfl ?_
        refine T.skip ?_
        refine K.blk_normal ?_
        refine K.seq ?_
        refine T.region ?_
        refine TL.yv (Wt.none rfl) rfl rfl (Yv.pur rfl) ?_
        first | refine TL.yv (Wt.none rfl) rfl rfl (Yv.addI rfl rfl rfl (by omega)) ?_ | refine TL.yv (Wt.none rfl) rfl rfl (Yv.pur rfl) ?_
        refine TL.yv (Wt.none rfl) rfl rfl (Yv.pur rfl) ?_
        refine TL.nil ?_
        exact K.next (k + 1) (by omega) (by omega) (by repeat (first | exact Sub.nil | refine Sub.cons rfl ?_ | (refine Sub.consI rfl ?_ ?_; first | exact usedN_pos (by simpa [plOf] using ‹_ = id›) (by assumption) (by assumption) | exact usedN_neg (by simp only [plOf]; simp; omega)))) (by repeat (first | exact List.Sublist.refl _ | exact List.nil_sublist _ | refine List.Sublist.cons_cons _ ?_ | refine List.Sublist.cons _ ?_))
    · have p1 := h1
      try simp only [decide_eq_true_eq, decide_eq_false_iff_not, Int.not_lt, Int.not_le, Bool.not_eq_true', Bool.not_eq_false', Decidable.not_not, Bool.and_eq_true, Bool.or_eq_true, Bool.and_eq_false_iff, Bool.or_eq_false_iff] at p1
      refine T.exit ?_
      refine K.then_exit ?_
      refine K.then_exit ?_
      refine K.blk_exit_eq ?_
      refine K.seq ?_
      refine T.seq ?_
      refine T.region ?_
      refine TL.yv (Wt.none rfl) rfl rfl (Yv.pur rfl) ?_
      refine TL.yv (Wt.none rfl) rfl rfl (Yv.pur rfl) ?_
      refine TL.nil ?_
      refine K.seq ?_
      refine T.ret ?_
      exact K.ret1 rfl rfl (fun w' hw => ⟨by rw [show k = n from by omega], hw.isBelow⟩)
end Go.Proofs.Ytphpmjnpjnmdmaa
