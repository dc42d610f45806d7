/- Comparisons; lists of choices. -/
import Derived.Test.YtljgejbmimapdaaDoorM5
set_option maxRecDepth 100000
set_option maxHeartbeats 4000000
set_option linter.unusedSimpArgs false
set_option linter.unusedVariables false
set_option linter.unusedSectionVars false
namespace Go.Proofs.YtljgejbmimapdaaDoor
open Go.RowKit

theorem eq3 (i j : Int) (n : Nat) (w : World) : (Op.equalIn (n + 1) 3 (.int .i64 i) (.int .i64 j)).run Tryd.prog w = .ok (i == j) w := by
  unfold Op.equalIn
  simp [underlying, Tryd.underlying3]
theorem stoodC : Tryd.prog.stoodInHeld 40 = false := by kernel_rfl
theorem eqgC : Tryd.prog.eqGuardType Tryd.prog.depth 40 = false := by kernel_rfl
theorem ptc0 (a b : Int) (w : World) : (part 3 #[.int .i64 a, .int .i64 b] 0).run Tryd.prog w = .ok (.int .i64 a) w := by kernel_rfl
theorem ptc1 (a b : Int) (w : World) : (part 3 #[.int .i64 a, .int .i64 b] 1).run Tryd.prog w = .ok (.int .i64 b) w := by kernel_rfl
theorem equal_ch (x y : Ch) (w : World) : (Op.equal 40 (.agg x.cells.toArray) (.agg y.cells.toArray)).run Tryd.prog w = .ok (decide (x = y)) w := by
  obtain ⟨a, b⟩ := x
  obtain ⟨a', b'⟩ := y
  have e3 : ∀ (i j : Int) w, (Op.equalIn 9999 3 (.int .i64 i) (.int .i64 j)).run Tryd.prog w = .ok (i == j) w := fun i j => eq3 i j 9998
  unfold Op.equal Ch.cells
  rw [show Op.maxDepth = 9998 + 1 + 1 from rfl]
  unfold Op.equalIn
  simp [underlying, Tryd.underlying40, stoodC, ptc0, ptc1, e3]
  by_cases h1 : a = a' <;> by_cases h2 : b = b' <;> simp [h1, h2]
section
variable {n : Nat} {B : World} {M : Nat → Prop} {fs : SFs} {hs : HS} {o : Oper}
theorem Yv.neCh {x y : Operand} {u : TypeId} {a b : Ch} (ho : o.op = .binOp .neq 40 x y u) (hx : ev fs x = some (.agg a.cells.toArray)) (hy : ev fs y = some (.agg b.cells.toArray)) : Yv Tryd.prog n B M fs hs o (.bool (!decide (a = b))) := fun f w ha _ => by
  have he := equal_ch a b w
  unfold execOp
  have hg : (eqGuard .neq 40 x y (.agg a.cells.toArray) (.agg b.cells.toArray)).run Tryd.prog w = .ok () w := by
    simp [eqGuard, eqgC]
  simp only [ho, ha.ev hx, ha.ev hy, Sem.run_bind, hg, Result.andThen_ok]
  simp only [binOp, Sem.run_bind, he, Result.andThen_ok, Sem.run_pure]
end
theorem same_end {α : Type} [Inhabited α] [DecidableEq α] {xs ys : List α} {k : Nat} (hl : (xs.length : Int) = (ys.length : Int)) (h : ∀ j, j < k → nth xs j = nth ys j) (hk : xs.length ≤ k) : decide (xs = ys) = true := by
  apply decide_eq_true
  apply List.ext_getElem (by omega)
  intro j h1 h2
  have := h j (by omega)
  rwa [nth_eq h1, nth_eq h2] at this
theorem same_not {α : Type} [Inhabited α] [DecidableEq α] {xs ys : List α} {k : Nat} (h : ¬ nth xs k = nth ys k) : decide (xs = ys) = false := decide_eq_false fun e => h (by rw [e])
theorem same_len {α : Type} [DecidableEq α] {xs ys : List α} (h : ¬ (xs.length : Int) = (ys.length : Int)) : decide (xs = ys) = false := decide_eq_false fun e => h (by rw [e])

theorem sameInts_ret (xs ys : List Int) (v v2 : Value) (w : World) (h : SlOf w v Ie 1 xs) (h2 : SlOf w v2 Ie 1 ys) (hl : xs.length ≤ 9223372036854775807) : Calls Tryd.prog 41 #[v, v2] w fun e w' => e = .returned (.bool (decide (xs = ys))) ∧ Below w.heap.size w w' := by
  obtain ⟨A, cap, rfl, hsl⟩ := h.op
  obtain ⟨A2, cap2, rfl, hsl2⟩ := h2.op
  refine calls_T (M := fun _ => False) (hs := []) Tryd.func41 rfl rfl rfl (Hp.refl _ _) ?_
  refine T.seq ?_
  refine T.region ?_
  refine TL.yv (Wt.none rfl) rfl rfl (Yv.pur rfl) ?_
  refine TL.nil ?_
  refine K.seq ?_
  refine T.seq ?_
  refine T.seq ?_
  refine T.region ?_
  refine TL.yv (Wt.none rfl) rfl rfl (Yv.pur rfl) ?_
  refine TL.yv (Wt.none rfl) rfl rfl (Yv.lenSl rfl rfl) ?_
  refine TL.yv (Wt.none rfl) rfl rfl (Yv.pur rfl) ?_
  refine TL.yv (Wt.none rfl) rfl rfl (Yv.lenSl rfl rfl) ?_
  refine TL.yv (Wt.none rfl) rfl rfl (Yv.pur rfl) ?_
  refine TL.nil ?_
  refine K.seq ?_
  refine T.cond rfl (fun h1 => ?_) (fun h1 => ?_)
  · have p1 := h1
    try simp only [decide_eq_true_eq, decide_eq_false_iff_not, Int.not_lt, Int.not_le, Bool.not_eq_true', Bool.not_eq_false', Decidable.not_not, Bool.and_eq_true, Bool.or_eq_true, Bool.and_eq_false_iff, Bool.or_eq_false_iff] at p1
    refine T.seq ?_
    refine T.region ?_
    refine TL.yv (Wt.none rfl) rfl rfl (Yv.pur rfl) ?_
    refine TL.nil ?_
    refine K.seq ?_
    refine T.ret ?_
    refine K.then_ret ?_
    exact K.ret1 rfl rfl (fun w' hw => ⟨by rw [same_len (by assumption)], hw.isBelow⟩)
  · have p1 := h1
    try simp only [decide_eq_true_eq, decide_eq_false_iff_not, Int.not_lt, Int.not_le, Bool.not_eq_true', Bool.not_eq_false', Decidable.not_not, Bool.and_eq_true, Bool.or_eq_true, Bool.and_eq_false_iff, Bool.or_eq_false_iff] at p1
    refine T.skip ?_
    refine K.seq ?_
    refine T.seq ?_
    refine T.seq ?_
    refine T.region ?_
    refine TL.yv (Wt.none rfl) rfl rfl (Yv.pur rfl) ?_
    refine TL.nil ?_
    refine K.seq ?_
    refine T.block ?_
    refine T.loop (ι := Nat) (fun k => [(0, .slice A xs.length cap), (1, .slice A2 ys.length cap2), (5, .int .i64 (k : Int))]) (fun k => []) (fun k => k ≤ xs.length ∧ ∀ j, j < k → nth xs j = nth ys j) (fun k => xs.length - k) 0 ?_ ?_ ?_ ?_
    · exact ⟨by omega, fun j hj => by omega⟩
    · exact (by repeat (first | exact Sub.nil | refine Sub.cons rfl ?_))
    · exact (by repeat (first | exact List.Sublist.refl _ | exact List.nil_sublist _ | refine List.Sublist.cons_cons _ ?_ | refine List.Sublist.cons _ ?_))
    · intro k hphi
      obtain ⟨hkl, hall⟩ := hphi
      refine T.seq ?_
      refine T.seq ?_
      refine T.region ?_
      refine TL.yv (Wt.none rfl) rfl rfl (Yv.pur rfl) ?_
      refine TL.yv (Wt.none rfl) rfl rfl (Yv.pur rfl) ?_
      refine TL.yv (Wt.none rfl) rfl rfl (Yv.lenSl rfl rfl) ?_
      refine TL.yv (Wt.none rfl) rfl rfl (Yv.pur rfl) ?_
      refine TL.nil ?_
      refine K.seq ?_
      refine T.cond rfl (fun h2 => ?_) (fun h2 => ?_)
      · have p2 := h2
        try simp only [decide_eq_true_eq, decide_eq_false_iff_not, Int.not_lt, Int.not_le, Bool.not_eq_true', Bool.not_eq_false', Decidable.not_not, Bool.and_eq_true, Bool.or_eq_true, Bool.and_eq_false_iff, Bool.or_eq_false_iff] at p2
        obtain ⟨g, off, rfl, hc⟩ := hsl (by omega)
        obtain ⟨g2, off2, rfl, hc2⟩ := hsl2 (by omega)
        have hk := hc k (by omega)
        have hk2 := hc2 k (by omega)
        simp only [Ie] at hk hk2
        refine T.skip ?_
        refine K.seq ?_
        refine T.seq ?_
        refine T.block ?_
        refine T.seq ?_
        refine T.draw (.still 0 (.still 1 (.still 2 (.still 3 (.still 4 (.still 5 (.still 6 (.still 7 (.still 8 .done))))))))) _ (by kernel_rfl) (List.Sublist.refl _) ?_
        refine TS.still rfl (Wt.none rfl) rfl rfl (Yv.pur rfl) ?_
        refine TS.still rfl (Wt.none rfl) rfl rfl (Yv.pur rfl) ?_
        refine TS.still rfl (Wt.none rfl) rfl rfl (Yv.indexSl rfl rfl rfl rfl (by omega)) ?_
        refine TS.still rfl (Wt.none rfl) rfl rfl (Yv.loadC (j := 0) rfl rfl hk rfl rfl (fun h => h)) ?_
        refine TS.still rfl (Wt.none rfl) rfl rfl (Yv.pur rfl) ?_
        refine TS.still rfl (Wt.none rfl) rfl rfl (Yv.pur rfl) ?_
        refine TS.still rfl (Wt.none rfl) rfl rfl (Yv.indexSl rfl rfl rfl rfl (by omega)) ?_
        refine TS.still rfl (Wt.none rfl) rfl rfl (Yv.loadC (j := 0) rfl rfl hk2 rfl rfl (fun h => h)) ?_
        refine TS.still rfl (Wt.none rfl) rfl rfl (Yv.pur rfl) ?_
        refine TS.done ?_
        refine K.seq ?_
        refine T.cond rfl (fun h3 => ?_) (fun h3 => ?_)
        · have p3 := h3
          try simp only [decide_eq_true_eq, decide_eq_false_iff_not, Int.not_lt, Int.not_le, Bool.not_eq_true', Bool.not_eq_false', Decidable.not_not, Bool.and_eq_true, Bool.or_eq_true, Bool.and_eq_false_iff, Bool.or_eq_false_iff] at p3
          refine T.seq ?_
          refine T.region ?_
          refine TL.yv (Wt.none rfl) rfl rfl (Yv.pur rfl) ?_
          refine TL.nil ?_
          refine K.seq ?_
          refine T.ret ?_
          refine K.blk_ret ?_
          refine K.then_ret ?_
          refine K.then_ret ?_
          refine K.blk_ret ?_
          refine K.then_ret ?_
          exact K.ret1 rfl rfl (fun w' hw => ⟨by rw [same_not (k := k) (by simpa using h3)], hw.isBelow⟩)
        · have p3 := h3
          try simp only [decide_eq_true_eq, decide_eq_false_iff_not, Int.not_lt, Int.not_le, Bool.not_eq_true', Bool.not_eq_false', Decidable.not_not, Bool.and_eq_true, Bool.or_eq_true, Bool.and_eq_false_iff, Bool.or_eq_false_iff] at p3
          refine T.skip ?_
          refine K.blk_normal ?_
          refine K.seq ?_
          refine T.region ?_
          refine TL.yv (Wt.none rfl) rfl rfl (Yv.pur rfl) ?_
          refine TL.yv (Wt.none rfl) rfl rfl (Yv.addI rfl rfl rfl (by omega)) ?_
          refine TL.yv (Wt.none rfl) rfl rfl (Yv.pur rfl) ?_
          refine TL.nil ?_
          exact K.next (k + 1) ⟨by omega, upto_succ hall (by simpa using h3)⟩ (by omega) (by repeat (first | exact Sub.nil | refine Sub.cons rfl ?_)) (by repeat (first | exact List.Sublist.refl _ | exact List.nil_sublist _ | refine List.Sublist.cons_cons _ ?_ | refine List.Sublist.cons _ ?_))
      · have p2 := h2
        try simp only [decide_eq_true_eq, decide_eq_false_iff_not, Int.not_lt, Int.not_le, Bool.not_eq_true', Bool.not_eq_false', Decidable.not_not, Bool.and_eq_true, Bool.or_eq_true, Bool.and_eq_false_iff, Bool.or_eq_false_iff] at p2
        refine T.exit ?_
        refine K.then_exit ?_
        refine K.then_exit ?_
        refine K.blk_exit_eq ?_
        refine K.seq ?_
        refine T.seq ?_
        refine T.region ?_
        refine TL.yv (Wt.none rfl) rfl rfl (Yv.pur rfl) ?_
        refine TL.nil ?_
        refine K.seq ?_
        refine T.ret ?_
        exact K.ret1 rfl rfl (fun w' hw => ⟨by rw [same_end (by omega) hall (by omega)], hw.isBelow⟩)
theorem sameList_ret (xs ys : List Ch) (v v2 : Value) (w : World) (h : SlOf w v Ch.cells 2 xs) (h2 : SlOf w v2 Ch.cells 2 ys) (hl : xs.length ≤ 9223372036854775807) : Calls Tryd.prog 33 #[v, v2] w fun e w' => e = .returned (.bool (decide (xs = ys))) ∧ Below w.heap.size w w' := by
  obtain ⟨A, cap, rfl, hsl⟩ := h.op
  obtain ⟨A2, cap2, rfl, hsl2⟩ := h2.op
  refine calls_T (M := fun _ => False) (hs := []) Tryd.func33 rfl rfl rfl (Hp.refl _ _) ?_
  refine T.seq ?_
  refine T.region ?_
  refine TL.yv (Wt.none rfl) rfl rfl (Yv.pur rfl) ?_
  refine TL.nil ?_
  refine K.seq ?_
  refine T.seq ?_
  refine T.seq ?_
  refine T.region ?_
  refine TL.yv (Wt.none rfl) rfl rfl (Yv.pur rfl) ?_
  refine TL.yv (Wt.none rfl) rfl rfl (Yv.lenSl rfl rfl) ?_
  refine TL.yv (Wt.none rfl) rfl rfl (Yv.pur rfl) ?_
  refine TL.yv (Wt.none rfl) rfl rfl (Yv.lenSl rfl rfl) ?_
  refine TL.yv (Wt.none rfl) rfl rfl (Yv.pur rfl) ?_
  refine TL.nil ?_
  refine K.seq ?_
  refine T.cond rfl (fun h1 => ?_) (fun h1 => ?_)
  · have p1 := h1
    try simp only [decide_eq_true_eq, decide_eq_false_iff_not, Int.not_lt, Int.not_le, Bool.not_eq_true', Bool.not_eq_false', Decidable.not_not, Bool.and_eq_true, Bool.or_eq_true, Bool.and_eq_false_iff, Bool.or_eq_false_iff] at p1
    refine T.seq ?_
    refine T.region ?_
    refine TL.yv (Wt.none rfl) rfl rfl (Yv.pur rfl) ?_
    refine TL.nil ?_
    refine K.seq ?_
    refine T.ret ?_
    refine K.then_ret ?_
    exact K.ret1 rfl rfl (fun w' hw => ⟨by rw [same_len (by assumption)], hw.isBelow⟩)
  · have p1 := h1
    try simp only [decide_eq_true_eq, decide_eq_false_iff_not, Int.not_lt, Int.not_le, Bool.not_eq_true', Bool.not_eq_false', Decidable.not_not, Bool.and_eq_true, Bool.or_eq_true, Bool.and_eq_false_iff, Bool.or_eq_false_iff] at p1
    refine T.skip ?_
    refine K.seq ?_
    refine T.seq ?_
    refine T.seq ?_
    refine T.region ?_
    refine TL.yv (Wt.none rfl) rfl rfl (Yv.pur rfl) ?_
    refine TL.nil ?_
    refine K.seq ?_
    refine T.block ?_
    refine T.loop (ι := Nat) (fun k => [(0, .slice A xs.length cap), (1, .slice A2 ys.length cap2), (5, .int .i64 (k : Int))]) (fun k => []) (fun k => k ≤ xs.length ∧ ∀ j, j < k → nth xs j = nth ys j) (fun k => xs.length - k) 0 ?_ ?_ ?_ ?_
    · exact ⟨by omega, fun j hj => by omega⟩
    · exact (by repeat (first | exact Sub.nil | refine Sub.cons rfl ?_))
    · exact (by repeat (first | exact List.Sublist.refl _ | exact List.nil_sublist _ | refine List.Sublist.cons_cons _ ?_ | refine List.Sublist.cons _ ?_))
    · intro k hphi
      obtain ⟨hkl, hall⟩ := hphi
      refine T.seq ?_
      refine T.seq ?_
      refine T.region ?_
      refine TL.yv (Wt.none rfl) rfl rfl (Yv.pur rfl) ?_
      refine TL.yv (Wt.none rfl) rfl rfl (Yv.pur rfl) ?_
      refine TL.yv (Wt.none rfl) rfl rfl (Yv.lenSl rfl rfl) ?_
      refine TL.yv (Wt.none rfl) rfl rfl (Yv.pur rfl) ?_
      refine TL.nil ?_
      refine K.seq ?_
      refine T.cond rfl (fun h2 => ?_) (fun h2 => ?_)
      · have p2 := h2
        try simp only [decide_eq_true_eq, decide_eq_false_iff_not, Int.not_lt, Int.not_le, Bool.not_eq_true', Bool.not_eq_false', Decidable.not_not, Bool.and_eq_true, Bool.or_eq_true, Bool.and_eq_false_iff, Bool.or_eq_false_iff] at p2
        obtain ⟨g, off, rfl, hc⟩ := hsl (by omega)
        obtain ⟨g2, off2, rfl, hc2⟩ := hsl2 (by omega)
        have hk := hc k (by omega)
        have hk2 := hc2 k (by omega)
        refine T.skip ?_
        refine K.seq ?_
        refine T.seq ?_
        refine T.block ?_
        refine T.seq ?_
        refine T.draw (.still 0 (.still 1 (.still 2 (.still 3 (.still 4 (.still 5 (.still 6 (.still 7 (.still 8 .done))))))))) _ (by kernel_rfl) (List.Sublist.refl _) ?_
        refine TS.still rfl (Wt.none rfl) rfl rfl (Yv.pur rfl) ?_
        refine TS.still rfl (Wt.none rfl) rfl rfl (Yv.pur rfl) ?_
        refine TS.still rfl (Wt.none rfl) rfl rfl (Yv.indexSl rfl rfl rfl rfl (by omega)) ?_
        refine TS.still rfl (Wt.none rfl) rfl rfl (Yv.loadAB rfl rfl hk rfl (fun h => h)) ?_
        refine TS.still rfl (Wt.none rfl) rfl rfl (Yv.pur rfl) ?_
        refine TS.still rfl (Wt.none rfl) rfl rfl (Yv.pur rfl) ?_
        refine TS.still rfl (Wt.none rfl) rfl rfl (Yv.indexSl rfl rfl rfl rfl (by omega)) ?_
        refine TS.still rfl (Wt.none rfl) rfl rfl (Yv.loadAB rfl rfl hk2 rfl (fun h => h)) ?_
        refine TS.still rfl (Wt.none rfl) rfl rfl (Yv.neCh rfl rfl rfl) ?_
        refine TS.done ?_
        refine K.seq ?_
        refine T.cond rfl (fun h3 => ?_) (fun h3 => ?_)
        · have p3 := h3
          try simp only [decide_eq_true_eq, decide_eq_false_iff_not, Int.not_lt, Int.not_le, Bool.not_eq_true', Bool.not_eq_false', Decidable.not_not, Bool.and_eq_true, Bool.or_eq_true, Bool.and_eq_false_iff, Bool.or_eq_false_iff] at p3
          refine T.seq ?_
          refine T.region ?_
          refine TL.yv (Wt.none rfl) rfl rfl (Yv.pur rfl) ?_
          refine TL.nil ?_
          refine K.seq ?_
          refine T.ret ?_
          refine K.blk_ret ?_
          refine K.then_ret ?_
          refine K.then_ret ?_
          refine K.blk_ret ?_
          refine K.then_ret ?_
          exact K.ret1 rfl rfl (fun w' hw => ⟨by rw [same_not (k := k) (by simpa using h3)], hw.isBelow⟩)
        · have p3 := h3
          try simp only [decide_eq_true_eq, decide_eq_false_iff_not, Int.not_lt, Int.not_le, Bool.not_eq_true', Bool.not_eq_false', Decidable.not_not, Bool.and_eq_true, Bool.or_eq_true, Bool.and_eq_false_iff, Bool.or_eq_false_iff] at p3
          refine T.skip ?_
          refine K.blk_normal ?_
          refine K.seq ?_
          refine T.region ?_
          refine TL.yv (Wt.none rfl) rfl rfl (Yv.pur rfl) ?_
          refine TL.yv (Wt.none rfl) rfl rfl (Yv.addI rfl rfl rfl (by omega)) ?_
          refine TL.yv (Wt.none rfl) rfl rfl (Yv.pur rfl) ?_
          refine TL.nil ?_
          exact K.next (k + 1) ⟨by omega, upto_succ hall (by simpa using h3)⟩ (by omega) (by repeat (first | exact Sub.nil | refine Sub.cons rfl ?_)) (by repeat (first | exact List.Sublist.refl _ | exact List.nil_sublist _ | refine List.Sublist.cons_cons _ ?_ | refine List.Sublist.cons _ ?_))
      · have p2 := h2
        try simp only [decide_eq_true_eq, decide_eq_false_iff_not, Int.not_lt, Int.not_le, Bool.not_eq_true', Bool.not_eq_false', Decidable.not_not, Bool.and_eq_true, Bool.or_eq_true, Bool.and_eq_false_iff, Bool.or_eq_false_iff] at p2
        refine T.exit ?_
        refine K.then_exit ?_
        refine K.then_exit ?_
        refine K.blk_exit_eq ?_
        refine K.seq ?_
        refine T.seq ?_
        refine T.region ?_
        refine TL.yv (Wt.none rfl) rfl rfl (Yv.pur rfl) ?_
        refine TL.nil ?_
        refine K.seq ?_
        refine T.ret ?_
        exact K.ret1 rfl rfl (fun w' hw => ⟨by rw [same_end (by omega) hall (by omega)], hw.isBelow⟩)

instance : Inhabited (Int × List Int) := ⟨(0, [])⟩
theorem nth_map {α β : Type} [Inhabited α] [Inhabited β] {f : α → β} {xs : List α} {k : Nat} (h : k < xs.length) : nth (xs.map f) k = f (nth xs k) := by simp [nth, h]

theorem sameDomains_ret (xs ys : List Dx) (v v2 : Value) (w : World) (h : DomsAt w v xs) (h2 : DomsAt w v2 ys) (hl : xs.length ≤ 9223372036854775807) (hlc : ∀ d ∈ xs, d.chs.length ≤ 9223372036854775807) : Calls Tryd.prog 16 #[v, v2] w fun e w' => e = .returned (.bool (decide (xs.map Dx.pl = ys.map Dx.pl))) ∧ Below w.heap.size w w' := by
  obtain ⟨A, cap, rfl, hsl⟩ := h.sl.op
  obtain ⟨A2, cap2, rfl, hsl2⟩ := h2.sl.op
  refine calls_T (M := fun _ => False) (hs := []) Tryd.func16 rfl rfl rfl (Hp.refl _ _) ?_
  refine T.seq ?_
  refine T.region ?_
  refine TL.yv (Wt.none rfl) rfl rfl (Yv.pur rfl) ?_
  refine TL.nil ?_
  refine K.seq ?_
  refine T.seq ?_
  refine T.seq ?_
  refine T.region ?_
  refine TL.yv (Wt.none rfl) rfl rfl (Yv.pur rfl) ?_
  refine TL.yv (Wt.none rfl) rfl rfl (Yv.lenSl rfl rfl) ?_
  refine TL.yv (Wt.none rfl) rfl rfl (Yv.pur rfl) ?_
  refine TL.yv (Wt.none rfl) rfl rfl (Yv.lenSl rfl rfl) ?_
  refine TL.yv (Wt.none rfl) rfl rfl (Yv.pur rfl) ?_
  refine TL.nil ?_
  refine K.seq ?_
  refine T.cond rfl (fun h1 => ?_) (fun h1 => ?_)
  · have p1 := h1
    try simp only [decide_eq_true_eq, decide_eq_false_iff_not, Int.not_lt, Int.not_le, Bool.not_eq_true', Bool.not_eq_false', Decidable.not_not, Bool.and_eq_true, Bool.or_eq_true, Bool.and_eq_false_iff, Bool.or_eq_false_iff] at p1
    refine T.seq ?_
    refine T.region ?_
    refine TL.yv (Wt.none rfl) rfl rfl (Yv.pur rfl) ?_
    refine TL.nil ?_
    refine K.seq ?_
    refine T.ret ?_
    refine K.then_ret ?_
    exact K.ret1 rfl rfl (fun w' hw => ⟨by rw [same_len (by rw [List.length_map, List.length_map]; assumption)], hw.isBelow⟩)
  · have p1 := h1
    try simp only [decide_eq_true_eq, decide_eq_false_iff_not, Int.not_lt, Int.not_le, Bool.not_eq_true', Bool.not_eq_false', Decidable.not_not, Bool.and_eq_true, Bool.or_eq_true, Bool.and_eq_false_iff, Bool.or_eq_false_iff] at p1
    refine T.skip ?_
    refine K.seq ?_
    refine T.seq ?_
    refine T.seq ?_
    refine T.region ?_
    refine TL.yv (Wt.none rfl) rfl rfl (Yv.pur rfl) ?_
    refine TL.nil ?_
    refine K.seq ?_
    refine T.block ?_
    refine T.loop (ι := Nat) (fun k => [(0, .slice A xs.length cap), (1, .slice A2 ys.length cap2), (5, .int .i64 (k : Int))]) (fun k => []) (fun k => k ≤ xs.length ∧ ∀ j, j < k → nth (xs.map Dx.pl) j = nth (ys.map Dx.pl) j) (fun k => xs.length - k) 0 ?_ ?_ ?_ ?_
    · exact ⟨by omega, fun j hj => by omega⟩
    · exact (by repeat (first | exact Sub.nil | refine Sub.cons rfl ?_))
    · exact (by repeat (first | exact List.Sublist.refl _ | exact List.nil_sublist _ | refine List.Sublist.cons_cons _ ?_ | refine List.Sublist.cons _ ?_))
    · intro k hphi
      obtain ⟨hkl, hall⟩ := hphi
      refine T.seq ?_
      refine T.seq ?_
      refine T.region ?_
      refine TL.yv (Wt.none rfl) rfl rfl (Yv.pur rfl) ?_
      refine TL.yv (Wt.none rfl) rfl rfl (Yv.pur rfl) ?_
      refine TL.yv (Wt.none rfl) rfl rfl (Yv.lenSl rfl rfl) ?_
      refine TL.yv (Wt.none rfl) rfl rfl (Yv.pur rfl) ?_
      refine TL.nil ?_
      refine K.seq ?_
      refine T.cond rfl (fun h2 => ?_) (fun h2 => ?_)
      · have p2 := h2
        try simp only [decide_eq_true_eq, decide_eq_false_iff_not, Int.not_lt, Int.not_le, Bool.not_eq_true', Bool.not_eq_false', Decidable.not_not, Bool.and_eq_true, Bool.or_eq_true, Bool.and_eq_false_iff, Bool.or_eq_false_iff] at p2
        obtain ⟨g, off, rfl, hc⟩ := hsl (by omega)
        obtain ⟨g2, off2, rfl, hc2⟩ := hsl2 (by omega)
        have hk := hc k (by omega)
        have hk2 := hc2 k (by omega)
        simp only [Dx.cells] at hk hk2
        refine T.skip ?_
        refine K.seq ?_
        refine T.seq ?_
        refine T.block ?_
        refine T.seq ?_
        refine T.draw (.still 0 (.still 1 (.still 2 (.still 3 (.still 4 (.still 5 (.still 6 (.still 7 (.still 8 (.still 9 (.still 10 (.still 11 (.still 12 (.still 13 (.still 14 (.still 15 (.still 16 (.still 17 (.still 18 (.still 19 (.still 20 (.still 21 (.eff 22 (.still 23 (.still 24 .done))))))))))))))))))))))))) _ (by kernel_rfl) (List.Sublist.refl _) ?_
        refine TS.still rfl (Wt.none rfl) rfl rfl (Yv.pur rfl) ?_
        refine TS.still rfl (Wt.none rfl) rfl rfl (Yv.pur rfl) ?_
        refine TS.still rfl (Wt.none rfl) rfl rfl (Yv.indexSl rfl rfl rfl rfl (by omega)) ?_
        refine TS.still rfl (Wt.none rfl) rfl rfl (Yv.fieldAddr rfl rfl) ?_
        refine TS.still rfl (Wt.none rfl) rfl rfl (Yv.loadC (j := 0) rfl rfl hk rfl rfl (fun h => h)) ?_
        refine TS.still rfl (Wt.none rfl) rfl rfl (Yv.pur rfl) ?_
        refine TS.still rfl (Wt.none rfl) rfl rfl (Yv.pur rfl) ?_
        refine TS.still rfl (Wt.none rfl) rfl rfl (Yv.indexSl rfl rfl rfl rfl (by omega)) ?_
        refine TS.still rfl (Wt.none rfl) rfl rfl (Yv.fieldAddr rfl rfl) ?_
        refine TS.still rfl (Wt.none rfl) rfl rfl (Yv.loadC (j := 0) rfl rfl hk2 rfl rfl (fun h => h)) ?_
        refine TS.still rfl (Wt.none rfl) rfl rfl (Yv.pur rfl) ?_
        refine TS.still rfl (Wt.none rfl) rfl rfl (Yv.pur rfl) ?_
        refine TS.gsplit rfl rfl rfl rfl (fun h3 => ?_) (fun h3 => ?_)
        · have p3 := h3
          try simp only [decide_eq_true_eq, decide_eq_false_iff_not, Int.not_lt, Int.not_le, Bool.not_eq_true', Bool.not_eq_false', Decidable.not_not, Bool.and_eq_true, Bool.or_eq_true, Bool.and_eq_false_iff, Bool.or_eq_false_iff] at p3
          refine TS.stillOff rfl (Wt.not rfl rfl rfl h3) rfl rfl ?_
          refine TS.stillOff rfl (Wt.not rfl rfl rfl h3) rfl rfl ?_
          refine TS.stillOff rfl (Wt.not rfl rfl rfl h3) rfl rfl ?_
          refine TS.stillOff rfl (Wt.not rfl rfl rfl h3) rfl rfl ?_
          refine TS.stillOff rfl (Wt.not rfl rfl rfl h3) rfl rfl ?_
          refine TS.stillOff rfl (Wt.not rfl rfl rfl h3) rfl rfl ?_
          refine TS.stillOff rfl (Wt.not rfl rfl rfl h3) rfl rfl ?_
          refine TS.stillOff rfl (Wt.not rfl rfl rfl h3) rfl rfl ?_
          refine TS.stillOff rfl (Wt.not rfl rfl rfl h3) rfl rfl ?_
          refine TS.stillOff rfl (Wt.not rfl rfl rfl h3) rfl rfl ?_
          refine TS.eff ?_
          refine TSo.off rfl (Wt.not rfl rfl rfl h3) rfl rfl ?_
          refine TS.stillOff rfl (Wt.not rfl rfl rfl h3) rfl rfl ?_
          refine TS.still rfl (Wt.none rfl) rfl rfl (Yv.pickT rfl rfl h3 rfl) ?_
          refine TS.done ?_
          refine K.seq ?_
          refine T.condT rfl rfl ?_
          refine T.seq ?_
          refine T.region ?_
          refine TL.yv (Wt.none rfl) rfl rfl (Yv.pur rfl) ?_
          refine TL.nil ?_
          refine K.seq ?_
          refine T.ret ?_
          refine K.blk_ret ?_
          refine K.then_ret ?_
          refine K.then_ret ?_
          refine K.blk_ret ?_
          refine K.then_ret ?_
          exact K.ret1 rfl rfl (fun w' hw => ⟨by rw [same_not (k := k) (by rw [nth_map (by omega), nth_map (by omega)]; unfold Dx.pl; simp_all)], hw.isBelow⟩)
        · have p3 := h3
          try simp only [decide_eq_true_eq, decide_eq_false_iff_not, Int.not_lt, Int.not_le, Bool.not_eq_true', Bool.not_eq_false', Decidable.not_not, Bool.and_eq_true, Bool.or_eq_true, Bool.and_eq_false_iff, Bool.or_eq_false_iff] at p3
          refine TS.still rfl (Wt.some rfl rfl rfl h3) rfl rfl (Yv.pur rfl) ?_
          refine TS.still rfl (Wt.some rfl rfl rfl h3) rfl rfl (Yv.pur rfl) ?_
          refine TS.still rfl (Wt.some rfl rfl rfl h3) rfl rfl (Yv.indexSl rfl rfl rfl rfl (by omega)) ?_
          refine TS.still rfl (Wt.some rfl rfl rfl h3) rfl rfl (Yv.fieldAddr rfl rfl) ?_
          refine TS.still rfl (Wt.some rfl rfl rfl h3) rfl rfl (Yv.loadC (j := 1) rfl rfl hk rfl rfl (fun h => h)) ?_
          refine TS.still rfl (Wt.some rfl rfl rfl h3) rfl rfl (Yv.pur rfl) ?_
          refine TS.still rfl (Wt.some rfl rfl rfl h3) rfl rfl (Yv.pur rfl) ?_
          refine TS.still rfl (Wt.some rfl rfl rfl h3) rfl rfl (Yv.indexSl rfl rfl rfl rfl (by omega)) ?_
          refine TS.still rfl (Wt.some rfl rfl rfl h3) rfl rfl (Yv.fieldAddr rfl rfl) ?_
          refine TS.still rfl (Wt.some rfl rfl rfl h3) rfl rfl (Yv.loadC (j := 1) rfl rfl hk2 rfl rfl (fun h => h)) ?_
          refine TS.eff ?_
          (refine TSo.ew rfl (Wt.some rfl rfl rfl h3) rfl rfl (Ew.callD rfl rfl rfl (fun w hw => sameInts_ret (nth xs k).chs (nth ys k).chs _ _ w ((h.at (k := k) (by omega)).kept hw) ((h2.at (k := k) (by omega)).kept hw) (hlc _ (nth_mem (by omega))))) ?_; rintro _ _ ⟨rfl, rfl⟩; refine ⟨(by repeat (first | exact List.Sublist.refl _ | exact List.nil_sublist _ | refine List.Sublist.cons_cons _ ?_ | refine List.Sublist.cons _ ?_)), ?_⟩)
          refine TS.still rfl (Wt.some rfl rfl rfl h3) rfl rfl (Yv.pur rfl) ?_
          refine TS.still rfl (Wt.none rfl) rfl rfl (Yv.pickF rfl rfl h3 rfl) ?_
          refine TS.done ?_
          refine K.seq ?_
          refine T.cond rfl (fun h4 => ?_) (fun h4 => ?_)
          · have p4 := h4
            try simp only [decide_eq_true_eq, decide_eq_false_iff_not, Int.not_lt, Int.not_le, Bool.not_eq_true', Bool.not_eq_false', Decidable.not_not, Bool.and_eq_true, Bool.or_eq_true, Bool.and_eq_false_iff, Bool.or_eq_false_iff] at p4
            refine T.seq ?_
            refine T.region ?_
            refine TL.yv (Wt.none rfl) rfl rfl (Yv.pur rfl) ?_
            refine TL.nil ?_
            refine K.seq ?_
            refine T.ret ?_
            refine K.blk_ret ?_
            refine K.then_ret ?_
            refine K.then_ret ?_
            refine K.blk_ret ?_
            refine K.then_ret ?_
            exact K.ret1 rfl rfl (fun w' hw => ⟨by rw [same_not (k := k) (by rw [nth_map (by omega), nth_map (by omega)]; unfold Dx.pl; simp_all)], hw.isBelow⟩)
          · have p4 := h4
            try simp only [decide_eq_true_eq, decide_eq_false_iff_not, Int.not_lt, Int.not_le, Bool.not_eq_true', Bool.not_eq_false', Decidable.not_not, Bool.and_eq_true, Bool.or_eq_true, Bool.and_eq_false_iff, Bool.or_eq_false_iff] at p4
            refine T.skip ?_
            refine K.blk_normal ?_
            refine K.seq ?_
            refine T.region ?_
            refine TL.yv (Wt.none rfl) rfl rfl (Yv.pur rfl) ?_
            refine TL.yv (Wt.none rfl) rfl rfl (Yv.addI rfl rfl rfl (by omega)) ?_
            refine TL.yv (Wt.none rfl) rfl rfl (Yv.pur rfl) ?_
            refine TL.nil ?_
            exact K.next (k + 1) ⟨by omega, upto_succ hall (by rw [nth_map (by omega), nth_map (by omega)]; unfold Dx.pl; simp_all)⟩ (by omega) (by repeat (first | exact Sub.nil | refine Sub.cons rfl ?_)) (by repeat (first | exact List.Sublist.refl _ | exact List.nil_sublist _ | refine List.Sublist.cons_cons _ ?_ | refine List.Sublist.cons _ ?_))
      · have p2 := h2
        try simp only [decide_eq_true_eq, decide_eq_false_iff_not, Int.not_lt, Int.not_le, Bool.not_eq_true', Bool.not_eq_false', Decidable.not_not, Bool.and_eq_true, Bool.or_eq_true, Bool.and_eq_false_iff, Bool.or_eq_false_iff] at p2
        refine T.exit ?_
        refine K.then_exit ?_
        refine K.then_exit ?_
        refine K.blk_exit_eq ?_
        refine K.seq ?_
        refine T.seq ?_
        refine T.region ?_
        refine TL.yv (Wt.none rfl) rfl rfl (Yv.pur rfl) ?_
        refine TL.nil ?_
        refine K.seq ?_
        refine T.ret ?_
        exact K.ret1 rfl rfl (fun w' hw => ⟨by rw [same_end (by rw [List.length_map, List.length_map]; omega) hall (by rw [List.length_map]; omega)], hw.isBelow⟩)

def chOk (xs : List Ch) (k : Nat) : Bool := inB (nth xs k).st 0 511 && (inB (nth xs k).ch 2 51 && !(decide (0 < (k : Int)) && decide ((nth xs k).st ≤ (nth xs (k - 1)).st)))
def listOk (xs : List Ch) : Bool := (List.range xs.length).all (chOk xs)

theorem validList_ret (xs : List Ch) (v : Value) (w : World) (h : ChsAt w v xs) (hl : xs.length ≤ 9223372036854775807) : Calls Tryd.prog 35 #[v] w fun e w' => e = .returned (.bool (listOk xs)) ∧ Below w.heap.size w w' := by
  obtain ⟨A, cap, rfl, hsl⟩ := h.op
  refine calls_T (M := fun _ => False) (hs := []) Tryd.func35 rfl rfl rfl (Hp.refl _ _) ?_
  refine T.seq ?_
  refine T.region ?_
  refine TL.yv (Wt.none rfl) rfl rfl (Yv.pur rfl) ?_
  refine TL.nil ?_
  refine K.seq ?_
  refine T.seq ?_
  refine T.seq ?_
  refine T.region ?_
  refine TL.yv (Wt.none rfl) rfl rfl (Yv.pur rfl) ?_
  refine TL.yv (Wt.none rfl) rfl rfl (Yv.lenSl rfl rfl) ?_
  refine TL.yv (Wt.none rfl) rfl rfl (Yv.pur rfl) ?_
  refine TL.nil ?_
  refine K.seq ?_
  refine T.block ?_
  refine T.loop (ι := Nat) (fun k => [(0, .slice A xs.length cap), (5, .slice A xs.length cap), (6, .int .i64 (xs.length : Int)), (7, .int .i64 (k : Int))]) (fun k => []) (fun k => k ≤ xs.length ∧ ∀ j, j < k → chOk xs j = true) (fun k => xs.length - k) 0 ?_ ?_ ?_ ?_
  · exact ⟨by omega, fun j hj => by omega⟩
  · exact (by repeat (first | exact Sub.nil | refine Sub.cons rfl ?_))
  · exact (by repeat (first | exact List.Sublist.refl _ | exact List.nil_sublist _ | refine List.Sublist.cons_cons _ ?_ | refine List.Sublist.cons _ ?_))
  · intro k hphi
    obtain ⟨hkl, hall⟩ := hphi
    refine T.seq ?_
    refine T.region ?_
    refine TL.yv (Wt.none rfl) rfl rfl (Yv.pur rfl) ?_
    refine TL.nil ?_
    refine K.seq ?_
    refine T.seq ?_
    refine T.cond rfl (fun h1 => ?_) (fun h1 => ?_)
    · have p1 := h1
      try simp only [decide_eq_true_eq, decide_eq_false_iff_not, Int.not_lt, Int.not_le, Bool.not_eq_true', Bool.not_eq_false', Decidable.not_not, Bool.and_eq_true, Bool.or_eq_true, Bool.and_eq_false_iff, Bool.or_eq_false_iff] at p1
      obtain ⟨g, off, rfl, hc⟩ := hsl (by omega)
      have hk := hc k (by omega)
      have hk1 := hc (k - 1) (by omega)
      simp only [Ch.cells] at hk hk1
      refine T.skip ?_
      refine K.seq ?_
      refine T.seq ?_
      refine T.block ?_
      refine T.seq ?_
      refine T.region ?_
      refine TL.yv (Wt.none rfl) rfl rfl (Yv.pur rfl) ?_
      refine TL.yv (Wt.none rfl) rfl rfl (Yv.indexSl rfl rfl rfl rfl (by omega)) ?_
      refine TL.yv (Wt.none rfl) rfl rfl (Yv.loadAB rfl rfl hk rfl (fun h => h)) ?_
      (refine TL.ew (Wt.none rfl) rfl rfl (Ew.alloc rfl) ?_; rintro _ _ ⟨g4, rfl, rfl⟩)
      refine TL.yv (Wt.none rfl) rfl rfl (Yv.pur rfl) ?_
      (refine TL.ew0 (Wt.none rfl) rfl (Ew.storeAll 0 rfl rfl rfl rfl rfl rfl) ?_; rintro _ _ ⟨rfl, rfl⟩)
      refine TL.nil ?_
      refine K.seq ?_
      refine T.seq ?_
      refine T.seq ?_
      refine T.region ?_
      refine TL.yv (Wt.none rfl) rfl rfl (Yv.fieldAddr rfl rfl) ?_
      refine TL.yv (Wt.none rfl) rfl rfl (Yv.loadO 0 rfl rfl rfl rfl) ?_
      (refine TL.ew (Wt.none rfl) rfl rfl (Ew.callD rfl rfl rfl (fun w hw => isStation_ret _ _)) ?_; rintro _ _ ⟨rfl, rfl⟩)
      refine TL.yv (Wt.none rfl) rfl rfl (Yv.pur rfl) ?_
      refine TL.yv (Wt.none rfl) rfl rfl (Yv.pur rfl) ?_
      refine TL.gsplit rfl rfl rfl (fun h2 => ?_) (fun h2 => ?_)
      · have p2 := h2
        try simp only [decide_eq_true_eq, decide_eq_false_iff_not, Int.not_lt, Int.not_le, Bool.not_eq_true', Bool.not_eq_false', Decidable.not_not, Bool.and_eq_true, Bool.or_eq_true, Bool.and_eq_false_iff, Bool.or_eq_false_iff] at p2
        refine TL.off (Wt.not rfl rfl rfl h2) rfl rfl ?_
        refine TL.off (Wt.not rfl rfl rfl h2) rfl rfl ?_
        refine TL.off (Wt.not rfl rfl rfl h2) rfl rfl ?_
        refine TL.off (Wt.not rfl rfl rfl h2) rfl rfl ?_
        refine TL.yv (Wt.none rfl) rfl rfl (Yv.pickT rfl rfl h2 rfl) ?_
        refine TL.nil ?_
        refine K.seq ?_
        refine T.condT rfl rfl ?_
        refine T.seq ?_
        refine T.region ?_
        refine TL.yv (Wt.none rfl) rfl rfl (Yv.pur rfl) ?_
        refine TL.nil ?_
        refine K.seq ?_
        refine T.ret ?_
        refine K.then_ret ?_
        refine K.blk_ret ?_
        refine K.then_ret ?_
        refine K.then_ret ?_
        refine K.blk_ret ?_
        refine K.then_ret ?_
        refine K.ret1 rfl rfl (fun w' hw => ⟨?_, hw.isBelow⟩)
        exact ret_bool (range_false k (by omega) (by simp only [chOk, *, Bool.not_true, Bool.not_false, Bool.or_false, Bool.false_or, Bool.or_true, Bool.true_or, Bool.and_false, Bool.false_and, Bool.true_and, Bool.and_true, Bool.or_self, Bool.and_self, Bool.not_not, decide_true, decide_false, not_true_eq_false, not_false_eq_true, cond_true, cond_false])).symm
      · have p2 := h2
        try simp only [decide_eq_true_eq, decide_eq_false_iff_not, Int.not_lt, Int.not_le, Bool.not_eq_true', Bool.not_eq_false', Decidable.not_not, Bool.and_eq_true, Bool.or_eq_true, Bool.and_eq_false_iff, Bool.or_eq_false_iff] at p2
        refine TL.yv (Wt.some rfl rfl rfl h2) rfl rfl (Yv.fieldAddr rfl rfl) ?_
        refine TL.yv (Wt.some rfl rfl rfl h2) rfl rfl (Yv.loadO 0 rfl rfl rfl rfl) ?_
        (refine TL.ew (Wt.some rfl rfl rfl h2) rfl rfl (Ew.callD rfl rfl rfl (fun w hw => between_ret _ _ _ _)) ?_; rintro _ _ ⟨rfl, rfl⟩)
        refine TL.yv (Wt.some rfl rfl rfl h2) rfl rfl (Yv.pur rfl) ?_
        refine TL.yv (Wt.none rfl) rfl rfl (Yv.pickF rfl rfl h2 rfl) ?_
        refine TL.nil ?_
        refine K.seq ?_
        refine T.cond rfl (fun h3 => ?_) (fun h3 => ?_)
        · have p3 := h3
          try simp only [decide_eq_true_eq, decide_eq_false_iff_not, Int.not_lt, Int.not_le, Bool.not_eq_true', Bool.not_eq_false', Decidable.not_not, Bool.and_eq_true, Bool.or_eq_true, Bool.and_eq_false_iff, Bool.or_eq_false_iff] at p3
          refine T.seq ?_
          refine T.region ?_
          refine TL.yv (Wt.none rfl) rfl rfl (Yv.pur rfl) ?_
          refine TL.nil ?_
          refine K.seq ?_
          refine T.ret ?_
          refine K.then_ret ?_
          refine K.blk_ret ?_
          refine K.then_ret ?_
          refine K.then_ret ?_
          refine K.blk_ret ?_
          refine K.then_ret ?_
          refine K.ret1 rfl rfl (fun w' hw => ⟨?_, hw.isBelow⟩)
          exact ret_bool (range_false k (by omega) (by simp only [chOk, *, Bool.not_true, Bool.not_false, Bool.or_false, Bool.false_or, Bool.or_true, Bool.true_or, Bool.and_false, Bool.false_and, Bool.true_and, Bool.and_true, Bool.or_self, Bool.and_self, Bool.not_not, decide_true, decide_false, not_true_eq_false, not_false_eq_true, cond_true, cond_false])).symm
        · have p3 := h3
          try simp only [decide_eq_true_eq, decide_eq_false_iff_not, Int.not_lt, Int.not_le, Bool.not_eq_true', Bool.not_eq_false', Decidable.not_not, Bool.and_eq_true, Bool.or_eq_true, Bool.and_eq_false_iff, Bool.or_eq_false_iff] at p3
          refine T.skip ?_
          refine K.seq ?_
          refine T.seq ?_
          refine T.draw (.still 0 (.still 1 (.still 2 (.still 3 (.still 4 (.still 5 (.still 6 (.still 7 (.still 8 (.still 9 (.still 10 (.still 11 (.still 12 .done))))))))))))) _ (by kernel_rfl) (List.Sublist.refl _) ?_
          refine TS.still rfl (Wt.none rfl) rfl rfl (Yv.pur rfl) ?_
          refine TS.still rfl (Wt.none rfl) rfl rfl (Yv.pur rfl) ?_
          refine TS.still rfl (Wt.none rfl) rfl rfl (Yv.pur rfl) ?_
          refine TS.gsplit rfl rfl rfl rfl (fun h4 => ?_) (fun h4 => ?_)
          · have p4 := h4
            try simp only [decide_eq_true_eq, decide_eq_false_iff_not, Int.not_lt, Int.not_le, Bool.not_eq_true', Bool.not_eq_false', Decidable.not_not, Bool.and_eq_true, Bool.or_eq_true, Bool.and_eq_false_iff, Bool.or_eq_false_iff] at p4
            refine TS.still rfl (Wt.some rfl rfl rfl h4) rfl rfl (Yv.pur rfl) ?_
            refine TS.still rfl (Wt.some rfl rfl rfl h4) rfl rfl (Yv.pur rfl) ?_
            refine TS.still rfl (Wt.some rfl rfl rfl h4) rfl rfl (Yv.subI rfl rfl rfl (by omega)) ?_
            refine TS.still rfl (Wt.some rfl rfl rfl h4) rfl rfl (Yv.indexSl rfl rfl rfl (show (k : Int) - 1 = ((k - 1 : Nat) : Int) from by omega) (by omega)) ?_
            refine TS.still rfl (Wt.some rfl rfl rfl h4) rfl rfl (Yv.fieldAddr rfl rfl) ?_
            refine TS.still rfl (Wt.some rfl rfl rfl h4) rfl rfl (Yv.loadC rfl rfl hk1 rfl rfl (fun h => h)) ?_
            refine TS.still rfl (Wt.some rfl rfl rfl h4) rfl rfl (Yv.fieldAddr rfl rfl) ?_
            refine TS.still rfl (Wt.some rfl rfl rfl h4) rfl rfl (Yv.loadO 0 rfl rfl rfl rfl) ?_
            refine TS.still rfl (Wt.some rfl rfl rfl h4) rfl rfl (Yv.pur rfl) ?_
            refine TS.still rfl (Wt.none rfl) rfl rfl (Yv.pickT rfl rfl h4 rfl) ?_
            refine TS.done ?_
            refine K.seq ?_
            refine T.cond rfl (fun h5 => ?_) (fun h5 => ?_)
            · have p5 := h5
              try simp only [decide_eq_true_eq, decide_eq_false_iff_not, Int.not_lt, Int.not_le, Bool.not_eq_true', Bool.not_eq_false', Decidable.not_not, Bool.and_eq_true, Bool.or_eq_true, Bool.and_eq_false_iff, Bool.or_eq_false_iff] at p5
              refine T.seq ?_
              refine T.region ?_
              refine TL.yv (Wt.none rfl) rfl rfl (Yv.pur rfl) ?_
              refine TL.nil ?_
              refine K.seq ?_
              refine T.ret ?_
              refine K.blk_ret ?_
              refine K.then_ret ?_
              refine K.then_ret ?_
              refine K.blk_ret ?_
              refine K.then_ret ?_
              refine K.ret1 rfl rfl (fun w' hw => ⟨?_, hw.isBelow⟩)
              exact ret_bool (range_false k (by omega) (by simp only [chOk, *, Bool.not_true, Bool.not_false, Bool.or_false, Bool.false_or, Bool.or_true, Bool.true_or, Bool.and_false, Bool.false_and, Bool.true_and, Bool.and_true, Bool.or_self, Bool.and_self, Bool.not_not, decide_true, decide_false, not_true_eq_false, not_false_eq_true, cond_true, cond_false])).symm
            · have p5 := h5
              try simp only [decide_eq_true_eq, decide_eq_false_iff_not, Int.not_lt, Int.not_le, Bool.not_eq_true', Bool.not_eq_false', Decidable.not_not, Bool.and_eq_true, Bool.or_eq_true, Bool.and_eq_false_iff, Bool.or_eq_false_iff] at p5
              refine T.skip ?_
              refine K.blk_normal ?_
              refine K.seq ?_
              refine T.region ?_
              refine TL.yv (Wt.none rfl) rfl rfl (Yv.addI rfl rfl rfl (by omega)) ?_
              refine TL.yv (Wt.none rfl) rfl rfl (Yv.pur rfl) ?_
              refine TL.nil ?_
              refine K.next (k + 1) ⟨by omega, upto_succ hall (by simp only [chOk, *, Bool.not_true, Bool.not_false, Bool.or_false, Bool.false_or, Bool.or_true, Bool.true_or, Bool.and_false, Bool.false_and, Bool.true_and, Bool.and_true, Bool.or_self, Bool.and_self, Bool.not_not, decide_true, decide_false, not_true_eq_false, not_false_eq_true, cond_true, cond_false])⟩ (by omega) (by repeat (first | exact Sub.nil | refine Sub.cons rfl ?_)) (by repeat (first | exact List.Sublist.refl _ | exact List.nil_sublist _ | refine List.Sublist.cons_cons _ ?_ | refine List.Sublist.cons _ ?_))
          · have p4 := h4
            try simp only [decide_eq_true_eq, decide_eq_false_iff_not, Int.not_lt, Int.not_le, Bool.not_eq_true', Bool.not_eq_false', Decidable.not_not, Bool.and_eq_true, Bool.or_eq_true, Bool.and_eq_false_iff, Bool.or_eq_false_iff] at p4
            refine TS.stillOff rfl (Wt.not rfl rfl rfl h4) rfl rfl ?_
            refine TS.stillOff rfl (Wt.not rfl rfl rfl h4) rfl rfl ?_
            refine TS.stillOff rfl (Wt.not rfl rfl rfl h4) rfl rfl ?_
            refine TS.stillOff rfl (Wt.not rfl rfl rfl h4) rfl rfl ?_
            refine TS.stillOff rfl (Wt.not rfl rfl rfl h4) rfl rfl ?_
            refine TS.stillOff rfl (Wt.not rfl rfl rfl h4) rfl rfl ?_
            refine TS.stillOff rfl (Wt.not rfl rfl rfl h4) rfl rfl ?_
            refine TS.stillOff rfl (Wt.not rfl rfl rfl h4) rfl rfl ?_
            refine TS.stillOff rfl (Wt.not rfl rfl rfl h4) rfl rfl ?_
            refine TS.still rfl (Wt.none rfl) rfl rfl (Yv.pickF rfl rfl h4 rfl) ?_
            refine TS.done ?_
            refine K.seq ?_
            refine T.condF rfl rfl ?_
            refine T.skip ?_
            refine K.blk_normal ?_
            refine K.seq ?_
            refine T.region ?_
            refine TL.yv (Wt.none rfl) rfl rfl (Yv.addI rfl rfl rfl (by omega)) ?_
            refine TL.yv (Wt.none rfl) rfl rfl (Yv.pur rfl) ?_
            refine TL.nil ?_
            refine K.next (k + 1) ⟨by omega, upto_succ hall (by simp only [chOk, *, Bool.not_true, Bool.not_false, Bool.or_false, Bool.false_or, Bool.or_true, Bool.true_or, Bool.and_false, Bool.false_and, Bool.true_and, Bool.and_true, Bool.or_self, Bool.and_self, Bool.not_not, decide_true, decide_false, not_true_eq_false, not_false_eq_true, cond_true, cond_false])⟩ (by omega) (by repeat (first | exact Sub.nil | refine Sub.cons rfl ?_)) (by repeat (first | exact List.Sublist.refl _ | exact List.nil_sublist _ | refine List.Sublist.cons_cons _ ?_ | refine List.Sublist.cons _ ?_))
    · have p1 := h1
      try simp only [decide_eq_true_eq, decide_eq_false_iff_not, Int.not_lt, Int.not_le, Bool.not_eq_true', Bool.not_eq_false', Decidable.not_not, Bool.and_eq_true, Bool.or_eq_true, Bool.and_eq_false_iff, Bool.or_eq_false_iff] at p1
      refine T.exit ?_
      refine K.then_exit ?_
      refine K.then_exit ?_
      refine K.blk_exit_eq ?_
      refine K.seq ?_
      refine T.seq ?_
      refine T.region ?_
      refine TL.yv (Wt.none rfl) rfl rfl (Yv.pur rfl) ?_
      refine TL.nil ?_
      refine K.seq ?_
      refine T.ret ?_
      refine K.ret1 rfl rfl (fun w' hw => ⟨?_, hw.isBelow⟩)
      exact ret_bool (range_end hall (by omega)).symm
end Go.Proofs.YtljgejbmimapdaaDoor
