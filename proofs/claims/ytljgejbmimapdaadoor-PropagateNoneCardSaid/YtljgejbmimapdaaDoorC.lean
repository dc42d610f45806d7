/- Valid problems. -/
import Derived.Test.YtljgejbmimapdaaDoorB
set_option maxRecDepth 100000
set_option maxHeartbeats 4000000
set_option linter.unusedSimpArgs false
set_option linter.unusedVariables false
set_option linter.unusedSectionVars false
namespace Go.Proofs.YtljgejbmimapdaaDoor
open Go.RowKit

/-- A list that is filled from the front. -/
def fillL (f : Nat → Value) (z : Value) (n k : Nat) : List Value := (List.range k).map f ++ List.replicate (n - k) z
theorem fillL_len {f : Nat → Value} {z : Value} {n k : Nat} (h : k ≤ n) : (fillL f z n k).length = n := by simp [fillL]; omega
theorem fillL_set {f : Nat → Value} {z : Value} {n k p : Nat} (h : k < n) (hp : p = k) : (fillL f z n k).set p (f k) = fillL f z n (k + 1) := by
  subst hp
  unfold fillL
  rw [List.set_append_right _ _ (by simp), show n - p = (n - (p + 1)) + 1 by omega, List.replicate_succ, List.range_succ, List.map_append]
  simp
theorem fillL_get {f : Nat → Value} {z : Value} {n k j p : Nat} (h : j < k) (hp : p = j) : (fillL f z n k)[p]? = some (f j) := by
  subst hp
  unfold fillL
  rw [List.getElem?_append_left (by simp; omega)]
  simp [h]
theorem made_one (z : Value) (n : Nat) : (madeCells [z].toArray (n * 1)).toList = fillL (fun _ => z) z n 0 := by
  apply List.ext_getElem?
  intro i
  by_cases h : i < n
  · simp [fillL, madeCells, List.getElem?_replicate, Nat.mod_one, h]
  · simp [fillL, madeCells, List.getElem?_replicate, h]
theorem fillL_zero (f g : Nat → Value) (z : Value) (n : Nat) : fillL f z n 0 = fillL g z n 0 := rfl
theorem fillL_all {α : Type} [Inhabited α] {xs : List α} {f : Nat → Value} {z : Value} (g : α → Int) (hf : ∀ j, f j = .int .i64 (g (nth xs j))) {k : Nat} (hk : k = xs.length) : fillL f z xs.length k = (xs.map g).flatMap Ie := by
  subst hk
  unfold fillL
  apply List.ext_getElem?
  intro i
  have e : (xs.map g).flatMap Ie = (xs.map g).map (fun z => Value.int .i64 z) := by
    have : ∀ l : List Int, l.flatMap Ie = l.map (fun z => Value.int .i64 z) := by
      intro l
      induction l with
      | nil => rfl
      | cons x r ih => simp [List.flatMap_cons, Ie, ih]
    exact this _
  rw [e]
  simp only [Nat.sub_self, List.replicate_zero, List.append_nil, List.getElem?_map, List.getElem?_range]
  by_cases h : i < xs.length
  · simp [h, hf, nth]
  · simp [h]

theorem members_ret (P : Pb) (vd vp vl vc : Value) (w : World) (h : ProbAt w vd vp vl vc P) (hn : P.ds.length ≤ 512) (hr : ∀ d ∈ P.ds, 0 ≤ d.st ∧ d.st ≤ 511) : Calls Tryd.prog 71 #[.agg [vd, vp, vl, vc].toArray] w fun e w' => e = .returned (.agg (Ws.cells (setOf (P.ds.map (·.st)))).toArray) ∧ Below w.heap.size w w' := by
  obtain ⟨A, cap, rfl, hsl⟩ := h.ds.sl.op
  obtain ⟨A1, cap1, rfl, -⟩ := h.ru.ps.op
  obtain ⟨A2, cap2, rfl, -⟩ := h.ru.ls.op
  obtain ⟨A3, cap3, rfl, -⟩ := h.ru.cs.op
  refine calls_T (M := fun _ => False) (hs := []) Tryd.func71 rfl rfl rfl (Hp.refl _ _) ?_
  refine T.seq ?_
  refine T.region ?_
  (refine TL.ew (Wt.none rfl) rfl rfl (Ew.boxA rfl rfl) ?_; rintro _ _ ⟨g1, rfl, rfl⟩)
  (refine TL.ew (Wt.none rfl) rfl rfl (Ew.alloc rfl) ?_; rintro _ _ ⟨g2, rfl, rfl⟩)
  refine TL.nil ?_
  refine K.seq ?_
  refine T.seq ?_
  refine T.region ?_
  refine TL.yv (Wt.none rfl) rfl rfl (Yv.fieldAddr rfl rfl) ?_
  refine TL.yv (Wt.none rfl) rfl rfl (Yv.loadO 1 rfl rfl rfl rfl) ?_
  refine TL.yv (Wt.none rfl) rfl rfl (Yv.lenSl rfl rfl) ?_
  (refine TL.ew (Wt.none rfl) rfl rfl (Ew.makeSlice rfl rfl rfl rfl rfl (by omega) (by omega)) ?_; rintro _ _ ⟨g11, rfl, rfl⟩)
  refine TL.yv (Wt.none rfl) rfl rfl (Yv.pur rfl) ?_
  refine TL.nil ?_
  refine K.seq ?_
  refine T.cut (gs := [(2, .pointer (some ⟨g2, 0, none⟩)), (3, (.slice (some ⟨g11, 0, none⟩) P.ds.length P.ds.length))]) (hs' := [.sl (.slice (some ⟨g11, 0, none⟩) P.ds.length P.ds.length) 3 1 P.ds.length ((P.ds.map (·.st)).flatMap Ie), .row g2 127 (Ws.cells sNil)]) ?_ ?_
  · skip
    refine T.seq ?_
    rw [made_one]
    refine T.region ?_
    refine TL.yv (Wt.none rfl) rfl rfl (Yv.fieldAddr rfl rfl) ?_
    refine TL.yv (Wt.none rfl) rfl rfl (Yv.loadO 2 rfl rfl rfl rfl) ?_
    refine TL.yv (Wt.none rfl) rfl rfl (Yv.lenSl rfl rfl) ?_
    refine TL.yv (Wt.none rfl) rfl rfl (Yv.pur rfl) ?_
    refine TL.nil ?_
    refine K.seq ?_
    refine T.block ?_
    refine T.loop (ι := Nat) (fun k => [(2, .pointer (some ⟨g2, 0, none⟩)), (3, (.slice (some ⟨g11, 0, none⟩) P.ds.length P.ds.length)), (13, .slice A P.ds.length cap), (14, .int .i64 (P.ds.length : Int)), (15, .int .i64 (k : Int))]) (fun k => [.sl (.slice (some ⟨g11, 0, none⟩) P.ds.length P.ds.length) 3 1 P.ds.length (fillL (fun j => .int .i64 (nth P.ds j).st) (.int .i64 0) P.ds.length k), .row g2 127 (Ws.cells sNil)]) (fun k => k ≤ P.ds.length) (fun k => P.ds.length - k) 0 ?_ ?_ ?_ ?_
    · omega
    · exact (by repeat (first | exact Sub.nil | refine Sub.cons rfl ?_))
    · exact (by repeat (first | exact List.Sublist.refl _ | exact List.nil_sublist _ | refine List.Sublist.cons_cons _ ?_ | refine List.Sublist.cons _ ?_))
    · intro k hphi
      refine T.seq ?_
      refine T.region ?_
      refine TL.yv (Wt.none rfl) rfl rfl (Yv.pur rfl) ?_
      refine TL.nil ?_
      refine K.seq ?_
      refine T.seq ?_
      refine T.cond rfl (fun h1 => ?_) (fun h1 => ?_)
      · have p1 := h1
        try simp only [decide_eq_true_eq, decide_eq_false_iff_not, Int.not_lt, Int.not_le, Bool.not_eq_true', Bool.not_eq_false', Decidable.not_not, Bool.and_eq_true, Bool.or_eq_true, Bool.and_eq_false_iff, Bool.or_eq_false_iff] at p1
        obtain ⟨g, off, rfl, hc⟩ := hsl (by omega)
        have hk := hc k (by omega)
        haveI := (h.ds.at (k := k) (by omega)).one
        simp only [Dx.cells] at hk
        refine T.skip ?_
        refine K.seq ?_
        refine T.seq ?_
        refine T.block ?_
        refine T.seq ?_
        refine T.region ?_
        refine TL.yv (Wt.none rfl) rfl rfl (Yv.pur rfl) ?_
        refine TL.yv (Wt.none rfl) rfl rfl (Yv.indexSl rfl rfl rfl rfl (by omega)) ?_
        refine TL.yv (Wt.none rfl) rfl rfl (Yv.loadAB rfl rfl hk rfl (fun h => h)) ?_
        (refine TL.ew (Wt.none rfl) rfl rfl (Ew.alloc rfl) ?_; rintro _ _ ⟨g5, rfl, rfl⟩)
        refine TL.yv (Wt.none rfl) rfl rfl (Yv.pur rfl) ?_
        (refine TL.ew0 (Wt.none rfl) rfl (Ew.storeAll 0 rfl rfl rfl rfl rfl rfl) ?_; rintro _ _ ⟨rfl, rfl⟩)
        refine TL.nil ?_
        refine K.seq ?_
        refine T.region ?_
        refine TL.yv (Wt.none rfl) rfl rfl (Yv.pur rfl) ?_
        refine TL.yv (Wt.none rfl) rfl rfl (Yv.pur rfl) ?_
        refine TL.yv (Wt.none rfl) rfl rfl (Yv.fieldAddr rfl rfl) ?_
        refine TL.yv (Wt.none rfl) rfl rfl (Yv.loadO 0 rfl rfl rfl rfl) ?_
        refine TL.yv (Wt.none rfl) rfl rfl (Yv.indexSl rfl rfl rfl rfl (by omega)) ?_
        (refine TL.ew0 (Wt.none rfl) rfl (Ew.storeSE 1 (fillL (fun j => .int .i64 (nth P.ds j).st) (.int .i64 0) P.ds.length (k + 1)) rfl rfl rfl rfl (by rw [fillL_len (by omega)]; omega) (fillL_set (by omega) (by omega))) ?_; rintro _ _ ⟨rfl, rfl⟩)
        refine TL.nil ?_
        refine K.blk_normal ?_
        refine K.seq ?_
        refine T.region ?_
        refine TL.yv (Wt.none rfl) rfl rfl (Yv.addI rfl rfl rfl (by omega)) ?_
        refine TL.yv (Wt.none rfl) rfl rfl (Yv.pur rfl) ?_
        refine TL.nil ?_
        exact K.next (k + 1) (by omega) (by omega) (by repeat (first | exact Sub.nil | refine Sub.cons rfl ?_)) (by repeat (first | exact List.Sublist.refl _ | exact List.nil_sublist _ | refine List.Sublist.cons_cons _ ?_ | refine List.Sublist.cons _ ?_))
      · have p1 := h1
        try simp only [decide_eq_true_eq, decide_eq_false_iff_not, Int.not_lt, Int.not_le, Bool.not_eq_true', Bool.not_eq_false', Decidable.not_not, Bool.and_eq_true, Bool.or_eq_true, Bool.and_eq_false_iff, Bool.or_eq_false_iff] at p1
        refine T.exit ?_
        refine K.then_exit ?_
        refine K.then_exit ?_
        refine K.blk_exit_eq ?_
        exact K.at (by repeat (first | exact Sub.nil | refine Sub.cons rfl ?_)) (by rw [fillL_all (fun d : Dx => d.st) (fun _ => rfl) (show k = P.ds.length by omega)]; exact (by repeat (first | exact List.Sublist.refl _ | exact List.nil_sublist _ | refine List.Sublist.cons_cons _ ?_ | refine List.Sublist.cons _ ?_)))
  · skip
    refine T.seq ?_
    refine T.region ?_
    refine TL.yv (Wt.none rfl) rfl rfl (Yv.pur rfl) ?_
    (refine TL.ew (Wt.none rfl) rfl rfl (Ew.callD rfl rfl rfl (fun w hw => of_ret (P.ds.map (·.st)) _ w (SlOf.ownAt (enc := Ie) (fun _ => rfl) hw 0 rfl (by simp)) (by simp; omega) (by intro x hx; obtain ⟨d, hd, rfl⟩ := List.mem_map.1 hx; exact hr d hd))) ?_; rintro _ _ ⟨rfl, rfl⟩)
    refine TL.yv (Wt.none rfl) rfl rfl (Yv.pur rfl) ?_
    refine TL.yv (Wt.none rfl) rfl rfl (Yv.pur rfl) ?_
    refine TL.yv (Wt.none rfl) rfl rfl (Yv.pur rfl) ?_
    (refine TL.ew (Wt.none rfl) rfl rfl (Ew.alloc rfl) ?_; rintro _ _ ⟨g6, rfl, rfl⟩)
    (refine TL.ew0 (Wt.none rfl) rfl (Ew.storeAll 0 rfl rfl rfl rfl (by rw [List.length_map, setOf_len]) (by rw [List.length_map, setOf_len]; rfl)) ?_; rintro _ _ ⟨rfl, rfl⟩)
    refine TL.yv (Wt.none rfl) rfl rfl (Yv.pur rfl) ?_
    refine TL.nil ?_
    refine K.seq ?_
    refine T.seq ?_
    refine T.region ?_
    refine TL.yv (Wt.none rfl) rfl rfl (Yv.loadAO 0 rfl rfl rfl (by rw [List.length_map, setOf_len])) ?_
    (refine TL.ew0 (Wt.none rfl) rfl (Ew.storeAll 2 rfl rfl rfl rfl (by rw [List.length_map, setOf_len]) (by rw [List.length_map, List.length_map, setOf_len]; rfl)) ?_; rintro _ _ ⟨rfl, rfl⟩)
    refine TL.nil ?_
    refine K.seq ?_
    refine T.ret ?_
    exact K.retC 2 rfl rfl rfl (by rw [List.length_map, setOf_len]) (fun w' hw => ⟨rfl, hw.isBelow⟩)
theorem validC2_ret (x : Pr) (ws : Ws) (hws : ws.length = 8) (p : Nat) (w : World) (hp : Cs w p 0 ws.cells) : Calls Tryd.prog 73 #[.agg (Pr.cells x).toArray, .pointer (some ⟨p, 0, none⟩)] w fun e w' => e = .returned (.bool (sHas ws x.a && sHas ws x.b)) ∧ Below w.heap.size w w' := by
  refine calls_T (M := fun _ => False) (hs := []) Tryd.func73 rfl rfl rfl (Hp.refl _ _) ?_
  simp only [Pr.cells]
  refine T.seq ?_
  refine T.region ?_
  (refine TL.ew (Wt.none rfl) rfl rfl (Ew.boxA rfl rfl) ?_; rintro _ _ ⟨g2, rfl, rfl⟩)
  refine TL.yv (Wt.none rfl) rfl rfl (Yv.pur rfl) ?_
  refine TL.nil ?_
  refine K.seq ?_
  refine T.seq ?_
  refine T.region ?_
  refine TL.yv (Wt.none rfl) rfl rfl (Yv.loadAB rfl rfl hp (by rw [List.length_map, hws]) (fun h => h)) ?_
  refine TL.yv (Wt.none rfl) rfl rfl (Yv.fieldAddr rfl rfl) ?_
  refine TL.yv (Wt.none rfl) rfl rfl (Yv.loadO 0 rfl rfl rfl rfl) ?_
  (refine TL.ew (Wt.none rfl) rfl rfl (Ew.callD rfl rfl rfl (fun w hw => has_ret ws hws _ w)) ?_; rintro _ _ ⟨rfl, rfl⟩)
  refine TL.yv (Wt.none rfl) rfl rfl (Yv.pur rfl) ?_
  refine TL.gsplit rfl rfl rfl (fun h1 => ?_) (fun h1 => ?_)
  · have p1 := h1
    try simp only [decide_eq_true_eq, decide_eq_false_iff_not, Int.not_lt, Int.not_le, Bool.not_eq_true', Bool.not_eq_false', Decidable.not_not, Bool.and_eq_true, Bool.or_eq_true, Bool.and_eq_false_iff, Bool.or_eq_false_iff] at p1
    refine TL.yv (Wt.some rfl rfl rfl h1) rfl rfl (Yv.loadAB rfl rfl hp (by rw [List.length_map, hws]) (fun h => h)) ?_
    refine TL.yv (Wt.some rfl rfl rfl h1) rfl rfl (Yv.fieldAddr rfl rfl) ?_
    refine TL.yv (Wt.some rfl rfl rfl h1) rfl rfl (Yv.loadO 0 rfl rfl rfl rfl) ?_
    (refine TL.ew (Wt.some rfl rfl rfl h1) rfl rfl (Ew.callD rfl rfl rfl (fun w hw => has_ret ws hws _ w)) ?_; rintro _ _ ⟨rfl, rfl⟩)
    refine TL.yv (Wt.none rfl) rfl rfl (Yv.pickT rfl rfl h1 rfl) ?_
    refine TL.yv (Wt.none rfl) rfl rfl (Yv.pur rfl) ?_
    refine TL.nil ?_
    refine K.seq ?_
    refine T.ret ?_
    refine K.ret1 rfl rfl (fun w' hw => ⟨?_, hw.isBelow⟩)
    exact ret_bool (by simp only [*, Bool.not_true, Bool.not_false, Bool.or_false, Bool.false_or, Bool.or_true, Bool.true_or, Bool.and_false, Bool.false_and, Bool.true_and, Bool.and_true, Bool.or_self, Bool.and_self, Bool.not_not, decide_true, decide_false, not_true_eq_false, not_false_eq_true, cond_true, cond_false])
  · have p1 := h1
    try simp only [decide_eq_true_eq, decide_eq_false_iff_not, Int.not_lt, Int.not_le, Bool.not_eq_true', Bool.not_eq_false', Decidable.not_not, Bool.and_eq_true, Bool.or_eq_true, Bool.and_eq_false_iff, Bool.or_eq_false_iff] at p1
    refine TL.off (Wt.not rfl rfl rfl h1) rfl rfl ?_
    refine TL.off (Wt.not rfl rfl rfl h1) rfl rfl ?_
    refine TL.off (Wt.not rfl rfl rfl h1) rfl rfl ?_
    refine TL.off (Wt.not rfl rfl rfl h1) rfl rfl ?_
    refine TL.yv (Wt.none rfl) rfl rfl (Yv.pickF rfl rfl h1 rfl) ?_
    refine TL.yv (Wt.none rfl) rfl rfl (Yv.pur rfl) ?_
    refine TL.nil ?_
    refine K.seq ?_
    refine T.ret ?_
    refine K.ret1 rfl rfl (fun w' hw => ⟨?_, hw.isBelow⟩)
    exact ret_bool (by simp only [*, Bool.not_true, Bool.not_false, Bool.or_false, Bool.false_or, Bool.or_true, Bool.true_or, Bool.and_false, Bool.false_and, Bool.true_and, Bool.and_true, Bool.or_self, Bool.and_self, Bool.not_not, decide_true, decide_false, not_true_eq_false, not_false_eq_true, cond_true, cond_false])
theorem validC3_ret (x : Ld) (ws : Ws) (hws : ws.length = 8) (p : Nat) (w : World) (hp : Cs w p 0 ws.cells) : Calls Tryd.prog 76 #[.agg (Ld.cells x).toArray, .pointer (some ⟨p, 0, none⟩)] w fun e w' => e = .returned (.bool (sHas ws x.to && sHas ws x.fr)) ∧ Below w.heap.size w w' := by
  refine calls_T (M := fun _ => False) (hs := []) Tryd.func76 rfl rfl rfl (Hp.refl _ _) ?_
  simp only [Ld.cells]
  refine T.seq ?_
  refine T.region ?_
  (refine TL.ew (Wt.none rfl) rfl rfl (Ew.boxA rfl rfl) ?_; rintro _ _ ⟨g2, rfl, rfl⟩)
  refine TL.yv (Wt.none rfl) rfl rfl (Yv.pur rfl) ?_
  refine TL.nil ?_
  refine K.seq ?_
  refine T.seq ?_
  refine T.region ?_
  refine TL.yv (Wt.none rfl) rfl rfl (Yv.loadAB rfl rfl hp (by rw [List.length_map, hws]) (fun h => h)) ?_
  refine TL.yv (Wt.none rfl) rfl rfl (Yv.fieldAddr rfl rfl) ?_
  refine TL.yv (Wt.none rfl) rfl rfl (Yv.loadO 0 rfl rfl rfl rfl) ?_
  (refine TL.ew (Wt.none rfl) rfl rfl (Ew.callD rfl rfl rfl (fun w hw => has_ret ws hws _ w)) ?_; rintro _ _ ⟨rfl, rfl⟩)
  refine TL.yv (Wt.none rfl) rfl rfl (Yv.pur rfl) ?_
  refine TL.gsplit rfl rfl rfl (fun h1 => ?_) (fun h1 => ?_)
  · have p1 := h1
    try simp only [decide_eq_true_eq, decide_eq_false_iff_not, Int.not_lt, Int.not_le, Bool.not_eq_true', Bool.not_eq_false', Decidable.not_not, Bool.and_eq_true, Bool.or_eq_true, Bool.and_eq_false_iff, Bool.or_eq_false_iff] at p1
    refine TL.yv (Wt.some rfl rfl rfl h1) rfl rfl (Yv.loadAB rfl rfl hp (by rw [List.length_map, hws]) (fun h => h)) ?_
    refine TL.yv (Wt.some rfl rfl rfl h1) rfl rfl (Yv.fieldAddr rfl rfl) ?_
    refine TL.yv (Wt.some rfl rfl rfl h1) rfl rfl (Yv.loadO 0 rfl rfl rfl rfl) ?_
    (refine TL.ew (Wt.some rfl rfl rfl h1) rfl rfl (Ew.callD rfl rfl rfl (fun w hw => has_ret ws hws _ w)) ?_; rintro _ _ ⟨rfl, rfl⟩)
    refine TL.yv (Wt.none rfl) rfl rfl (Yv.pickT rfl rfl h1 rfl) ?_
    refine TL.yv (Wt.none rfl) rfl rfl (Yv.pur rfl) ?_
    refine TL.nil ?_
    refine K.seq ?_
    refine T.ret ?_
    refine K.ret1 rfl rfl (fun w' hw => ⟨?_, hw.isBelow⟩)
    exact ret_bool (by simp only [*, Bool.not_true, Bool.not_false, Bool.or_false, Bool.false_or, Bool.or_true, Bool.true_or, Bool.and_false, Bool.false_and, Bool.true_and, Bool.and_true, Bool.or_self, Bool.and_self, Bool.not_not, decide_true, decide_false, not_true_eq_false, not_false_eq_true, cond_true, cond_false])
  · have p1 := h1
    try simp only [decide_eq_true_eq, decide_eq_false_iff_not, Int.not_lt, Int.not_le, Bool.not_eq_true', Bool.not_eq_false', Decidable.not_not, Bool.and_eq_true, Bool.or_eq_true, Bool.and_eq_false_iff, Bool.or_eq_false_iff] at p1
    refine TL.off (Wt.not rfl rfl rfl h1) rfl rfl ?_
    refine TL.off (Wt.not rfl rfl rfl h1) rfl rfl ?_
    refine TL.off (Wt.not rfl rfl rfl h1) rfl rfl ?_
    refine TL.off (Wt.not rfl rfl rfl h1) rfl rfl ?_
    refine TL.yv (Wt.none rfl) rfl rfl (Yv.pickF rfl rfl h1 rfl) ?_
    refine TL.yv (Wt.none rfl) rfl rfl (Yv.pur rfl) ?_
    refine TL.nil ?_
    refine K.seq ?_
    refine T.ret ?_
    refine K.ret1 rfl rfl (fun w' hw => ⟨?_, hw.isBelow⟩)
    exact ret_bool (by simp only [*, Bool.not_true, Bool.not_false, Bool.or_false, Bool.false_or, Bool.or_true, Bool.true_or, Bool.and_false, Bool.false_and, Bool.true_and, Bool.and_true, Bool.or_self, Bool.and_self, Bool.not_not, decide_true, decide_false, not_true_eq_false, not_false_eq_true, cond_true, cond_false])
theorem validC4_ret (x : Cp) (ws : Ws) (hws : ws.length = 8) (p : Nat) (w : World) (hp : Cs w p 0 ws.cells) : Calls Tryd.prog 78 #[.agg (Cp.cells x).toArray, .pointer (some ⟨p, 0, none⟩)] w fun e w' => e = .returned (.bool (sHas ws x.st)) ∧ Below w.heap.size w w' := by
  refine calls_T (M := fun _ => False) (hs := []) Tryd.func78 rfl rfl rfl (Hp.refl _ _) ?_
  simp only [Cp.cells]
  refine T.seq ?_
  refine T.region ?_
  (refine TL.ew (Wt.none rfl) rfl rfl (Ew.boxA rfl rfl) ?_; rintro _ _ ⟨g2, rfl, rfl⟩)
  refine TL.yv (Wt.none rfl) rfl rfl (Yv.pur rfl) ?_
  refine TL.nil ?_
  refine K.seq ?_
  refine T.seq ?_
  refine T.region ?_
  refine TL.yv (Wt.none rfl) rfl rfl (Yv.loadAB rfl rfl hp (by rw [List.length_map, hws]) (fun h => h)) ?_
  refine TL.yv (Wt.none rfl) rfl rfl (Yv.fieldAddr rfl rfl) ?_
  refine TL.yv (Wt.none rfl) rfl rfl (Yv.loadO 0 rfl rfl rfl rfl) ?_
  (refine TL.ew (Wt.none rfl) rfl rfl (Ew.callD rfl rfl rfl (fun w hw => has_ret ws hws _ w)) ?_; rintro _ _ ⟨rfl, rfl⟩)
  refine TL.yv (Wt.none rfl) rfl rfl (Yv.pur rfl) ?_
  refine TL.nil ?_
  refine K.seq ?_
  refine T.ret ?_
  refine K.ret1 rfl rfl (fun w' hw => ⟨?_, hw.isBelow⟩)
  exact ret_bool (by simp only [*, Bool.not_true, Bool.not_false, Bool.or_false, Bool.false_or, Bool.or_true, Bool.true_or, Bool.and_false, Bool.false_and, Bool.true_and, Bool.and_true, Bool.or_self, Bool.and_self, Bool.not_not, decide_true, decide_false, not_true_eq_false, not_false_eq_true, cond_true, cond_false])
theorem valid_ret (P : Pb) (vd vp vl vc : Value) (w : World) (h : ProbAt w vd vp vl vc P) : Calls Tryd.prog 42 #[.agg [vd, vp, vl, vc].toArray] w fun e w' => e = .returned (.bool P.ok) ∧ Below w.heap.size w w' := by
  obtain ⟨A, cap, rfl, hsl⟩ := h.ds.sl.op
  obtain ⟨A1, cap1, rfl, -⟩ := h.ru.ps.op
  obtain ⟨A2, cap2, rfl, -⟩ := h.ru.ls.op
  obtain ⟨A3, cap3, rfl, -⟩ := h.ru.cs.op
  refine calls_T (M := fun _ => False) (hs := []) Tryd.func42 rfl rfl rfl (Hp.refl _ _) ?_
  refine T.seq ?_
  refine T.region ?_
  (refine TL.ew (Wt.none rfl) rfl rfl (Ew.boxA rfl rfl) ?_; rintro _ _ ⟨g1, rfl, rfl⟩)
  refine TL.yv (Wt.none rfl) rfl rfl (Yv.pur rfl) ?_
  refine TL.nil ?_
  refine K.seq ?_
  refine T.seq ?_
  refine T.seq ?_
  refine T.region ?_
  refine TL.yv (Wt.none rfl) rfl rfl (Yv.fieldAddr rfl rfl) ?_
  refine TL.yv (Wt.none rfl) rfl rfl (Yv.loadO 0 rfl rfl rfl rfl) ?_
  (refine TL.ew (Wt.none rfl) rfl rfl (Ew.callD rfl rfl rfl (fun w hw => everyDom (q := Dx.ok) P.ds _ 66 #[] w (h.ds.sl.kept hw) (fun k hk => (h.ds.at hk).one) (fun k hk w1 hb => goodDomain_ret _ w1 (((h.ds.at hk).kept hw).kept (Hp.of_below hb)) (h.hch _ (nth_mem hk))) h.hds)) ?_; rintro _ _ ⟨rfl, rfl⟩)
  refine TL.yv (Wt.none rfl) rfl rfl (Yv.pur rfl) ?_
  refine TL.yv (Wt.none rfl) rfl rfl (Yv.pur rfl) ?_
  refine TL.gsplit rfl rfl rfl (fun h1 => ?_) (fun h1 => ?_)
  · have p1 := h1
    try simp only [decide_eq_true_eq, decide_eq_false_iff_not, Int.not_lt, Int.not_le, Bool.not_eq_true', Bool.not_eq_false', Decidable.not_not, Bool.and_eq_true, Bool.or_eq_true, Bool.and_eq_false_iff, Bool.or_eq_false_iff] at p1
    refine TL.off (Wt.not rfl rfl rfl h1) rfl rfl ?_
    refine TL.off (Wt.not rfl rfl rfl h1) rfl rfl ?_
    refine TL.off (Wt.not rfl rfl rfl h1) rfl rfl ?_
    refine TL.off (Wt.not rfl rfl rfl h1) rfl rfl ?_
    refine TL.yv (Wt.none rfl) rfl rfl (Yv.pickT rfl rfl h1 rfl) ?_
    refine TL.nil ?_
    refine K.seq ?_
    refine T.condT rfl rfl ?_
    refine T.seq ?_
    refine T.region ?_
    refine TL.yv (Wt.none rfl) rfl rfl (Yv.pur rfl) ?_
    refine TL.nil ?_
    refine K.seq ?_
    refine T.ret ?_
    refine K.then_ret ?_
    refine K.ret1 rfl rfl (fun w' hw => ⟨?_, hw.isBelow⟩)
    exact ret_bool (by simp only [Pb.ok, *, Bool.not_true, Bool.not_false, Bool.or_false, Bool.false_or, Bool.or_true, Bool.true_or, Bool.and_false, Bool.false_and, Bool.true_and, Bool.and_true, Bool.or_self, Bool.and_self, Bool.not_not, decide_true, decide_false, not_true_eq_false, not_false_eq_true, cond_true, cond_false])
  · have p1 := h1
    try simp only [decide_eq_true_eq, decide_eq_false_iff_not, Int.not_lt, Int.not_le, Bool.not_eq_true', Bool.not_eq_false', Decidable.not_not, Bool.and_eq_true, Bool.or_eq_true, Bool.and_eq_false_iff, Bool.or_eq_false_iff] at p1
    refine TL.yv (Wt.some rfl rfl rfl h1) rfl rfl (Yv.fieldAddr rfl rfl) ?_
    refine TL.yv (Wt.some rfl rfl rfl h1) rfl rfl (Yv.loadAP 0 (m := [.slice A1 P.ps.length cap1, .slice A2 P.ls.length cap2, .slice A3 P.cs.length cap3]) rfl rfl rfl rfl rfl) ?_
    (refine TL.ew (Wt.some rfl rfl rfl h1) rfl rfl (Ew.callD rfl rfl rfl (fun w hw => validRules_ret P _ _ _ w (h.ru.kept hw))) ?_; rintro _ _ ⟨rfl, rfl⟩)
    refine TL.yv (Wt.some rfl rfl rfl h1) rfl rfl (Yv.pur rfl) ?_
    refine TL.yv (Wt.none rfl) rfl rfl (Yv.pickF rfl rfl h1 rfl) ?_
    refine TL.nil ?_
    refine K.seq ?_
    refine T.cond rfl (fun h2 => ?_) (fun h2 => ?_)
    · have p2 := h2
      try simp only [decide_eq_true_eq, decide_eq_false_iff_not, Int.not_lt, Int.not_le, Bool.not_eq_true', Bool.not_eq_false', Decidable.not_not, Bool.and_eq_true, Bool.or_eq_true, Bool.and_eq_false_iff, Bool.or_eq_false_iff] at p2
      refine T.seq ?_
      refine T.region ?_
      refine TL.yv (Wt.none rfl) rfl rfl (Yv.pur rfl) ?_
      refine TL.nil ?_
      refine K.seq ?_
      refine T.ret ?_
      refine K.then_ret ?_
      refine K.ret1 rfl rfl (fun w' hw => ⟨?_, hw.isBelow⟩)
      exact ret_bool (by simp only [Pb.ok, *, Bool.not_true, Bool.not_false, Bool.or_false, Bool.false_or, Bool.or_true, Bool.true_or, Bool.and_false, Bool.false_and, Bool.true_and, Bool.and_true, Bool.or_self, Bool.and_self, Bool.not_not, decide_true, decide_false, not_true_eq_false, not_false_eq_true, cond_true, cond_false])
    · have p2 := h2
      try simp only [decide_eq_true_eq, decide_eq_false_iff_not, Int.not_lt, Int.not_le, Bool.not_eq_true', Bool.not_eq_false', Decidable.not_not, Bool.and_eq_true, Bool.or_eq_true, Bool.and_eq_false_iff, Bool.or_eq_false_iff] at p2
      refine T.skip ?_
      refine K.seq ?_
      refine T.seq ?_
      refine T.region ?_
      refine TL.yv (Wt.none rfl) rfl rfl (Yv.pur rfl) ?_
      refine TL.nil ?_
      refine K.seq ?_
      refine T.seq ?_
      refine T.seq ?_
      refine T.region ?_
      refine TL.yv (Wt.none rfl) rfl rfl (Yv.fieldAddr rfl rfl) ?_
      refine TL.yv (Wt.none rfl) rfl rfl (Yv.loadO 0 rfl rfl rfl rfl) ?_
      refine TL.yv (Wt.none rfl) rfl rfl (Yv.pur rfl) ?_
      (refine TL.ew (Wt.none rfl) rfl rfl (Ew.callD rfl rfl rfl (fun w hw => increasingDom (c := fun a b => cmpI a.st b.st) P.ds _ 68 w (h.ds.sl.kept hw) (fun k hk => (h.ds.at hk).one) (fun x y hx hy w1 => byStation_ret x y hx hy w1) h.hds)) ?_; rintro _ _ ⟨rfl, rfl⟩)
      refine TL.yv (Wt.none rfl) rfl rfl (Yv.pur rfl) ?_
      refine TL.nil ?_
      refine K.seq ?_
      refine T.cond rfl (fun h3 => ?_) (fun h3 => ?_)
      · have p3 := h3
        try simp only [decide_eq_true_eq, decide_eq_false_iff_not, Int.not_lt, Int.not_le, Bool.not_eq_true', Bool.not_eq_false', Decidable.not_not, Bool.and_eq_true, Bool.or_eq_true, Bool.and_eq_false_iff, Bool.or_eq_false_iff] at p3
        refine T.seq ?_
        refine T.region ?_
        refine TL.yv (Wt.none rfl) rfl rfl (Yv.pur rfl) ?_
        refine TL.nil ?_
        refine K.seq ?_
        refine T.ret ?_
        refine K.then_ret ?_
        refine K.ret1 rfl rfl (fun w' hw => ⟨?_, hw.isBelow⟩)
        exact ret_bool (by simp only [Pb.ok, *, Bool.not_true, Bool.not_false, Bool.or_false, Bool.false_or, Bool.or_true, Bool.true_or, Bool.and_false, Bool.false_and, Bool.true_and, Bool.and_true, Bool.or_self, Bool.and_self, Bool.not_not, decide_true, decide_false, not_true_eq_false, not_false_eq_true, cond_true, cond_false])
      · have p3 := h3
        try simp only [decide_eq_true_eq, decide_eq_false_iff_not, Int.not_lt, Int.not_le, Bool.not_eq_true', Bool.not_eq_false', Decidable.not_not, Bool.and_eq_true, Bool.or_eq_true, Bool.and_eq_false_iff, Bool.or_eq_false_iff] at p3
        refine T.skip ?_
        refine K.seq ?_
        refine T.seq ?_
        refine T.region ?_
        refine TL.yv (Wt.none rfl) rfl rfl (Yv.loadAO 0 rfl rfl rfl rfl) ?_
        have hall : allB Dx.ok P.ds = true := by assumption
        have hinc : incB (fun a b : Dx => cmpI a.st b.st) P.ds = true := by assumption
        have hst : ∀ d ∈ P.ds, 0 ≤ d.st ∧ d.st ≤ 511 := fun d hd => by have := allB_mem.1 hall d hd; simp only [Dx.ok, inB, Bool.and_eq_true, decide_eq_true_eq] at this; exact this.1
        (refine TL.ew (Wt.none rfl) rfl rfl (Ew.callD rfl rfl rfl (fun w hw => members_ret P _ _ _ _ w (h.kept hw) (inc_len hinc hall) hst)) ?_; rintro _ _ ⟨rfl, rfl⟩)
        (refine TL.ew (Wt.none rfl) rfl rfl (Ew.alloc rfl) ?_; rintro _ _ ⟨g4, rfl, rfl⟩)
        (refine TL.ew0 (Wt.none rfl) rfl (Ew.storeAll 0 rfl rfl rfl rfl (by rw [List.length_map, setOf_len]) (by rw [List.length_map, setOf_len]; rfl)) ?_; rintro _ _ ⟨rfl, rfl⟩)
        refine TL.nil ?_
        refine K.seq ?_
        refine T.seq ?_
        refine T.region ?_
        refine TL.yv (Wt.none rfl) rfl rfl (Yv.fieldAddr rfl rfl) ?_
        refine TL.yv (Wt.none rfl) rfl rfl (Yv.fieldAddr rfl rfl) ?_
        refine TL.yv (Wt.none rfl) rfl rfl (Yv.loadO 1 rfl rfl rfl rfl) ?_
        refine TL.yv (Wt.none rfl) rfl rfl (Yv.pur rfl) ?_
        (refine TL.ew (Wt.none rfl) rfl rfl (Ew.callD rfl rfl rfl (fun w hw => everyPr (q := fun x : Pr => P.has x.a && P.has x.b) P.ps _ 73 #[.pointer (some ⟨g4, 0, none⟩)] w (h.ru.ps.kept hw) (fun k hk w1 hb => validC2_ret _ _ (setOf_len _) _ w1 (Cs.later hb (Cs.of_row (Ent.row_ok.1 (hw.get (i := 0) rfl)) (by rw [List.drop_zero, List.take_length])))) h.ru.hps)) ?_; rintro _ _ ⟨rfl, rfl⟩)
        refine TL.yv (Wt.none rfl) rfl rfl (Yv.pur rfl) ?_
        refine TL.gsplit rfl rfl rfl (fun h4 => ?_) (fun h4 => ?_)
        · have p4 := h4
          try simp only [decide_eq_true_eq, decide_eq_false_iff_not, Int.not_lt, Int.not_le, Bool.not_eq_true', Bool.not_eq_false', Decidable.not_not, Bool.and_eq_true, Bool.or_eq_true, Bool.and_eq_false_iff, Bool.or_eq_false_iff] at p4
          refine TL.yv (Wt.some rfl rfl rfl h4) rfl rfl (Yv.fieldAddr rfl rfl) ?_
          refine TL.yv (Wt.some rfl rfl rfl h4) rfl rfl (Yv.fieldAddr rfl rfl) ?_
          refine TL.yv (Wt.some rfl rfl rfl h4) rfl rfl (Yv.loadO 1 rfl rfl rfl rfl) ?_
          refine TL.yv (Wt.some rfl rfl rfl h4) rfl rfl (Yv.pur rfl) ?_
          (refine TL.ew (Wt.some rfl rfl rfl h4) rfl rfl (Ew.callD rfl rfl rfl (fun w hw => everyLd (q := fun x : Ld => P.has x.to && P.has x.fr) P.ls _ 76 #[.pointer (some ⟨g4, 0, none⟩)] w (h.ru.ls.kept hw) (fun k hk w1 hb => validC3_ret _ _ (setOf_len _) _ w1 (Cs.later hb (Cs.of_row (Ent.row_ok.1 (hw.get (i := 0) rfl)) (by rw [List.drop_zero, List.take_length])))) h.ru.hls)) ?_; rintro _ _ ⟨rfl, rfl⟩)
          refine TL.yv (Wt.none rfl) rfl rfl (Yv.pickT rfl rfl h4 rfl) ?_
          refine TL.yv (Wt.none rfl) rfl rfl (Yv.pur rfl) ?_
          refine TL.gsplit rfl rfl rfl (fun h5 => ?_) (fun h5 => ?_)
          · have p5 := h5
            try simp only [decide_eq_true_eq, decide_eq_false_iff_not, Int.not_lt, Int.not_le, Bool.not_eq_true', Bool.not_eq_false', Decidable.not_not, Bool.and_eq_true, Bool.or_eq_true, Bool.and_eq_false_iff, Bool.or_eq_false_iff] at p5
            refine TL.yv (Wt.some rfl rfl rfl h5) rfl rfl (Yv.fieldAddr rfl rfl) ?_
            refine TL.yv (Wt.some rfl rfl rfl h5) rfl rfl (Yv.fieldAddr rfl rfl) ?_
            refine TL.yv (Wt.some rfl rfl rfl h5) rfl rfl (Yv.loadO 1 rfl rfl rfl rfl) ?_
            refine TL.yv (Wt.some rfl rfl rfl h5) rfl rfl (Yv.pur rfl) ?_
            (refine TL.ew (Wt.some rfl rfl rfl h5) rfl rfl (Ew.callD rfl rfl rfl (fun w hw => everyCp (q := fun x : Cp => P.has x.st) P.cs _ 78 #[.pointer (some ⟨g4, 0, none⟩)] w (h.ru.cs.kept hw) (fun k hk w1 hb => validC4_ret _ _ (setOf_len _) _ w1 (Cs.later hb (Cs.of_row (Ent.row_ok.1 (hw.get (i := 0) rfl)) (by rw [List.drop_zero, List.take_length])))) h.ru.hcs)) ?_; rintro _ _ ⟨rfl, rfl⟩)
            refine TL.yv (Wt.none rfl) rfl rfl (Yv.pickT rfl rfl h5 rfl) ?_
            refine TL.yv (Wt.none rfl) rfl rfl (Yv.pur rfl) ?_
            refine TL.nil ?_
            refine K.seq ?_
            refine T.ret ?_
            refine K.ret1 rfl rfl (fun w' hw => ⟨?_, hw.isBelow⟩)
            exact ret_bool (by simp only [Pb.ok, *, Bool.not_true, Bool.not_false, Bool.or_false, Bool.false_or, Bool.or_true, Bool.true_or, Bool.and_false, Bool.false_and, Bool.true_and, Bool.and_true, Bool.or_self, Bool.and_self, Bool.not_not, decide_true, decide_false, not_true_eq_false, not_false_eq_true, cond_true, cond_false])
          · have p5 := h5
            try simp only [decide_eq_true_eq, decide_eq_false_iff_not, Int.not_lt, Int.not_le, Bool.not_eq_true', Bool.not_eq_false', Decidable.not_not, Bool.and_eq_true, Bool.or_eq_true, Bool.and_eq_false_iff, Bool.or_eq_false_iff] at p5
            refine TL.off (Wt.not rfl rfl rfl h5) rfl rfl ?_
            refine TL.off (Wt.not rfl rfl rfl h5) rfl rfl ?_
            refine TL.off (Wt.not rfl rfl rfl h5) rfl rfl ?_
            refine TL.off (Wt.not rfl rfl rfl h5) rfl rfl ?_
            refine TL.off (Wt.not rfl rfl rfl h5) rfl rfl ?_
            refine TL.yv (Wt.none rfl) rfl rfl (Yv.pickF rfl rfl h5 rfl) ?_
            refine TL.yv (Wt.none rfl) rfl rfl (Yv.pur rfl) ?_
            refine TL.nil ?_
            refine K.seq ?_
            refine T.ret ?_
            refine K.ret1 rfl rfl (fun w' hw => ⟨?_, hw.isBelow⟩)
            exact ret_bool (by simp only [Pb.ok, *, Bool.not_true, Bool.not_false, Bool.or_false, Bool.false_or, Bool.or_true, Bool.true_or, Bool.and_false, Bool.false_and, Bool.true_and, Bool.and_true, Bool.or_self, Bool.and_self, Bool.not_not, decide_true, decide_false, not_true_eq_false, not_false_eq_true, cond_true, cond_false])
        · have p4 := h4
          try simp only [decide_eq_true_eq, decide_eq_false_iff_not, Int.not_lt, Int.not_le, Bool.not_eq_true', Bool.not_eq_false', Decidable.not_not, Bool.and_eq_true, Bool.or_eq_true, Bool.and_eq_false_iff, Bool.or_eq_false_iff] at p4
          refine TL.off (Wt.not rfl rfl rfl h4) rfl rfl ?_
          refine TL.off (Wt.not rfl rfl rfl h4) rfl rfl ?_
          refine TL.off (Wt.not rfl rfl rfl h4) rfl rfl ?_
          refine TL.off (Wt.not rfl rfl rfl h4) rfl rfl ?_
          refine TL.off (Wt.not rfl rfl rfl h4) rfl rfl ?_
          refine TL.yv (Wt.none rfl) rfl rfl (Yv.pickF rfl rfl h4 rfl) ?_
          refine TL.yv (Wt.none rfl) rfl rfl (Yv.pur rfl) ?_
          refine TL.off (Wt.not rfl rfl rfl rfl) rfl rfl ?_
          refine TL.off (Wt.not rfl rfl rfl rfl) rfl rfl ?_
          refine TL.off (Wt.not rfl rfl rfl rfl) rfl rfl ?_
          refine TL.off (Wt.not rfl rfl rfl rfl) rfl rfl ?_
          refine TL.off (Wt.not rfl rfl rfl rfl) rfl rfl ?_
          refine TL.yv (Wt.none rfl) rfl rfl (Yv.pickF rfl rfl rfl rfl) ?_
          refine TL.yv (Wt.none rfl) rfl rfl (Yv.pur rfl) ?_
          refine TL.nil ?_
          refine K.seq ?_
          refine T.ret ?_
          refine K.ret1 rfl rfl (fun w' hw => ⟨?_, hw.isBelow⟩)
          exact ret_bool (by simp only [Pb.ok, *, Bool.not_true, Bool.not_false, Bool.or_false, Bool.false_or, Bool.or_true, Bool.true_or, Bool.and_false, Bool.false_and, Bool.true_and, Bool.and_true, Bool.or_self, Bool.and_self, Bool.not_not, decide_true, decide_false, not_true_eq_false, not_false_eq_true, cond_true, cond_false])
end Go.Proofs.YtljgejbmimapdaaDoor
