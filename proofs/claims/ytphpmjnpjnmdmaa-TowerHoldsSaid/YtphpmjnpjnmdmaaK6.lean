/- Weeks; the first free weeks. -/
import Derived.Test.YtphpmjnpjnmdmaaK5
set_option maxRecDepth 100000
set_option maxHeartbeats 4000000
set_option linter.unusedSimpArgs false
set_option linter.unusedVariables false
set_option linter.unusedSectionVars false
namespace Go.Proofs.Ytphpmjnpjnmdmaa
open Go.RowKit
theorem weeks_ret (s n : Int) (w : World) : Calls Try.prog 39 #[.int .i64 s, .int .i64 n] w fun e w' => ∃ x : Nat × Nat, True ∧ e = .returned (.func (.func 50) #[] [.pointer (some ⟨x.1, 0, none⟩), .pointer (some ⟨x.2, 0, none⟩)].toArray) ∧ Hp w (fun _ => False) [.row x.1 3 [.int .i64 n], .row x.2 3 [.int .i64 s]] w' := by
  refine calls_T (M := fun _ => False) (hs := []) Try.func39 rfl rfl rfl (Hp.refl _ _) ?_
  refine T.seq ?_
  refine T.region ?_
  first | (refine TL.ew (Wt.none rfl) rfl rfl (Ew.box rfl rfl) ?_; rintro _ _ ⟨g2, rfl, rfl⟩) | (refine TL.ew (Wt.none rfl) rfl rfl (Ew.boxA rfl rfl) ?_; rintro _ _ ⟨g2, rfl, rfl⟩)
  first | (refine TL.ew (Wt.none rfl) rfl rfl (Ew.box rfl rfl) ?_; rintro _ _ ⟨g3, rfl, rfl⟩) | (refine TL.ew (Wt.none rfl) rfl rfl (Ew.boxA rfl rfl) ?_; rintro _ _ ⟨g3, rfl, rfl⟩)
  refine TL.yv (Wt.none rfl) rfl rfl (Yv.pur rfl) ?_
  refine TL.nil ?_
  refine K.seq ?_
  refine T.seq ?_
  refine T.region ?_
  refine TL.yv (Wt.none rfl) rfl rfl (Yv.pur rfl) ?_
  refine TL.yv (Wt.none rfl) rfl rfl (Yv.pur rfl) ?_
  refine TL.nil ?_
  refine K.seq ?_
  refine T.ret ?_
  exact K.ret1 rfl rfl (fun w' hw => ⟨(g3, g2), trivial, rfl, hw⟩)
theorem weeks_iter (s n gn gs : Nat) (hb : s + n ≤ 1000000) : Iter Try.prog 50 [.pointer (some ⟨gn, 0, none⟩), .pointer (some ⟨gs, 0, none⟩)] (fun d : Nat => [.int .i64 ((s : Int) + (d : Int))]) (List.range n) [.row gn 3 [.int .i64 (n : Int)], .row gs 3 [.int .i64 (s : Int)]] := by
  intro B M G Z l W g0 hy hG0 hW
  refine calls_TB (B := B) (M := M) Try.func50 rfl rfl rfl hW ?_
  refine T.seq ?_
  refine T.region ?_
  first | refine TL.yv (Wt.none rfl) rfl rfl (Yv.loadO 0 rfl rfl rfl rfl) ?_ | refine TL.yv (Wt.none rfl) rfl rfl (Yv.loadO 1 rfl rfl rfl rfl) ?_ | refine TL.yv (Wt.none rfl) rfl rfl (Yv.loadO 2 rfl rfl rfl rfl) ?_ | refine TL.yv (Wt.none rfl) rfl rfl (Yv.loadB rfl rfl (by assumption) (fun h => h)) ?_ | refine TL.yv (Wt.none rfl) rfl rfl (Yv.loadS 0 rfl rfl rfl (by first | rfl | assumption)) ?_ | refine TL.yv (Wt.none rfl) rfl rfl (Yv.loadS 1 rfl rfl rfl (by first | rfl | assumption)) ?_ | refine TL.yv (Wt.none rfl) rfl rfl (Yv.loadS 2 rfl rfl rfl (by first | rfl | assumption)) ?_
  refine TL.yv (Wt.none rfl) rfl rfl (Yv.pur rfl) ?_
  refine TL.nil ?_
  refine K.seq ?_
  refine T.block ?_
  refine T.loop (ι := Nat × HS) (fun x => [(0, .func (.yield l) #[] #[]), (1, .pointer (some ⟨gn, 0, none⟩)), (2, .pointer (some ⟨gs, 0, none⟩)), (5, .int .i64 (n : Int)), (6, .int .i64 (x.1 : Int))]) (fun x => [.row gn 3 [.int .i64 (n : Int)], .row gs 3 [.int .i64 (s : Int)]] ++ x.2) (fun x => x.1 ≤ n ∧ G x.1 x.2) (fun x => n - x.1) (0, g0) ?_ ?_ ?_ ?_
  · exact ⟨by simp, hG0⟩
  · exact (by repeat (first | exact Sub.nil | refine Sub.cons rfl ?_))
  · exact List.Sublist.refl _
  · intro x hphi
    obtain ⟨k, g⟩ := x
    dsimp only at hphi ⊢
    obtain ⟨hkn, hG⟩ := hphi
    refine T.seq ?_
    refine T.region ?_
    refine TL.yv (Wt.none rfl) rfl rfl (Yv.pur rfl) ?_
    refine TL.nil ?_
    refine K.seq ?_
    refine T.seq ?_
    refine T.cond rfl (fun h1 => ?_) (fun h1 => ?_)
    · have p1 := h1
      try simp only [decide_eq_true_eq, decide_eq_false_iff_not, Int.not_lt, Int.not_le, Bool.not_eq_true', Bool.not_eq_false', Decidable.not_not, Bool.and_eq_true, Bool.or_eq_true, Bool.and_eq_false_iff, Bool.or_eq_false_iff] at p1
      refine T.skip ?_
      refine K.seq ?_
      refine T.seq ?_
      refine T.block ?_
      refine T.seq ?_
      refine T.region ?_
      refine TL.yv (Wt.none rfl) rfl rfl (Yv.pur rfl) ?_
      refine TL.yv (Wt.none rfl) rfl rfl (Yv.pur rfl) ?_
      refine TL.nil ?_
      refine K.seq ?_
      refine T.seq ?_
      refine T.region ?_
      refine TL.yv (Wt.none rfl) rfl rfl (Yv.pur rfl) ?_
      first | refine TL.yv (Wt.none rfl) rfl rfl (Yv.loadO 0 rfl rfl rfl rfl) ?_ | refine TL.yv (Wt.none rfl) rfl rfl (Yv.loadO 1 rfl rfl rfl rfl) ?_ | refine TL.yv (Wt.none rfl) rfl rfl (Yv.loadO 2 rfl rfl rfl rfl) ?_ | refine TL.yv (Wt.none rfl) rfl rfl (Yv.loadO 3 rfl rfl rfl rfl) ?_ | refine TL.yv (Wt.none rfl) rfl rfl (Yv.loadB rfl rfl (by assumption) (fun h => h)) ?_ | refine TL.yv (Wt.none rfl) rfl rfl (Yv.loadS 0 rfl rfl rfl (by first | rfl | assumption)) ?_ | refine TL.yv (Wt.none rfl) rfl rfl (Yv.loadS 1 rfl rfl rfl (by first | rfl | assumption)) ?_ | refine TL.yv (Wt.none rfl) rfl rfl (Yv.loadS 2 rfl rfl rfl (by first | rfl | assumption)) ?_ | refine TL.yv (Wt.none rfl) rfl rfl (Yv.loadS 3 rfl rfl rfl (by first | rfl | assumption)) ?_
      refine TL.yv (Wt.none rfl) rfl rfl (Yv.pur rfl) ?_
      first | refine TL.yv (Wt.none rfl) rfl rfl (Yv.addI rfl rfl rfl (by omega)) ?_ | refine TL.yv (Wt.none rfl) rfl rfl (Yv.pur rfl) ?_
      refine TL.yieldI (Wt.none rfl) rfl rfl rfl rfl rfl hy (List.getElem?_range (by omega)) hG (enc := fun d : Nat => [.int .i64 ((s : Int) + (d : Int))]) (x := k) (i := k) ?_ ?_
      · intro g' hG'
        first | refine TL.yv (Wt.none rfl) rfl rfl (Yv.pur rfl) ?_ | refine TL.yv (Wt.none rfl) rfl rfl (Yv.not rfl rfl) ?_
        refine TL.nil ?_
        refine K.seq ?_
        refine T.condF rfl rfl ?_
        refine T.skip ?_
        refine K.blk_normal ?_
        refine K.seq ?_
        refine T.region ?_
        first | refine TL.yv (Wt.none rfl) rfl rfl (Yv.addI rfl rfl rfl (by omega)) ?_ | refine TL.yv (Wt.none rfl) rfl rfl (Yv.pur rfl) ?_
        refine TL.yv (Wt.none rfl) rfl rfl (Yv.pur rfl) ?_
        refine TL.nil ?_
        exact K.next (k + 1, g') ⟨by dsimp only; omega, hG'⟩ (by dsimp only; omega) (by repeat (first | exact Sub.nil | refine Sub.cons rfl ?_)) (List.Sublist.refl _)
      · intro z hZ
        first | refine TL.yv (Wt.none rfl) rfl rfl (Yv.pur rfl) ?_ | refine TL.yv (Wt.none rfl) rfl rfl (Yv.not rfl rfl) ?_
        refine TL.nil ?_
        refine K.seq ?_
        refine T.condT rfl rfl ?_
        refine T.ret ?_
        refine K.blk_ret ?_
        refine K.then_ret ?_
        refine K.then_ret ?_
        refine K.blk_ret ?_
        exact K.ret0K rfl (fun w' hw hk => ⟨⟨_, rfl⟩, hk, .inr ⟨z, hZ, hw⟩⟩)
    · have p1 := h1
      try simp only [decide_eq_true_eq, decide_eq_false_iff_not, Int.not_lt, Int.not_le, Bool.not_eq_true', Bool.not_eq_false', Decidable.not_not, Bool.and_eq_true, Bool.or_eq_true, Bool.and_eq_false_iff, Bool.or_eq_false_iff] at p1
      refine T.exit ?_
      refine K.then_exit ?_
      refine K.then_exit ?_
      refine K.blk_exit_eq ?_
      exact K.end0K rfl (fun w' hw hk => ⟨⟨_, rfl⟩, hk, .inl ⟨g, by rw [List.length_range, show n = k from by omega]; exact hG, hw⟩⟩)

theorem free_no {f : Int → Bool} {n : Nat} {r k : Int} (h1 : r ≤ k) (h2 : k < r + n) (hk : f k = false) : freeR f r n = false := by
  rw [freeR]
  exact range_false (k - r).toNat (by omega) (by rw [show r + ((k - r).toNat : Int) = k from by omega]; exact hk)

theorem earliest_ret (n L : Nat) (v1 v2 : Value) (nb1 nb2 : Nat) (c1 c2 : List Nat) (C1 C2 : Int) (f : Int → Bool) (w : World) (ok1 : (Ent.sl v1 98 64 nb1 (u8s c1)).ok w) (ok2 : (Ent.sl v2 98 64 nb2 (u8s c2)).ok w) (hn : 1 ≤ n) (hb : L + n ≤ 1000000) (hc1 : ∀ j, c1.getD j 0 ≤ 200) (hc2 : ∀ j, c2.getD j 0 ≤ 200) (hf : ∀ k : Nat, f (k : Int) = !(decide (C1 ≤ ((c1.getD k 0 : Nat) : Int)) || decide (C2 ≤ ((c2.getD k 0 : Nat) : Int)))) (hL : ∀ k : Nat, L ≤ k → f (k : Int) = true) : Calls Try.prog 38 #[.int .i64 (n : Int), .agg #[v1, v2], .agg #[.int .i64 C1, .int .i64 C2]] w fun e w' => ∃ s : Nat, (IsFirst f n s ∧ s ≤ L) ∧ e = .returned (.int .i64 (s : Int)) ∧ Hp w (fun _ => False) [] w' := by
  have o1 : OneC v1 := by obtain ⟨_, A, cap, rfl, _⟩ := rec_form ok1; exact inferInstance
  have o2 : OneC v2 := by obtain ⟨_, A, cap, rfl, _⟩ := rec_form ok2; exact inferInstance
  refine calls_T (M := fun _ => False) (hs := []) Try.func38 rfl rfl rfl (Hp.refl _ _) ?_
  refine T.seq ?_
  refine T.region ?_
  first | (refine TL.ew (Wt.none rfl) rfl rfl (Ew.box rfl rfl) ?_; rintro _ _ ⟨g4, rfl, rfl⟩) | (refine TL.ew (Wt.none rfl) rfl rfl (Ew.boxA rfl rfl) ?_; rintro _ _ ⟨g4, rfl, rfl⟩)
  first | (refine TL.ew (Wt.none rfl) rfl rfl (Ew.box rfl rfl) ?_; rintro _ _ ⟨g5, rfl, rfl⟩) | (refine TL.ew (Wt.none rfl) rfl rfl (Ew.boxA rfl rfl) ?_; rintro _ _ ⟨g5, rfl, rfl⟩)
  refine TL.yv (Wt.none rfl) rfl rfl (Yv.pur rfl) ?_
  refine TL.nil ?_
  refine K.seq ?_
  refine T.seq ?_
  refine T.region ?_
  refine TL.yv (Wt.none rfl) rfl rfl (Yv.pur rfl) ?_
  refine TL.nil ?_
  refine K.seq ?_
  refine T.seq ?_
  refine T.seq ?_
  refine T.region ?_
  refine TL.yv (Wt.none rfl) rfl rfl (Yv.pur rfl) ?_
  refine TL.nil ?_
  refine K.seq ?_
  refine T.block ?_
  refine T.loop (ι := Nat × Nat) (fun x => [(0, .int .i64 (n : Int)), (4, .pointer (some ⟨g4, 0, none⟩)), (5, .pointer (some ⟨g5, 0, none⟩)), (7, .int .i64 (x.1 : Int)), (8, .int .i64 (x.2 : Int))]) (fun x => [.row g5 81 [.int .i64 C1, .int .i64 C2], .row g4 80 [v1, v2]]) (fun x => (x.1 ≤ x.2 ∧ x.2 ≤ x.1 + n ∧ x.1 ≤ L) ∧ (∀ u : Nat, x.1 ≤ u → u < x.2 → f (u : Int) = true) ∧ ∀ r : Int, 0 ≤ r → r < (x.1 : Int) → freeR f r n = false) (fun x => L + n + 1 - x.2) (0, 0) ?_ ?_ ?_ ?_
  · exact ⟨by simp, fun u _ hu => by simp at hu, fun r h0 h1 => by simp at h1; omega⟩
  · exact (by repeat (first | exact Sub.nil | refine Sub.cons rfl ?_))
  · exact (by repeat (first | exact List.Sublist.refl _ | exact List.nil_sublist _ | refine List.Sublist.cons_cons _ ?_ | refine List.Sublist.cons _ ?_))
  · intro x hphi
    obtain ⟨s, k⟩ := x
    dsimp only at hphi ⊢
    obtain ⟨⟨q1, q2, q3⟩, hall, hno⟩ := hphi
    have hck1 := hc1 k
    have hck2 := hc2 k
    refine T.seq ?_
    refine T.seq ?_
    refine T.region ?_
    refine TL.yv (Wt.none rfl) rfl rfl (Yv.pur rfl) ?_
    refine TL.yv (Wt.none rfl) rfl rfl (Yv.pur rfl) ?_
    refine TL.yv (Wt.none rfl) rfl rfl (Yv.pur rfl) ?_
    first | refine TL.yv (Wt.none rfl) rfl rfl (Yv.addI rfl rfl rfl (by omega)) ?_ | refine TL.yv (Wt.none rfl) rfl rfl (Yv.pur rfl) ?_
    refine TL.yv (Wt.none rfl) rfl rfl (Yv.pur rfl) ?_
    refine TL.nil ?_
    refine K.seq ?_
    refine T.cond rfl (fun h1 => ?_) (fun h1 => ?_)
    · have p1 := h1
      try simp only [decide_eq_true_eq, decide_eq_false_iff_not, Int.not_lt, Int.not_le, Bool.not_eq_true', Bool.not_eq_false', Decidable.not_not, Bool.and_eq_true, Bool.or_eq_true, Bool.and_eq_false_iff, Bool.or_eq_false_iff] at p1
      refine T.skip ?_
      refine K.seq ?_
      refine T.seq ?_
      refine T.block ?_
      refine T.seq ?_
      refine T.draw (.still 0 (.still 1 (.still 2 (.still 4 (.still 5 (.eff 3 (.still 6 (.still 7 (.still 8 (.still 9 (.still 10 (.still 12 (.still 13 (.eff 11 (.still 14 (.still 15 .done)))))))))))))))) _ (by kernel_rfl) (List.Sublist.refl _) ?_
      first | refine TS.still rfl (Wt.none rfl) rfl rfl (Yv.indexSl rfl rfl rfl (show (0 : Int) = ((0 : Nat) : Int) from rfl) (by omega)) ?_ | refine TS.still rfl (Wt.none rfl) rfl rfl (Yv.indexAr rfl rfl rfl (show (0 : Int) = ((0 : Nat) : Int) from rfl) (by decide)) ?_
      first | refine TS.still rfl (Wt.none rfl) rfl rfl (Yv.loadO 0 rfl rfl rfl rfl) ?_ | refine TS.still rfl (Wt.none rfl) rfl rfl (Yv.loadO 1 rfl rfl rfl rfl) ?_ | refine TS.still rfl (Wt.none rfl) rfl rfl (Yv.loadO 2 rfl rfl rfl rfl) ?_ | refine TS.still rfl (Wt.none rfl) rfl rfl (Yv.loadO 3 rfl rfl rfl rfl) ?_ | refine TS.still rfl (Wt.none rfl) rfl rfl (Yv.loadB rfl rfl (by assumption) (fun h => h)) ?_ | refine TS.still rfl (Wt.none rfl) rfl rfl (Yv.loadS 0 rfl rfl rfl (by first | rfl | assumption)) ?_ | refine TS.still rfl (Wt.none rfl) rfl rfl (Yv.loadS 1 rfl rfl rfl (by first | rfl | assumption)) ?_ | refine TS.still rfl (Wt.none rfl) rfl rfl (Yv.loadS 2 rfl rfl rfl (by first | rfl | assumption)) ?_ | refine TS.still rfl (Wt.none rfl) rfl rfl (Yv.loadS 3 rfl rfl rfl (by first | rfl | assumption)) ?_
      refine TS.still rfl (Wt.none rfl) rfl rfl (Yv.pur rfl) ?_
      first | refine TS.still rfl (Wt.none rfl) rfl rfl (Yv.indexSl rfl rfl rfl (show (0 : Int) = ((0 : Nat) : Int) from rfl) (by omega)) ?_ | refine TS.still rfl (Wt.none rfl) rfl rfl (Yv.indexAr rfl rfl rfl (show (0 : Int) = ((0 : Nat) : Int) from rfl) (by decide)) ?_
      first | refine TS.still rfl (Wt.none rfl) rfl rfl (Yv.loadO 0 rfl rfl rfl rfl) ?_ | refine TS.still rfl (Wt.none rfl) rfl rfl (Yv.loadO 1 rfl rfl rfl rfl) ?_ | refine TS.still rfl (Wt.none rfl) rfl rfl (Yv.loadO 2 rfl rfl rfl rfl) ?_ | refine TS.still rfl (Wt.none rfl) rfl rfl (Yv.loadO 3 rfl rfl rfl rfl) ?_ | refine TS.still rfl (Wt.none rfl) rfl rfl (Yv.loadB rfl rfl (by assumption) (fun h => h)) ?_ | refine TS.still rfl (Wt.none rfl) rfl rfl (Yv.loadS 0 rfl rfl rfl (by first | rfl | assumption)) ?_ | refine TS.still rfl (Wt.none rfl) rfl rfl (Yv.loadS 1 rfl rfl rfl (by first | rfl | assumption)) ?_ | refine TS.still rfl (Wt.none rfl) rfl rfl (Yv.loadS 2 rfl rfl rfl (by first | rfl | assumption)) ?_ | refine TS.still rfl (Wt.none rfl) rfl rfl (Yv.loadS 3 rfl rfl rfl (by first | rfl | assumption)) ?_
      refine TS.eff ?_
      (refine TSo.ew rfl (Wt.none rfl) rfl rfl (Ew.callD rfl rfl rfl (fun w hw => at_ret v1 nb1 c1 k _ (hw.keepOk ok1) (by omega) hck1)) ?_; rintro _ _ ⟨rfl, rfl⟩; refine ⟨(by repeat (first | exact List.Sublist.refl _ | exact List.nil_sublist _ | refine List.Sublist.cons_cons _ ?_ | refine List.Sublist.cons _ ?_)), ?_⟩)
      refine TS.still rfl (Wt.none rfl) rfl rfl (Yv.pur rfl) ?_
      refine TS.still rfl (Wt.none rfl) rfl rfl (Yv.pur rfl) ?_
      refine TS.gsplit rfl rfl rfl rfl (fun h2 => ?_) (fun h2 => ?_)
      · have p2 := h2
        try simp only [decide_eq_true_eq, decide_eq_false_iff_not, Int.not_lt, Int.not_le, Bool.not_eq_true', Bool.not_eq_false', Decidable.not_not, Bool.and_eq_true, Bool.or_eq_true, Bool.and_eq_false_iff, Bool.or_eq_false_iff] at p2
        refine TS.stillOff rfl (Wt.not rfl rfl rfl h2) rfl rfl ?_
        refine TS.stillOff rfl (Wt.not rfl rfl rfl h2) rfl rfl ?_
        refine TS.stillOff rfl (Wt.not rfl rfl rfl h2) rfl rfl ?_
        refine TS.stillOff rfl (Wt.not rfl rfl rfl h2) rfl rfl ?_
        refine TS.stillOff rfl (Wt.not rfl rfl rfl h2) rfl rfl ?_
        refine TS.eff ?_
        refine TSo.off rfl (Wt.not rfl rfl rfl h2) rfl rfl ?_
        refine TS.stillOff rfl (Wt.not rfl rfl rfl h2) rfl rfl ?_
        refine TS.still rfl (Wt.none rfl) rfl rfl (Yv.pickT rfl rfl h2 rfl) ?_
        refine TS.done ?_
        refine K.seq ?_
        refine T.condT rfl rfl ?_
        refine T.region ?_
        refine TL.yv (Wt.none rfl) rfl rfl (Yv.pur rfl) ?_
        first | refine TL.yv (Wt.none rfl) rfl rfl (Yv.addI rfl rfl rfl (by omega)) ?_ | refine TL.yv (Wt.none rfl) rfl rfl (Yv.pur rfl) ?_
        refine TL.yv (Wt.none rfl) rfl rfl (Yv.pur rfl) ?_
        refine TL.nil ?_
        refine K.blk_normal ?_
        refine K.seq ?_
        refine T.region ?_
        refine TL.yv (Wt.none rfl) rfl rfl (Yv.pur rfl) ?_
        first | refine TL.yv (Wt.none rfl) rfl rfl (Yv.addI rfl rfl rfl (by omega)) ?_ | refine TL.yv (Wt.none rfl) rfl rfl (Yv.pur rfl) ?_
        refine TL.yv (Wt.none rfl) rfl rfl (Yv.pur rfl) ?_
        refine TL.nil ?_
        have hfk : f (k : Int) = false := by rw [hf k]; simp only [*, Bool.not_true, Bool.not_false, Bool.or_false, Bool.false_or, Bool.or_true, Bool.true_or, Bool.and_false, Bool.false_and, Bool.true_and, Bool.and_true, Bool.or_self, Bool.and_self, Bool.not_not, decide_true, decide_false, not_true_eq_false, not_false_eq_true, cond_true, cond_false]
        have hkL : k < L := by rcases Nat.lt_or_ge k L with e | e; exact e; rw [hL k e] at hfk; cases hfk
        exact K.next (k + 1, k + 1) ⟨by dsimp only; omega, fun u a b => by dsimp only at a b; omega, fun r a b => by dsimp only at b; rcases (by omega : r < (s : Int) ∨ (s : Int) ≤ r) with e | e; exact hno r a e; exact free_no (by omega) (by omega) hfk⟩ (by dsimp only; omega) (by repeat (first | exact Sub.nil | refine Sub.cons rfl ?_)) (by repeat (first | exact List.Sublist.refl _ | exact List.nil_sublist _ | refine List.Sublist.cons_cons _ ?_ | refine List.Sublist.cons _ ?_))
      · have p2 := h2
        try simp only [decide_eq_true_eq, decide_eq_false_iff_not, Int.not_lt, Int.not_le, Bool.not_eq_true', Bool.not_eq_false', Decidable.not_not, Bool.and_eq_true, Bool.or_eq_true, Bool.and_eq_false_iff, Bool.or_eq_false_iff] at p2
        first | refine TS.still rfl (Wt.some rfl rfl rfl h2) rfl rfl (Yv.indexSl rfl rfl rfl (show (1 : Int) = ((1 : Nat) : Int) from rfl) (by omega)) ?_ | refine TS.still rfl (Wt.some rfl rfl rfl h2) rfl rfl (Yv.indexAr rfl rfl rfl (show (1 : Int) = ((1 : Nat) : Int) from rfl) (by decide)) ?_
        first | refine TS.still rfl (Wt.some rfl rfl rfl h2) rfl rfl (Yv.loadO 0 rfl rfl rfl rfl) ?_ | refine TS.still rfl (Wt.some rfl rfl rfl h2) rfl rfl (Yv.loadO 1 rfl rfl rfl rfl) ?_ | refine TS.still rfl (Wt.some rfl rfl rfl h2) rfl rfl (Yv.loadO 2 rfl rfl rfl rfl) ?_ | refine TS.still rfl (Wt.some rfl rfl rfl h2) rfl rfl (Yv.loadO 3 rfl rfl rfl rfl) ?_ | refine TS.still rfl (Wt.some rfl rfl rfl h2) rfl rfl (Yv.loadB rfl rfl (by assumption) (fun h => h)) ?_ | refine TS.still rfl (Wt.some rfl rfl rfl h2) rfl rfl (Yv.loadS 0 rfl rfl rfl (by first | rfl | assumption)) ?_ | refine TS.still rfl (Wt.some rfl rfl rfl h2) rfl rfl (Yv.loadS 1 rfl rfl rfl (by first | rfl | assumption)) ?_ | refine TS.still rfl (Wt.some rfl rfl rfl h2) rfl rfl (Yv.loadS 2 rfl rfl rfl (by first | rfl | assumption)) ?_ | refine TS.still rfl (Wt.some rfl rfl rfl h2) rfl rfl (Yv.loadS 3 rfl rfl rfl (by first | rfl | assumption)) ?_
        refine TS.still rfl (Wt.some rfl rfl rfl h2) rfl rfl (Yv.pur rfl) ?_
        first | refine TS.still rfl (Wt.some rfl rfl rfl h2) rfl rfl (Yv.indexSl rfl rfl rfl (show (1 : Int) = ((1 : Nat) : Int) from rfl) (by omega)) ?_ | refine TS.still rfl (Wt.some rfl rfl rfl h2) rfl rfl (Yv.indexAr rfl rfl rfl (show (1 : Int) = ((1 : Nat) : Int) from rfl) (by decide)) ?_
        first | refine TS.still rfl (Wt.some rfl rfl rfl h2) rfl rfl (Yv.loadO 0 rfl rfl rfl rfl) ?_ | refine TS.still rfl (Wt.some rfl rfl rfl h2) rfl rfl (Yv.loadO 1 rfl rfl rfl rfl) ?_ | refine TS.still rfl (Wt.some rfl rfl rfl h2) rfl rfl (Yv.loadO 2 rfl rfl rfl rfl) ?_ | refine TS.still rfl (Wt.some rfl rfl rfl h2) rfl rfl (Yv.loadO 3 rfl rfl rfl rfl) ?_ | refine TS.still rfl (Wt.some rfl rfl rfl h2) rfl rfl (Yv.loadB rfl rfl (by assumption) (fun h => h)) ?_ | refine TS.still rfl (Wt.some rfl rfl rfl h2) rfl rfl (Yv.loadS 0 rfl rfl rfl (by first | rfl | assumption)) ?_ | refine TS.still rfl (Wt.some rfl rfl rfl h2) rfl rfl (Yv.loadS 1 rfl rfl rfl (by first | rfl | assumption)) ?_ | refine TS.still rfl (Wt.some rfl rfl rfl h2) rfl rfl (Yv.loadS 2 rfl rfl rfl (by first | rfl | assumption)) ?_ | refine TS.still rfl (Wt.some rfl rfl rfl h2) rfl rfl (Yv.loadS 3 rfl rfl rfl (by first | rfl | assumption)) ?_
        refine TS.eff ?_
        (refine TSo.ew rfl (Wt.some rfl rfl rfl h2) rfl rfl (Ew.callD rfl rfl rfl (fun w hw => at_ret v2 nb2 c2 k _ (hw.keepOk ok2) (by omega) hck2)) ?_; rintro _ _ ⟨rfl, rfl⟩; refine ⟨(by repeat (first | exact List.Sublist.refl _ | exact List.nil_sublist _ | refine List.Sublist.cons_cons _ ?_ | refine List.Sublist.cons _ ?_)), ?_⟩)
        refine TS.still rfl (Wt.some rfl rfl rfl h2) rfl rfl (Yv.pur rfl) ?_
        refine TS.still rfl (Wt.none rfl) rfl rfl (Yv.pickF rfl rfl h2 rfl) ?_
        refine TS.done ?_
        refine K.seq ?_
        refine T.cond rfl (fun h3 => ?_) (fun h3 => ?_)
        · have p3 := h3
          try simp only [decide_eq_true_eq, decide_eq_false_iff_not, Int.not_lt, Int.not_le, Bool.not_eq_true', Bool.not_eq_false', Decidable.not_not, Bool.and_eq_true, Bool.or_eq_true, Bool.and_eq_false_iff, Bool.or_eq_false_iff] at p3
          refine T.region ?_
          refine TL.yv (Wt.none rfl) rfl rfl (Yv.pur rfl) ?_
          first | refine TL.yv (Wt.none rfl) rfl rfl (Yv.addI rfl rfl rfl (by omega)) ?_ | refine TL.yv (Wt.none rfl) rfl rfl (Yv.pur rfl) ?_
          refine TL.yv (Wt.none rfl) rfl rfl (Yv.pur rfl) ?_
          refine TL.nil ?_
          refine K.blk_normal ?_
          refine K.seq ?_
          refine T.region ?_
          refine TL.yv (Wt.none rfl) rfl rfl (Yv.pur rfl) ?_
          first | refine TL.yv (Wt.none rfl) rfl rfl (Yv.addI rfl rfl rfl (by omega)) ?_ | refine TL.yv (Wt.none rfl) rfl rfl (Yv.pur rfl) ?_
          refine TL.yv (Wt.none rfl) rfl rfl (Yv.pur rfl) ?_
          refine TL.nil ?_
          have hfk : f (k : Int) = false := by rw [hf k]; simp only [*, Bool.not_true, Bool.not_false, Bool.or_false, Bool.false_or, Bool.or_true, Bool.true_or, Bool.and_false, Bool.false_and, Bool.true_and, Bool.and_true, Bool.or_self, Bool.and_self, Bool.not_not, decide_true, decide_false, not_true_eq_false, not_false_eq_true, cond_true, cond_false]
          have hkL : k < L := by rcases Nat.lt_or_ge k L with e | e; exact e; rw [hL k e] at hfk; cases hfk
          exact K.next (k + 1, k + 1) ⟨by dsimp only; omega, fun u a b => by dsimp only at a b; omega, fun r a b => by dsimp only at b; rcases (by omega : r < (s : Int) ∨ (s : Int) ≤ r) with e | e; exact hno r a e; exact free_no (by omega) (by omega) hfk⟩ (by dsimp only; omega) (by repeat (first | exact Sub.nil | refine Sub.cons rfl ?_)) (by repeat (first | exact List.Sublist.refl _ | exact List.nil_sublist _ | refine List.Sublist.cons_cons _ ?_ | refine List.Sublist.cons _ ?_))
        · have p3 := h3
          try simp only [decide_eq_true_eq, decide_eq_false_iff_not, Int.not_lt, Int.not_le, Bool.not_eq_true', Bool.not_eq_false', Decidable.not_not, Bool.and_eq_true, Bool.or_eq_true, Bool.and_eq_false_iff, Bool.or_eq_false_iff] at p3
          refine T.skip ?_
          refine K.blk_normal ?_
          refine K.seq ?_
          refine T.region ?_
          refine TL.yv (Wt.none rfl) rfl rfl (Yv.pur rfl) ?_
          first | refine TL.yv (Wt.none rfl) rfl rfl (Yv.addI rfl rfl rfl (by omega)) ?_ | refine TL.yv (Wt.none rfl) rfl rfl (Yv.pur rfl) ?_
          refine TL.yv (Wt.none rfl) rfl rfl (Yv.pur rfl) ?_
          refine TL.nil ?_
          have hfk : f (k : Int) = true := by rw [hf k]; simp only [*, Bool.not_true, Bool.not_false, Bool.or_false, Bool.false_or, Bool.or_true, Bool.true_or, Bool.and_false, Bool.false_and, Bool.true_and, Bool.and_true, Bool.or_self, Bool.and_self, Bool.not_not, decide_true, decide_false, not_true_eq_false, not_false_eq_true, cond_true, cond_false]
          exact K.next (s, k + 1) ⟨by dsimp only; omega, fun u a b => by dsimp only at a b; rcases (by omega : u < k ∨ u = k) with e | e; exact hall u a e; rw [e]; exact hfk, hno⟩ (by dsimp only; omega) (by repeat (first | exact Sub.nil | refine Sub.cons rfl ?_)) (by repeat (first | exact List.Sublist.refl _ | exact List.nil_sublist _ | refine List.Sublist.cons_cons _ ?_ | refine List.Sublist.cons _ ?_))
    · have p1 := h1
      try simp only [decide_eq_true_eq, decide_eq_false_iff_not, Int.not_lt, Int.not_le, Bool.not_eq_true', Bool.not_eq_false', Decidable.not_not, Bool.and_eq_true, Bool.or_eq_true, Bool.and_eq_false_iff, Bool.or_eq_false_iff] at p1
      refine T.exit ?_
      refine K.then_exit ?_
      refine K.then_exit ?_
      refine K.blk_exit_eq ?_
      refine K.seq ?_
      refine T.seq ?_
      refine T.region ?_
      refine TL.yv (Wt.none rfl) rfl rfl (Yv.pur rfl) ?_
      refine TL.yv (Wt.none rfl) rfl rfl (Yv.pur rfl) ?_
      refine TL.nil ?_
      refine K.seq ?_
      refine T.ret ?_
      exact K.ret1 rfl rfl (fun w' hw => ⟨s, ⟨⟨by omega, by rw [freeR]; exact range_true fun d hd => by rw [show (s : Int) + (d : Int) = ((s + d : Nat) : Int) from by omega]; exact hall (s + d) (by omega) (by omega), hno⟩, q3⟩, rfl, hw.sub (List.nil_sublist _)⟩)
end Go.Proofs.Ytphpmjnpjnmdmaa
