/- The plain law of stage 37, and the walk of the law ClosingHolds. -/
import Derived.Test.YtijcajfeefjalaaE
namespace Go.Proofs.Ytijcajfeefjalaa
open Go.ChangeShapes Go.WideShapes Go.ChangeAt Go.RowKit
set_option maxHeartbeats 400000

theorem missOk_bd {f b c u p : Int} (h : missOk f b c u p = true) : neededOk f b c u = true ∧ 0 ≤ p ∧ p ≤ 1125899906842624 := by
  simpa [missOk, inB] using h
theorem met_iff {f b c u p : Int} (h : missOk f b c u p = true) : metB f b c u p = true ↔ neededV f b c u ≤ p := by
  simp [metB, missV, h]; omega
theorem missZero_iff {f b c u p : Int} (h : missOk f b c u p = true) : (missV f b c u p == 0) = metB f b c u p := by
  simp [metB, h]
theorem met_cost {f b c u p : Int} (h : missOk f b c u p = true) (hm : metB f b c u p = true) : c ≤ p := by
  have h1 := (met_iff h).1 hm
  obtain ⟨h2, _, _⟩ := missOk_bd h
  obtain ⟨g1, g2, g3, g4⟩ := neededOk_bd h2
  rw [neededV_ok h2] at h1
  omega
theorem raise_zero {f b c u p : Int} (h : missOk f b c u p = true) : (raiseE f b c u p == 0 && raiseV f b c u p == 0) = metB f b c u p := by
  rw [Bool.eq_iff_iff, met_iff h]
  by_cases hn : neededV f b c u ≤ p
  · have : raiseFind p (neededV f b c u) 1001 0 = some 0 := raiseFind_yes (by simp; omega)
    obtain ⟨e1, e2⟩ := raise_fin 0 h this
    simp [e1, e2, hn]
  · simp only [hn, iff_false, Bool.not_eq_true]
    have hno : raiseFind p (neededV f b c u) 1001 0 = raiseFind p (neededV f b c u) 1000 1 := raiseFind_no (by simp; omega)
    have aux : ∀ fuel k r, raiseFind p (neededV f b c u) fuel k = some r → k ≤ r := by
      intro fuel
      induction fuel with
      | zero => intro k r h; simp [raiseFind] at h
      | succ n ih =>
        intro k r h
        unfold raiseFind at h
        split at h
        · have := Option.some.inj h; omega
        · have := ih _ _ h; omega
    cases hr : raiseFind p (neededV f b c u) 1001 0 with
    | none => obtain ⟨e1, e2⟩ := raise_fin9 h hr; simp [e1, e2]
    | some r =>
      obtain ⟨e1, e2⟩ := raise_fin r h hr
      rw [hno] at hr
      have := aux _ _ _ hr
      simp [e1, e2]; omega
theorem raiseE_09 {f b c u p : Int} (h : missOk f b c u p = true) : raiseE f b c u p = 0 ∨ raiseE f b c u p = 9 := by
  cases hr : raiseFind p (neededV f b c u) 1001 0 with
  | none => exact .inr (raise_fin9 h hr).2
  | some r => exact .inl (raise_fin r h hr).2
theorem met_still {f b c u p c' u' p' : Int} (h : missOk f b c u p = true) (hm : metB f b c u p = true) (hc : c' ≤ c) (hu : u' ≤ u) (hp : p ≤ p') (h' : missOk f b c' u' p' = true) : metB f b c' u' p' = true := by
  rw [met_iff h']
  have h1 := (met_iff h).1 hm
  obtain ⟨h2, _, _⟩ := missOk_bd h
  obtain ⟨h2', _, _⟩ := missOk_bd h'
  obtain ⟨g1, g2, g3, g4⟩ := neededOk_bd h2
  rw [neededV_ok h2] at h1
  rw [neededV_ok h2']
  have := Int.mul_le_mul_of_nonneg_left hu g2.1
  omega
theorem missE_no {f b c u p : Int} (h : missOk f b c u p = false) : missE f b c u p = 2 ∧ metB f b c u p = false := by simp [missE, metB, h]
theorem missE_yes {f b c u p : Int} (h : missOk f b c u p = true) : missE f b c u p = 0 := by simp [missE, h]

/-- What the four calls at one input come to. -/
theorem holds_cases {f b c u p : Int} (h : missOk f b c u p = true) :
    (metB f b c u p = true ∧ missV f b c u p = 0 ∧ raiseE f b c u p = 0 ∧ raiseV f b c u p = 0 ∧ c ≤ p) ∨
    (metB f b c u p = false ∧ (missV f b c u p == 0) = false ∧ raiseE f b c u p = 0 ∧ (raiseV f b c u p == 0) = false) ∨
    (metB f b c u p = false ∧ (missV f b c u p == 0) = false ∧ raiseE f b c u p = 9) := by
  have h1 := missZero_iff h
  have h2 := raise_zero h
  cases hm : metB f b c u p with
  | true =>
    rw [hm] at h1 h2
    simp at h1 h2
    exact .inl ⟨rfl, h1, h2.1, h2.2, met_cost h hm⟩
  | false =>
    rw [hm] at h1 h2
    rcases raiseE_09 h with h3 | h3
    · rw [h3] at h2
      exact .inr (.inl ⟨rfl, h1, h3, by simpa using h2⟩)
    · exact .inr (.inr ⟨rfl, h1, h3⟩)

set_option maxHeartbeats 2000000 in
set_option maxRecDepth 100000 in
theorem holds_walk (f b c u p more less fewer : Int) (w : World) :
    Calls Try.prog 6 #[.agg #[.int .i64 f, .int .i64 b], .int .i64 c, .int .i64 u, .int .i64 p, .int .i64 more, .int .i64 less, .int .i64 fewer] w fun e w' => e = .returned (.bool true) ∧ Below w.heap.size w w' := by
  go_enter Try.func6, Try.ntmps6
  go_wp2_with fail
  refine (progMet _ _ _ _ _ _).mono ?_
  rintro e w1 ⟨rfl, hb⟩
  have b1 := Boxed.next (Boxed.first w f b) hb
  have c0 := b1.c0
  have c1 := b1.c1
  clear hb
  cases hok : missOk f b c u p
  · obtain ⟨e1, e2⟩ := missE_no hok
    rw [e1, e2]
    clear e1 e2 hok
    go_wp2_with fail
    refine (known_any _).mono ?_
    rintro e w2 ⟨rfl, hb⟩
    go_wp2_with fail
    go_ret
    exact ⟨rfl, (b1.next hb).below⟩
  · rw [missE_yes hok]
    have hE := Lib.hid (missE_yes hok)
    have hst := Lib.hid (fun (h : metB f b c u p = true) (h1 : less ≤ c) (h2 : fewer ≤ u) (h3 : p ≤ more) => @met_still f b c u p less fewer more hok h h1 h2 h3)
    have hcs := Lib.hid (holds_cases hok)
    clear hok
    generalize hg1 : metB f b c u p = is at *
    generalize hg2 : missV f b c u p = n at *
    generalize hg3 : raiseE f b c u p = g at *
    generalize hg4 : raiseV f b c u p = r at *
    have G2 := Lib.hid hg2
    have G3 := Lib.hid hg3
    have G4 := Lib.hid hg4
    clear hg1 hg2 hg3 hg4
    rcases hcs.out with ⟨rfl, rfl, rfl, rfl, e5⟩ | ⟨rfl, e2, rfl, e4⟩ | ⟨rfl, e2, rfl⟩
    all_goals
      clear hcs
      go_wp2_with fail
      clear c0 c1
      refine (progMissing _ _ _ _ _ _).mono ?_
      rintro e w2 ⟨rfl, hb⟩
      have b2 := Boxed.next b1 hb
      have c0 := b2.c0
      have c1 := b2.c1
      clear hb b1
      rw [hE.out, G2.out]
      go_wp2_with fail
      clear c0 c1
      refine (progRaise _ _ _ _ _ _).mono ?_
      rintro e w3 ⟨rfl, hb⟩
      have b3 := Boxed.next b2 hb
      have c0 := b3.c0
      have c1 := b3.c1
      clear hb b2
      rw [G3.out, G4.out]
      by_cases h1 : more < p
      · go_wp2_with fail
        refine (known_any _).mono ?_
        rintro e w4 ⟨rfl, hb⟩
        go_wp2_with fail
        go_ret
        exact ⟨rfl, (b3.next hb).below⟩
      by_cases h2 : c < less
      · go_wp2_with fail
        refine (known_any _).mono ?_
        rintro e w4 ⟨rfl, hb⟩
        go_wp2_with fail
        go_ret
        exact ⟨rfl, (b3.next hb).below⟩
      by_cases h3 : u < fewer
      · go_wp2_with fail
        refine (known_any _).mono ?_
        rintro e w4 ⟨rfl, hb⟩
        go_wp2_with fail
        go_ret
        exact ⟨rfl, (b3.next hb).below⟩
      go_wp2_with fail
      clear c0 c1
      refine (progMet _ _ _ _ _ _).mono ?_
      rintro e w4 ⟨rfl, hb⟩
      have b4 := Boxed.next b3 hb
      clear hb b3
      cases hk : missOk f b less fewer more
      · obtain ⟨e1, e2⟩ := missE_no hk
        rw [e1, e2]
        clear e1 e2 hk
        go_wp2_with fail
        refine (known_any _).mono ?_
        rintro e w5 ⟨rfl, hb⟩
        go_wp2_with fail
        go_ret
        exact ⟨rfl, (b4.next hb).below⟩
      · rw [missE_yes hk]
        have HS := fun h => hst.out h (by omega) (by omega) (by omega) hk
        clear hk
        generalize metB f b less fewer more = still at *
        cases still
        · first
            | (refine absurd (HS ?_) Bool.false_ne_true; trivial)
            | (clear HS
               go_wp2_with fail
               refine (known_any _).mono ?_
               rintro e w5 ⟨rfl, hb⟩
               go_wp2_with fail
               go_ret
               exact ⟨rfl, (b4.next hb).below⟩)
        · clear HS
          go_wp2_with fail
          refine (known_any _).mono ?_
          rintro e w5 ⟨rfl, hb⟩
          go_wp2_with fail
          go_ret
          exact ⟨rfl, (b4.next hb).below⟩
end Go.Proofs.Ytijcajfeefjalaa
