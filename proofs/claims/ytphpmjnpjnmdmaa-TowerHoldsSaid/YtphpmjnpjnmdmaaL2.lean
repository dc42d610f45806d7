/- The law TowerWorks. -/
import Derived.Test.YtphpmjnpjnmdmaaL1
set_option maxRecDepth 100000
set_option maxHeartbeats 4000000
set_option linter.unusedSimpArgs false
set_option linter.unusedVariables false
set_option linter.unusedSectionVars false
namespace Go.Proofs.Ytphpmjnpjnmdmaa
open Go.RowKit

def WPhi (xs : List Mv) (ts cs : List Si) (ws : List Wk) : Prop := (codeOf xs ts cs true = 0 → WInv xs ts cs ws ∧ ws.length = xs.length) ∧ (codeOf xs ts cs true ≠ 0 → ws = [])
theorem WPhi.unique {xs : List Mv} {ts cs : List Si} {ws ws' : List Wk} (h : WPhi xs ts cs ws) (h' : WPhi xs ts cs ws') : ws = ws' := by
  by_cases hco : codeOf xs ts cs true = 0
  · exact WInv.unique (h.1 hco).1 (h'.1 hco).1 (by rw [(h.1 hco).2, (h'.1 hco).2])
  · rw [h.2 hco, h'.2 hco]
theorem WPhi.len {xs : List Mv} {ts cs : List Si} {ws : List Wk} (h : WPhi xs ts cs ws) (hl : xs.length ≤ 9223372036854775807) : ws.length ≤ 9223372036854775807 := by
  by_cases hco : codeOf xs ts cs true = 0
  · rw [(h.1 hco).2]; exact hl
  · rw [h.2 hco]; simp
def boundV (xs : List Mv) (ts cs : List Si) : Int := if codeOf xs ts cs true = 0 then boundM xs ts cs else 0

theorem works_all (xs : List Mv) (ts cs : List Si) (v vt vc : Value) (w : World) (h : MovesAt w v xs) (ht : SitesAt w vt ts) (hcr : SitesAt w vc cs) (hl : xs.length ≤ 9223372036854775807) (hlt : ts.length ≤ 9223372036854775807) (hlc : cs.length ≤ 9223372036854775807) : Calls Try.prog 18 #[v, vt, vc] w fun e w' => ∃ x : Value × List Wk, WPhi xs ts cs x.2 ∧ e = .returned (.tuple #[x.1, .int .i64 (codeOf xs ts cs true)]) ∧ Hp w (fun _ => False) [.sl x.1 51 3 x.2.length (wcells x.2)] w' := by
  by_cases hco : codeOf xs ts cs true = 0
  · refine (works_ok xs ts cs v vt vc w h ht hcr hl hlt hlc hco).mono fun e w' ⟨x, h1, h2, h3⟩ => ⟨x, ⟨fun _ => h1, fun c => absurd hco c⟩, by rw [hco]; exact h2, h3⟩
  · refine (works_bad xs ts cs v vt vc w h ht hcr hl hlt hlc hco).mono fun e w' ⟨h1, h2⟩ => ⟨(.slice none 0 0, []), ⟨fun c => absurd c hco, fun _ => rfl⟩, h1, (Hp.of_below h2).slNil _ 3⟩
theorem refWorks_all (xs : List Mv) (ts cs : List Si) (v vt vc : Value) (w : World) (h : MovesAt w v xs) (ht : SitesAt w vt ts) (hcr : SitesAt w vc cs) (hl : xs.length ≤ 9223372036854775807) (hlt : ts.length ≤ 9223372036854775807) (hlc : cs.length ≤ 9223372036854775807) : Calls Try.prog 19 #[v, vt, vc] w fun e w' => ∃ x : Value × List Wk, WPhi xs ts cs x.2 ∧ e = .returned (.tuple #[x.1, .int .i64 (codeOf xs ts cs true)]) ∧ Hp w (fun _ => False) [.sl x.1 51 3 x.2.length (wcells x.2)] w' := by
  by_cases hco : codeOf xs ts cs true = 0
  · refine (refWorks_ok xs ts cs v vt vc w h ht hcr hl hlt hlc hco).mono fun e w' ⟨x, h1, h2, h3⟩ => ⟨x, ⟨fun _ => h1, fun c => absurd hco c⟩, by rw [hco]; exact h2, h3⟩
  · refine (refWorks_bad xs ts cs v vt vc w h ht hcr hl hlt hlc hco).mono fun e w' ⟨h1, h2⟩ => ⟨(.slice none 0 0, []), ⟨fun c => absurd c hco, fun _ => rfl⟩, h1, (Hp.of_below h2).slNil _ 3⟩
theorem bound_all (xs : List Mv) (ts cs : List Si) (v vt vc : Value) (w : World) (h : MovesAt w v xs) (ht : SitesAt w vt ts) (hcr : SitesAt w vc cs) (hl : xs.length ≤ 9223372036854775807) (hlt : ts.length ≤ 9223372036854775807) (hlc : cs.length ≤ 9223372036854775807) : Calls Try.prog 20 #[v, vt, vc] w fun e w' => e = .returned (.tuple #[.int .i64 (boundV xs ts cs), .int .i64 (codeOf xs ts cs true)]) ∧ Below w.heap.size w w' := by
  by_cases hco : codeOf xs ts cs true = 0
  · have := bound_ok xs ts cs v vt vc w h ht hcr hl hlt hlc hco
    rw [boundV, hco, if_pos rfl]; exact this
  · rw [boundV, if_neg hco]; exact bound_bad xs ts cs v vt vc w h ht hcr hl hlt hlc hco
theorem refBound_all (xs : List Mv) (ts cs : List Si) (v vt vc : Value) (w : World) (h : MovesAt w v xs) (ht : SitesAt w vt ts) (hcr : SitesAt w vc cs) (hl : xs.length ≤ 9223372036854775807) (hlt : ts.length ≤ 9223372036854775807) (hlc : cs.length ≤ 9223372036854775807) : Calls Try.prog 21 #[v, vt, vc] w fun e w' => e = .returned (.tuple #[.int .i64 (boundV xs ts cs), .int .i64 (codeOf xs ts cs true)]) ∧ Below w.heap.size w w' := by
  by_cases hco : codeOf xs ts cs true = 0
  · have := refBound_ok xs ts cs v vt vc w h ht hcr hl hlt hlc hco
    rw [boundV, hco, if_pos rfl]; exact this
  · rw [boundV, if_neg hco]; exact refBound_bad xs ts cs v vt vc w h ht hcr hl hlt hlc hco
theorem towerWorks_ret (xs : List Mv) (ts cs : List Si) (v vt vc : Value) (w : World) (h : MovesAt w v xs) (ht : SitesAt w vt ts) (hcr : SitesAt w vc cs) (hl : xs.length ≤ 9223372036854775807) (hlt : ts.length ≤ 9223372036854775807) (hlc : cs.length ≤ 9223372036854775807) (ks : List Wk) (vk : Value) (hks : WorksAt w vk ks) (hlk : ks.length ≤ 9223372036854775807) : Calls Try.prog 5 #[v, vt, vc, vk] w fun e w' => e = .returned (.bool true) ∧ Below w.heap.size w w' := by
  obtain ⟨Ak, capk, rfl, hslk⟩ := hks.op
  refine calls_T (M := fun _ => False) (hs := []) Try.func5 rfl rfl rfl (Hp.refl _ _) ?_
  refine T.seq ?_
  refine T.region ?_
  refine TL.yv (Wt.none rfl) rfl rfl (Yv.pur rfl) ?_
  refine TL.nil ?_
  refine K.seq ?_
  refine T.seq ?_
  refine T.seq ?_
  refine T.region ?_
  refine TL.yv (Wt.none rfl) rfl rfl (Yv.pur rfl) ?_
  refine TL.yv (Wt.none rfl) rfl rfl (Yv.pur rfl) ?_
  refine TL.yv (Wt.none rfl) rfl rfl (Yv.pur rfl) ?_
  (refine TL.ew (Wt.none rfl) rfl rfl (Ew.callD rfl rfl rfl (fun w hw => few_ret xs ts cs _ _ _ _ (h.kept hw) (ht.kept hw) (hcr.kept hw))) ?_; rintro _ _ ⟨rfl, rfl⟩)
  first | refine TL.yv (Wt.none rfl) rfl rfl (Yv.pur rfl) ?_ | refine TL.yv (Wt.none rfl) rfl rfl (Yv.not rfl rfl) ?_
  refine TL.yv (Wt.none rfl) rfl rfl (Yv.pur rfl) ?_
  refine TL.gsplit rfl rfl rfl (fun h1 => ?_) (fun h1 => ?_)
  · have p1 := h1
    try simp only [decide_eq_true_eq, decide_eq_false_iff_not, Int.not_lt, Int.not_le, Bool.not_eq_true', Bool.not_eq_false', Decidable.not_not, Bool.and_eq_true, Bool.or_eq_true, Bool.and_eq_false_iff, Bool.or_eq_false_iff] at p1
    refine TL.off (Wt.not rfl rfl rfl h1) rfl rfl ?_
    refine TL.off (Wt.not rfl rfl rfl h1) rfl rfl ?_
    refine TL.off (Wt.not rfl rfl rfl h1) rfl rfl ?_
    refine TL.yv (Wt.none rfl) rfl rfl (Yv.pickT rfl rfl h1 rfl) ?_
    refine TL.nil ?_
    refine K.seq ?_
    refine T.condT rfl rfl ?_
    refine T.seq ?_
    refine T.region ?_
    (refine TL.ew (Wt.none rfl) rfl rfl (Ew.callD rfl rfl rfl (fun w hw => known_ret _)) ?_; rintro _ _ ⟨rfl, rfl⟩)
    refine TL.yv (Wt.none rfl) rfl rfl (Yv.pur rfl) ?_
    refine TL.nil ?_
    refine K.seq ?_
    refine T.ret ?_
    refine K.then_ret ?_
    exact K.ret1 rfl rfl (fun w' hw => ⟨rfl, hw.isBelow⟩)
  · have p1 := h1
    try simp only [decide_eq_true_eq, decide_eq_false_iff_not, Int.not_lt, Int.not_le, Bool.not_eq_true', Bool.not_eq_false', Decidable.not_not, Bool.and_eq_true, Bool.or_eq_true, Bool.and_eq_false_iff, Bool.or_eq_false_iff] at p1
    refine TL.yv (Wt.some rfl rfl rfl h1) rfl rfl (Yv.pur rfl) ?_
    first | refine TL.yv (Wt.some rfl rfl rfl h1) rfl rfl (Yv.lenSl rfl rfl) ?_ | refine TL.yv (Wt.some rfl rfl rfl h1) rfl rfl (Yv.lenAr rfl) ?_
    refine TL.yv (Wt.some rfl rfl rfl h1) rfl rfl (Yv.pur rfl) ?_
    refine TL.yv (Wt.none rfl) rfl rfl (Yv.pickF rfl rfl h1 rfl) ?_
    refine TL.nil ?_
    refine K.seq ?_
    refine T.cond rfl (fun h2 => ?_) (fun h2 => ?_)
    · have p2 := h2
      try simp only [decide_eq_true_eq, decide_eq_false_iff_not, Int.not_lt, Int.not_le, Bool.not_eq_true', Bool.not_eq_false', Decidable.not_not, Bool.and_eq_true, Bool.or_eq_true, Bool.and_eq_false_iff, Bool.or_eq_false_iff] at p2
      refine T.seq ?_
      refine T.region ?_
      (refine TL.ew (Wt.none rfl) rfl rfl (Ew.callD rfl rfl rfl (fun w hw => known_ret _)) ?_; rintro _ _ ⟨rfl, rfl⟩)
      refine TL.yv (Wt.none rfl) rfl rfl (Yv.pur rfl) ?_
      refine TL.nil ?_
      refine K.seq ?_
      refine T.ret ?_
      refine K.then_ret ?_
      exact K.ret1 rfl rfl (fun w' hw => ⟨rfl, hw.isBelow⟩)
    · have p2 := h2
      try simp only [decide_eq_true_eq, decide_eq_false_iff_not, Int.not_lt, Int.not_le, Bool.not_eq_true', Bool.not_eq_false', Decidable.not_not, Bool.and_eq_true, Bool.or_eq_true, Bool.and_eq_false_iff, Bool.or_eq_false_iff] at p2
      refine T.skip ?_
      refine K.seq ?_
      refine T.seq ?_
      refine T.region ?_
      refine TL.yv (Wt.none rfl) rfl rfl (Yv.pur rfl) ?_
      refine TL.yv (Wt.none rfl) rfl rfl (Yv.pur rfl) ?_
      refine TL.yv (Wt.none rfl) rfl rfl (Yv.pur rfl) ?_
      (refine TL.ew (Wt.none rfl) rfl rfl (Ew.callH rfl rfl rfl (fun w hw => works_all xs ts cs _ _ _ _ (h.kept hw) (ht.kept hw) (hcr.kept hw) hl hlt hlc)) ?_; rintro _ _ ⟨⟨v32, w32⟩, hw32, rfl, rfl⟩)
      dsimp only [List.cons_append, List.nil_append] at hw32 ⊢
      refine TL.yv (Wt.none rfl) rfl rfl (Yv.pur rfl) ?_
      refine TL.yv (Wt.none rfl) rfl rfl (Yv.pur rfl) ?_
      refine TL.yv (Wt.none rfl) rfl rfl (Yv.pur rfl) ?_
      refine TL.yv (Wt.none rfl) rfl rfl (Yv.pur rfl) ?_
      refine TL.yv (Wt.none rfl) rfl rfl (Yv.pur rfl) ?_
      refine TL.nil ?_
      refine K.seq ?_
      refine T.seq ?_
      refine T.region ?_
      refine TL.yv (Wt.none rfl) rfl rfl (Yv.pur rfl) ?_
      refine TL.yv (Wt.none rfl) rfl rfl (Yv.pur rfl) ?_
      refine TL.yv (Wt.none rfl) rfl rfl (Yv.pur rfl) ?_
      (refine TL.ew (Wt.none rfl) rfl rfl (Ew.callH rfl rfl rfl (fun w hw => refWorks_all xs ts cs _ _ _ _ (h.kept hw) (ht.kept hw) (hcr.kept hw) hl hlt hlc)) ?_; rintro _ _ ⟨⟨v39, w39⟩, hw39, rfl, rfl⟩)
      dsimp only [List.cons_append, List.nil_append] at hw39 ⊢
      obtain rfl := WPhi.unique hw32 hw39
      refine TL.yv (Wt.none rfl) rfl rfl (Yv.pur rfl) ?_
      refine TL.yv (Wt.none rfl) rfl rfl (Yv.pur rfl) ?_
      refine TL.yv (Wt.none rfl) rfl rfl (Yv.pur rfl) ?_
      refine TL.yv (Wt.none rfl) rfl rfl (Yv.pur rfl) ?_
      refine TL.yv (Wt.none rfl) rfl rfl (Yv.pur rfl) ?_
      refine TL.nil ?_
      refine K.seq ?_
      refine T.seq ?_
      refine T.region ?_
      refine TL.yv (Wt.none rfl) rfl rfl (Yv.pur rfl) ?_
      refine TL.yv (Wt.none rfl) rfl rfl (Yv.pur rfl) ?_
      refine TL.yv (Wt.none rfl) rfl rfl (Yv.pur rfl) ?_
      (refine TL.ew (Wt.none rfl) rfl rfl (Ew.callD rfl rfl rfl (fun w hw => bound_all xs ts cs _ _ _ _ (h.kept hw) (ht.kept hw) (hcr.kept hw) hl hlt hlc)) ?_; rintro _ _ ⟨rfl, rfl⟩)
      refine TL.yv (Wt.none rfl) rfl rfl (Yv.pur rfl) ?_
      refine TL.yv (Wt.none rfl) rfl rfl (Yv.pur rfl) ?_
      refine TL.yv (Wt.none rfl) rfl rfl (Yv.pur rfl) ?_
      refine TL.yv (Wt.none rfl) rfl rfl (Yv.pur rfl) ?_
      refine TL.yv (Wt.none rfl) rfl rfl (Yv.pur rfl) ?_
      refine TL.nil ?_
      refine K.seq ?_
      refine T.seq ?_
      refine T.region ?_
      refine TL.yv (Wt.none rfl) rfl rfl (Yv.pur rfl) ?_
      refine TL.yv (Wt.none rfl) rfl rfl (Yv.pur rfl) ?_
      refine TL.yv (Wt.none rfl) rfl rfl (Yv.pur rfl) ?_
      (refine TL.ew (Wt.none rfl) rfl rfl (Ew.callD rfl rfl rfl (fun w hw => refBound_all xs ts cs _ _ _ _ (h.kept hw) (ht.kept hw) (hcr.kept hw) hl hlt hlc)) ?_; rintro _ _ ⟨rfl, rfl⟩)
      refine TL.yv (Wt.none rfl) rfl rfl (Yv.pur rfl) ?_
      refine TL.yv (Wt.none rfl) rfl rfl (Yv.pur rfl) ?_
      refine TL.yv (Wt.none rfl) rfl rfl (Yv.pur rfl) ?_
      refine TL.yv (Wt.none rfl) rfl rfl (Yv.pur rfl) ?_
      refine TL.yv (Wt.none rfl) rfl rfl (Yv.pur rfl) ?_
      refine TL.nil ?_
      refine K.seq ?_
      refine T.seq ?_
      refine T.region ?_
      refine TL.yv (Wt.none rfl) rfl rfl (Yv.pur rfl) ?_
      refine TL.yv (Wt.none rfl) rfl rfl (Yv.pur rfl) ?_
      (refine TL.ew (Wt.none rfl) rfl rfl (Ew.callD rfl rfl rfl (fun w hw => retTo (.bool true) (by simp) (same_ret w32 w32 _ _ _ (SlOf.ownAt wk3 hw 1 rfl rfl) (SlOf.ownAt wk3 hw 0 rfl rfl) (hw32.len hl)))) ?_; rintro _ _ ⟨rfl, rfl⟩)
      refine TL.yv (Wt.none rfl) rfl rfl (Yv.pur rfl) ?_
      refine TL.yv (Wt.some rfl rfl rfl rfl) rfl rfl (Yv.pur rfl) ?_
      refine TL.yv (Wt.some rfl rfl rfl rfl) rfl rfl (Yv.pur rfl) ?_
      first | refine TL.yv (Wt.some rfl rfl rfl rfl) rfl rfl (Yv.pur rfl) ?_ | refine TL.yv (Wt.some rfl rfl rfl rfl) rfl rfl (Yv.eqB rfl rfl rfl rfl) ?_
      refine TL.yv (Wt.none rfl) rfl rfl (Yv.pickT rfl rfl rfl rfl) ?_
      refine TL.yv (Wt.none rfl) rfl rfl (Yv.pur rfl) ?_
      refine TL.yv (Wt.some rfl rfl rfl (by simp)) rfl rfl (Yv.pur rfl) ?_
      refine TL.yv (Wt.some rfl rfl rfl (by simp)) rfl rfl (Yv.pur rfl) ?_
      first | refine TL.yv (Wt.some rfl rfl rfl (by simp)) rfl rfl (Yv.pur rfl) ?_ | refine TL.yv (Wt.some rfl rfl rfl (by simp)) rfl rfl (Yv.eqB rfl rfl rfl rfl) ?_
      refine TL.yv (Wt.none rfl) rfl rfl (Yv.pickT rfl rfl (by simp) rfl) ?_
      refine TL.yv (Wt.none rfl) rfl rfl (Yv.pur rfl) ?_
      refine TL.yv (Wt.some rfl rfl rfl (by simp)) rfl rfl (Yv.pur rfl) ?_
      refine TL.yv (Wt.some rfl rfl rfl (by simp)) rfl rfl (Yv.pur rfl) ?_
      first | refine TL.yv (Wt.some rfl rfl rfl (by simp)) rfl rfl (Yv.pur rfl) ?_ | refine TL.yv (Wt.some rfl rfl rfl (by simp)) rfl rfl (Yv.eqB rfl rfl rfl rfl) ?_
      refine TL.yv (Wt.none rfl) rfl rfl (Yv.pickT rfl rfl (by simp) rfl) ?_
      refine TL.yv (Wt.none rfl) rfl rfl (Yv.pur rfl) ?_
      refine TL.yv (Wt.some rfl rfl rfl (by simp)) rfl rfl (Yv.pur rfl) ?_
      (refine TL.ew (Wt.some rfl rfl rfl (by simp)) rfl rfl (Ew.callD rfl rfl rfl (fun w hw => length_ret w32 _ _ (SlOf.ownAt wk3 hw 1 rfl rfl) (hw32.len hl))) ?_; rintro _ _ ⟨rfl, rfl⟩)
      refine TL.yv (Wt.some rfl rfl rfl (by simp)) rfl rfl (Yv.pur rfl) ?_
      (refine TL.ew (Wt.some rfl rfl rfl (by simp)) rfl rfl (Ew.callD rfl rfl rfl (fun w hw => refLength_ret w32 _ _ (SlOf.ownAt wk3 hw 0 rfl rfl) (hw32.len hl))) ?_; rintro _ _ ⟨rfl, rfl⟩)
      first | refine TL.yv (Wt.some rfl rfl rfl (by simp)) rfl rfl (Yv.pur rfl) ?_ | refine TL.yv (Wt.some rfl rfl rfl (by simp)) rfl rfl (Yv.eqB rfl rfl rfl rfl) ?_
      refine TL.yv (Wt.none rfl) rfl rfl (Yv.pickT rfl rfl (by simp) rfl) ?_
      refine TL.yv (Wt.none rfl) rfl rfl (Yv.pur rfl) ?_
      refine TL.yv (Wt.some rfl rfl rfl (by simp)) rfl rfl (Yv.pur rfl) ?_
      (refine TL.ew (Wt.some rfl rfl rfl (by simp)) rfl rfl (Ew.callD rfl rfl rfl (fun w hw => length_ret ks _ _ (hks.kept hw) hlk)) ?_; rintro _ _ ⟨rfl, rfl⟩)
      refine TL.yv (Wt.some rfl rfl rfl (by simp)) rfl rfl (Yv.pur rfl) ?_
      (refine TL.ew (Wt.some rfl rfl rfl (by simp)) rfl rfl (Ew.callD rfl rfl rfl (fun w hw => refLength_ret ks _ _ (hks.kept hw) hlk)) ?_; rintro _ _ ⟨rfl, rfl⟩)
      first | refine TL.yv (Wt.some rfl rfl rfl (by simp)) rfl rfl (Yv.pur rfl) ?_ | refine TL.yv (Wt.some rfl rfl rfl (by simp)) rfl rfl (Yv.eqB rfl rfl rfl rfl) ?_
      refine TL.yv (Wt.none rfl) rfl rfl (Yv.pickT rfl rfl (by simp) rfl) ?_
      refine TL.yv (Wt.none rfl) rfl rfl (Yv.pur rfl) ?_
      (refine TL.ew (Wt.some rfl rfl rfl (by simp)) rfl rfl (Ew.callD rfl rfl rfl (fun w hw => known_ret _)) ?_; rintro _ _ ⟨rfl, rfl⟩)
      refine TL.yv (Wt.none rfl) rfl rfl (Yv.pickT rfl rfl (by simp) rfl) ?_
      refine TL.yv (Wt.none rfl) rfl rfl (Yv.pur rfl) ?_
      refine TL.nil ?_
      refine K.seq ?_
      refine T.ret ?_
      exact K.ret1 rfl rfl (fun w' hw => ⟨rfl, hw.isBelow⟩)
end Go.Proofs.Ytphpmjnpjnmdmaa
