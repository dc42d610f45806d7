/- The law TowerFits. -/
import Derived.Test.YtphpmjnpjnmdmaaK8
set_option maxRecDepth 100000
set_option maxHeartbeats 4000000
set_option linter.unusedSimpArgs false
set_option linter.unusedVariables false
set_option linter.unusedSectionVars false
namespace Go.Proofs.Ytphpmjnpjnmdmaa
open Go.RowKit

def fitsV (xs : List Mv) (ts cs : List Si) (limit : Int) : Bool := if codeOf xs ts cs (decide (0 ≤ limit)) = 0 then fitsM xs ts cs && decide ((xs.length : Int) ≤ limit) else false

theorem fits_all (xs : List Mv) (ts cs : List Si) (v vt vc : Value) (limit : Int) (w : World) (h : MovesAt w v xs) (ht : SitesAt w vt ts) (hcr : SitesAt w vc cs) (hl : xs.length ≤ 9223372036854775807) (hlt : ts.length ≤ 9223372036854775807) (hlc : cs.length ≤ 9223372036854775807) : Calls Try.prog 16 #[v, vt, vc, .int .i64 limit] w fun e w' => e = .returned (.tuple #[.bool (fitsV xs ts cs limit), .int .i64 (codeOf xs ts cs (decide (0 ≤ limit)))]) ∧ Below w.heap.size w w' := by
  by_cases hco : codeOf xs ts cs (decide (0 ≤ limit)) = 0
  · have := fits_ok xs ts cs v vt vc limit w h ht hcr hl hlt hlc hco
    rw [fitsV, hco, if_pos rfl]; exact this
  · rw [fitsV, if_neg hco]; exact fits_bad xs ts cs v vt vc limit w h ht hcr hl hlt hlc hco
theorem refFits_all (xs : List Mv) (ts cs : List Si) (v vt vc : Value) (limit : Int) (w : World) (h : MovesAt w v xs) (ht : SitesAt w vt ts) (hcr : SitesAt w vc cs) (hl : xs.length ≤ 9223372036854775807) (hlt : ts.length ≤ 9223372036854775807) (hlc : cs.length ≤ 9223372036854775807) (hb : xs.length ≤ 1000000) : Calls Try.prog 17 #[v, vt, vc, .int .i64 limit] w fun e w' => e = .returned (.tuple #[.bool (fitsV xs ts cs limit), .int .i64 (codeOf xs ts cs (decide (0 ≤ limit)))]) ∧ Below w.heap.size w w' := by
  by_cases hco : codeOf xs ts cs (decide (0 ≤ limit)) = 0
  · have := refFits_ok xs ts cs v vt vc limit w h ht hcr hl hlt hlc hb hco
    rw [fitsV, hco, if_pos rfl]; exact this
  · rw [fitsV, if_neg hco]; exact refFits_bad xs ts cs v vt vc limit w h ht hcr hl hlt hlc hb hco
theorem towerFits_ret (xs : List Mv) (ts cs : List Si) (v vt vc : Value) (limit : Int) (w : World) (h : MovesAt w v xs) (ht : SitesAt w vt ts) (hcr : SitesAt w vc cs) (hl : xs.length ≤ 9223372036854775807) (hlt : ts.length ≤ 9223372036854775807) (hlc : cs.length ≤ 9223372036854775807) : Calls Try.prog 4 #[v, vt, vc, .int .i64 limit] w fun e w' => e = .returned (.bool true) ∧ Below w.heap.size w w' := by
  refine calls_T (M := fun _ => False) (hs := []) Try.func4 rfl rfl rfl (Hp.refl _ _) ?_
  refine T.seq ?_
  refine T.region ?_
  refine TL.yv (Wt.none rfl) rfl rfl (Yv.pur rfl) ?_
  refine TL.nil ?_
  refine K.seq ?_
  refine T.seq ?_
  refine T.seq ?_
  refine T.region ?_
  refine TL.yv (Wt.none rfl) rfl rfl (Yv.pur rfl) ?_
  refine TL.yv (Wt.none rfl) rfl rfl (Yv.pur rfl) ?_
  refine TL.yv (Wt.none rfl) rfl rfl (Yv.pur rfl) ?_
  (refine TL.ew (Wt.none rfl) rfl rfl (Ew.callD rfl rfl rfl (fun w hw => few_ret xs ts cs _ _ _ _ (h.kept hw) (ht.kept hw) (hcr.kept hw))) ?_; rintro _ _ ⟨rfl, rfl⟩)
  first | refine TL.yv (Wt.none rfl) rfl rfl (Yv.pur rfl) ?_ | refine TL.yv (Wt.none rfl) rfl rfl (Yv.not rfl rfl) ?_
  refine TL.nil ?_
  refine K.seq ?_
  refine T.cond rfl (fun h1 => ?_) (fun h1 => ?_)
  · have p1 := h1
    try simp only [decide_eq_true_eq, decide_eq_false_iff_not, Int.not_lt, Int.not_le, Bool.not_eq_true', Bool.not_eq_false', Decidable.not_not, Bool.and_eq_true, Bool.or_eq_true, Bool.and_eq_false_iff, Bool.or_eq_false_iff] at p1
    refine T.seq ?_
    refine T.region ?_
    (refine TL.ew (Wt.none rfl) rfl rfl (Ew.callD rfl rfl rfl (fun w hw => known_ret _)) ?_; rintro _ _ ⟨rfl, rfl⟩)
    refine TL.yv (Wt.none rfl) rfl rfl (Yv.pur rfl) ?_
    refine TL.nil ?_
    refine K.seq ?_
    refine T.ret ?_
    refine K.then_ret ?_
    exact K.ret1 rfl rfl (fun w' hw => ⟨rfl, hw.isBelow⟩)
  · have p1 := h1
    try simp only [decide_eq_true_eq, decide_eq_false_iff_not, Int.not_lt, Int.not_le, Bool.not_eq_true', Bool.not_eq_false', Decidable.not_not, Bool.and_eq_true, Bool.or_eq_true, Bool.and_eq_false_iff, Bool.or_eq_false_iff] at p1
    have hb : xs.length ≤ 1000000 := by have e := h1; simp [fewB] at e; omega
    refine T.skip ?_
    refine K.seq ?_
    refine T.seq ?_
    refine T.region ?_
    refine TL.yv (Wt.none rfl) rfl rfl (Yv.pur rfl) ?_
    refine TL.yv (Wt.none rfl) rfl rfl (Yv.pur rfl) ?_
    refine TL.yv (Wt.none rfl) rfl rfl (Yv.pur rfl) ?_
    refine TL.yv (Wt.none rfl) rfl rfl (Yv.pur rfl) ?_
    (refine TL.ew (Wt.none rfl) rfl rfl (Ew.callD rfl rfl rfl (fun w hw => fits_all xs ts cs _ _ _ limit _ (h.kept hw) (ht.kept hw) (hcr.kept hw) hl hlt hlc)) ?_; rintro _ _ ⟨rfl, rfl⟩)
    refine TL.yv (Wt.none rfl) rfl rfl (Yv.pur rfl) ?_
    refine TL.yv (Wt.none rfl) rfl rfl (Yv.pur rfl) ?_
    refine TL.yv (Wt.none rfl) rfl rfl (Yv.pur rfl) ?_
    refine TL.yv (Wt.none rfl) rfl rfl (Yv.pur rfl) ?_
    refine TL.yv (Wt.none rfl) rfl rfl (Yv.pur rfl) ?_
    refine TL.nil ?_
    refine K.seq ?_
    refine T.seq ?_
    refine T.region ?_
    refine TL.yv (Wt.none rfl) rfl rfl (Yv.pur rfl) ?_
    refine TL.yv (Wt.none rfl) rfl rfl (Yv.pur rfl) ?_
    refine TL.yv (Wt.none rfl) rfl rfl (Yv.pur rfl) ?_
    refine TL.yv (Wt.none rfl) rfl rfl (Yv.pur rfl) ?_
    (refine TL.ew (Wt.none rfl) rfl rfl (Ew.callD rfl rfl rfl (fun w hw => refFits_all xs ts cs _ _ _ limit _ (h.kept hw) (ht.kept hw) (hcr.kept hw) hl hlt hlc hb)) ?_; rintro _ _ ⟨rfl, rfl⟩)
    refine TL.yv (Wt.none rfl) rfl rfl (Yv.pur rfl) ?_
    refine TL.yv (Wt.none rfl) rfl rfl (Yv.pur rfl) ?_
    refine TL.yv (Wt.none rfl) rfl rfl (Yv.pur rfl) ?_
    refine TL.yv (Wt.none rfl) rfl rfl (Yv.pur rfl) ?_
    refine TL.yv (Wt.none rfl) rfl rfl (Yv.pur rfl) ?_
    refine TL.nil ?_
    refine K.seq ?_
    refine T.seq ?_
    refine T.region ?_
    refine TL.yv (Wt.none rfl) rfl rfl (Yv.pur rfl) ?_
    refine TL.yv (Wt.none rfl) rfl rfl (Yv.pur rfl) ?_
    first | refine TL.yv (Wt.none rfl) rfl rfl (Yv.pur rfl) ?_ | refine TL.yv (Wt.none rfl) rfl rfl (Yv.eqB rfl rfl rfl rfl) ?_
    refine TL.yv (Wt.none rfl) rfl rfl (Yv.pur rfl) ?_
    refine TL.yv (Wt.some rfl rfl rfl (by simp)) rfl rfl (Yv.pur rfl) ?_
    refine TL.yv (Wt.some rfl rfl rfl (by simp)) rfl rfl (Yv.pur rfl) ?_
    first | refine TL.yv (Wt.some rfl rfl rfl (by simp)) rfl rfl (Yv.pur rfl) ?_ | refine TL.yv (Wt.some rfl rfl rfl (by simp)) rfl rfl (Yv.eqB rfl rfl rfl rfl) ?_
    refine TL.yv (Wt.none rfl) rfl rfl (Yv.pickT rfl rfl (by simp) rfl) ?_
    refine TL.yv (Wt.none rfl) rfl rfl (Yv.pur rfl) ?_
    (refine TL.ew (Wt.some rfl rfl rfl (by simp)) rfl rfl (Ew.callD rfl rfl rfl (fun w hw => known_ret _)) ?_; rintro _ _ ⟨rfl, rfl⟩)
    refine TL.yv (Wt.none rfl) rfl rfl (Yv.pickT rfl rfl (by simp) rfl) ?_
    refine TL.yv (Wt.none rfl) rfl rfl (Yv.pur rfl) ?_
    refine TL.nil ?_
    refine K.seq ?_
    refine T.ret ?_
    exact K.ret1 rfl rfl (fun w' hw => ⟨rfl, hw.isBelow⟩)
end Go.Proofs.Ytphpmjnpjnmdmaa
