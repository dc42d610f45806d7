/- The reference: Fits. -/
import Derived.Test.YtphpmjnpjnmdmaaF
set_option maxRecDepth 100000
set_option maxHeartbeats 4000000
set_option linter.unusedSimpArgs false
set_option linter.unusedVariables false
set_option linter.unusedSectionVars false
namespace Go.Proofs.Ytphpmjnpjnmdmaa
open Go.RowKit

def fitK (xs : List Mv) (ts cs : List Si) (k : Nat) : Bool := !(decide (capOf ts (nth xs k).tw < RT xs one xs.length (nth xs k).tw) || decide (capOf cs (nth xs k).cr < RC xs one xs.length (nth xs k).cr))
theorem fitsM_eq (xs : List Mv) (ts cs : List Si) : fitsM xs ts cs = (List.range xs.length).all (fitK xs ts cs) := by
  have h1 : ∀ k, RP xs one xs.length (plOf (nth xs k) 0) = RT xs one xs.length (nth xs k).tw := fun k => rfl
  have h2 : ∀ k, RP xs one xs.length (plOf (nth xs k) 1) = RC xs one xs.length (nth xs k).cr := fun k => rfl
  have c1 : ∀ k, capP ts cs (plOf (nth xs k) 0) = capOf ts (nth xs k).tw := fun k => rfl
  have c2 : ∀ k, capP ts cs (plOf (nth xs k) 1) = capOf cs (nth xs k).cr := fun k => rfl
  rw [Bool.eq_iff_iff]
  simp only [fitsM, List.all_eq_true, List.mem_range, decide_eq_true_eq, fitK, Bool.not_eq_true', Bool.or_eq_false_iff, decide_eq_false_iff_not, SS_RP]
  constructor
  · intro h k hk
    have a := h (2 * k) (by omega)
    have b := h (2 * k + 1) (by omega)
    rw [hp_even, h1, c1] at a
    rw [hp_odd, h2, c2] at b
    omega
  · intro h s hs
    have a := h (s / 2) (by omega)
    rcases (by omega : s = 2 * (s / 2) ∨ s = 2 * (s / 2) + 1) with e | e
    · rw [e, hp_even, h1, c1]; omega
    · rw [e, hp_odd, h2, c2]; omega
theorem R_le (xs : List Mv) : ∀ n id, (0 ≤ RT xs one n id ∧ RT xs one n id ≤ n) ∧ (0 ≤ RC xs one n id ∧ RC xs one n id ≤ n)
  | 0, id => by simp [RT, RC]
  | n + 1, id => by
    have := R_le xs n id
    have e1 : one (nth xs n) = 1 := rfl
    rw [RT, RC, e1]
    constructor <;> split <;> omega
theorem code_limit (xs : List Mv) (ts cs : List Si) (limit : Int) : codeOf xs ts cs (decide (0 ≤ limit)) = if errM xs ts cs ≠ 2 ∧ limit < 0 then 2 else errM xs ts cs := by
  unfold errM codeOf
  by_cases h : argsOk xs ts cs = true
  · by_cases h2 : 0 ≤ limit
    · have : ¬ limit < 0 := by omega
      simp [h, h2, this]
    · have h3 : limit < 0 := by omega
      have h4 : ¬ (0 ≤ limit) := by omega
      simp only [h, h4, decide_false, Bool.and_false, Bool.and_true, if_true, h3, and_true]
      split <;> split <;> first | rfl | omega | (rename_i a b; split at b <;> first | rfl | omega)
  · simp [h]

theorem refFits_bad (xs : List Mv) (ts cs : List Si) (v vt vc : Value) (limit : Int) (w : World) (h : MovesAt w v xs) (ht : SitesAt w vt ts) (hcr : SitesAt w vc cs) (hl : xs.length ≤ 9223372036854775807) (hlt : ts.length ≤ 9223372036854775807) (hlc : cs.length ≤ 9223372036854775807) (hb : xs.length ≤ 1000000) (hco : codeOf xs ts cs (decide (0 ≤ limit)) ≠ 0) : Calls Try.prog 17 #[v, vt, vc, .int .i64 limit] w fun e w' => e = .returned (.tuple #[.bool false, .int .i64 (codeOf xs ts cs (decide (0 ≤ limit)))]) ∧ Below w.heap.size w w' := by
  obtain ⟨A, cap, rfl, hsl⟩ := h.op
  have hcl := code_limit xs ts cs limit
  refine calls_T (M := fun _ => False) (hs := []) Try.func17 rfl rfl rfl (Hp.refl _ _) ?_
  refine T.seq ?_
  refine T.region ?_
  refine TL.yv (Wt.none rfl) rfl rfl (Yv.pur rfl) ?_
  refine TL.yv (Wt.none rfl) rfl rfl (Yv.pur rfl) ?_
  refine TL.nil ?_
  refine K.seq ?_
  refine T.seq ?_
  refine T.region ?_
  refine TL.yv (Wt.none rfl) rfl rfl (Yv.pur rfl) ?_
  refine TL.yv (Wt.none rfl) rfl rfl (Yv.pur rfl) ?_
  refine TL.yv (Wt.none rfl) rfl rfl (Yv.pur rfl) ?_
  (refine TL.ew (Wt.none rfl) rfl rfl (Ew.callD rfl rfl rfl (fun w hw => refError_ret xs ts cs _ _ _ _ (h.kept hw) (ht.kept hw) (hcr.kept hw) hl hlt hlc)) ?_; rintro _ _ ⟨rfl, rfl⟩)
  refine TL.yv (Wt.none rfl) rfl rfl (Yv.pur rfl) ?_
  refine TL.nil ?_
  refine K.seq ?_
  refine T.seq ?_
  refine T.seq ?_
  refine T.region ?_
  refine TL.yv (Wt.none rfl) rfl rfl (Yv.pur rfl) ?_
  first | refine TL.yv (Wt.none rfl) rfl rfl (Yv.pur rfl) ?_ | refine TL.yv (Wt.none rfl) rfl rfl (Yv.neB rfl rfl rfl rfl) ?_
  refine TL.yv (Wt.none rfl) rfl rfl (Yv.pur rfl) ?_
  refine TL.gsplit rfl rfl rfl (fun h1 => ?_) (fun h1 => ?_)
  · have p1 := h1
    try simp only [decide_eq_true_eq, decide_eq_false_iff_not, Int.not_lt, Int.not_le, Bool.not_eq_true', Bool.not_eq_false', Decidable.not_not, Bool.and_eq_true, Bool.or_eq_true, Bool.and_eq_false_iff, Bool.or_eq_false_iff] at p1
    refine TL.yv (Wt.some rfl rfl rfl h1) rfl rfl (Yv.pur rfl) ?_
    refine TL.yv (Wt.some rfl rfl rfl h1) rfl rfl (Yv.pur rfl) ?_
    refine TL.yv (Wt.none rfl) rfl rfl (Yv.pickT rfl rfl h1 rfl) ?_
    refine TL.nil ?_
    refine K.seq ?_
    refine T.cond rfl (fun h2 => ?_) (fun h2 => ?_)
    · have p2 := h2
      try simp only [decide_eq_true_eq, decide_eq_false_iff_not, Int.not_lt, Int.not_le, Bool.not_eq_true', Bool.not_eq_false', Decidable.not_not, Bool.and_eq_true, Bool.or_eq_true, Bool.and_eq_false_iff, Bool.or_eq_false_iff] at p2
      refine T.region ?_
      refine TL.yv (Wt.none rfl) rfl rfl (Yv.pur rfl) ?_
      refine TL.nil ?_
      refine K.seq ?_
      refine T.seq ?_
      refine T.seq ?_
      refine T.region ?_
      refine TL.yv (Wt.none rfl) rfl rfl (Yv.pur rfl) ?_
      first | refine TL.yv (Wt.none rfl) rfl rfl (Yv.pur rfl) ?_ | refine TL.yv (Wt.none rfl) rfl rfl (Yv.neB rfl rfl rfl rfl) ?_
      refine TL.nil ?_
      refine K.seq ?_
      refine T.condT rfl (by first | decide | (apply decide_eq_true; rw [hcl] at hco; simp only [*] at hco; simpa using hco) | (apply decide_eq_true; rw [hcl] at hco; intro hh; apply hco; split <;> omega)) ?_
      refine T.seq ?_
      refine T.region ?_
      refine TL.yv (Wt.none rfl) rfl rfl (Yv.pur rfl) ?_
      refine TL.yv (Wt.none rfl) rfl rfl (Yv.pur rfl) ?_
      refine TL.yv (Wt.none rfl) rfl rfl (Yv.pur rfl) ?_
      refine TL.nil ?_
      refine K.seq ?_
      refine T.ret ?_
      refine K.then_ret ?_
      refine K.ret2 rfl rfl rfl (fun w' hw => ⟨?_, hw.isBelow⟩)
      rw [hcl]
      first | rw [if_pos ⟨by assumption, by assumption⟩] | rw [if_neg (by omega)]
    · have p2 := h2
      try simp only [decide_eq_true_eq, decide_eq_false_iff_not, Int.not_lt, Int.not_le, Bool.not_eq_true', Bool.not_eq_false', Decidable.not_not, Bool.and_eq_true, Bool.or_eq_true, Bool.and_eq_false_iff, Bool.or_eq_false_iff] at p2
      refine T.skip ?_
      refine K.seq ?_
      refine T.seq ?_
      refine T.seq ?_
      refine T.region ?_
      refine TL.yv (Wt.none rfl) rfl rfl (Yv.pur rfl) ?_
      first | refine TL.yv (Wt.none rfl) rfl rfl (Yv.pur rfl) ?_ | refine TL.yv (Wt.none rfl) rfl rfl (Yv.neB rfl rfl rfl rfl) ?_
      refine TL.nil ?_
      refine K.seq ?_
      refine T.condT rfl (by first | decide | (apply decide_eq_true; rw [hcl] at hco; simp only [*] at hco; simpa using hco) | (apply decide_eq_true; rw [hcl] at hco; intro hh; apply hco; split <;> omega)) ?_
      refine T.seq ?_
      refine T.region ?_
      refine TL.yv (Wt.none rfl) rfl rfl (Yv.pur rfl) ?_
      refine TL.yv (Wt.none rfl) rfl rfl (Yv.pur rfl) ?_
      refine TL.yv (Wt.none rfl) rfl rfl (Yv.pur rfl) ?_
      refine TL.nil ?_
      refine K.seq ?_
      refine T.ret ?_
      refine K.then_ret ?_
      refine K.ret2 rfl rfl rfl (fun w' hw => ⟨?_, hw.isBelow⟩)
      rw [hcl]
      first | rw [if_pos ⟨by assumption, by assumption⟩] | rw [if_neg (by omega)]
  · have p1 := h1
    try simp only [decide_eq_true_eq, decide_eq_false_iff_not, Int.not_lt, Int.not_le, Bool.not_eq_true', Bool.not_eq_false', Decidable.not_not, Bool.and_eq_true, Bool.or_eq_true, Bool.and_eq_false_iff, Bool.or_eq_false_iff] at p1
    refine TL.off (Wt.not rfl rfl rfl h1) rfl rfl ?_
    refine TL.off (Wt.not rfl rfl rfl h1) rfl rfl ?_
    refine TL.yv (Wt.none rfl) rfl rfl (Yv.pickF rfl rfl h1 rfl) ?_
    refine TL.nil ?_
    refine K.seq ?_
    refine T.condF rfl rfl ?_
    refine T.skip ?_
    refine K.seq ?_
    refine T.seq ?_
    refine T.seq ?_
    refine T.region ?_
    refine TL.yv (Wt.none rfl) rfl rfl (Yv.pur rfl) ?_
    first | refine TL.yv (Wt.none rfl) rfl rfl (Yv.pur rfl) ?_ | refine TL.yv (Wt.none rfl) rfl rfl (Yv.neB rfl rfl rfl rfl) ?_
    refine TL.nil ?_
    refine K.seq ?_
    refine T.condT rfl (by first | decide | (apply decide_eq_true; rw [hcl] at hco; simp only [*] at hco; simpa using hco) | (apply decide_eq_true; rw [hcl] at hco; intro hh; apply hco; split <;> omega)) ?_
    refine T.seq ?_
    refine T.region ?_
    refine TL.yv (Wt.none rfl) rfl rfl (Yv.pur rfl) ?_
    refine TL.yv (Wt.none rfl) rfl rfl (Yv.pur rfl) ?_
    refine TL.yv (Wt.none rfl) rfl rfl (Yv.pur rfl) ?_
    refine TL.nil ?_
    refine K.seq ?_
    refine T.ret ?_
    refine K.then_ret ?_
    refine K.ret2 rfl rfl rfl (fun w' hw => ⟨?_, hw.isBelow⟩)
    rw [hcl]
    first | rw [if_pos ⟨by assumption, by assumption⟩] | rw [if_neg (by omega)]
end Go.Proofs.Ytphpmjnpjnmdmaa
