/- Bound. -/
import Derived.Test.YtphpmjnpjnmdmaaHa
set_option maxRecDepth 100000
set_option maxHeartbeats 4000000
set_option linter.unusedSimpArgs false
set_option linter.unusedVariables false
set_option linter.unusedSectionVars false
namespace Go.Proofs.Ytphpmjnpjnmdmaa
open Go.RowKit

def wks : Mv → Int := fun m => m.wk
def stepK (xs : List Mv) (ts cs : List Si) (k : Nat) : Int := max (max (nth xs k).wk (ceilD (RT xs wks xs.length (nth xs k).tw) (capOf ts (nth xs k).tw))) (ceilD (RC xs wks xs.length (nth xs k).cr) (capOf cs (nth xs k).cr))
def boundM (xs : List Mv) (ts cs : List Si) : Int := mx (stepK xs ts cs) xs.length
theorem mvOk_wk {xs : List Mv} {k : Nat} (h : mvOk xs k = true) : 1 ≤ (nth xs k).wk ∧ (nth xs k).wk ≤ 52 := by
  simp only [mvOk, Mv.ok, Bool.and_eq_true, decide_eq_true_eq] at h
  omega
theorem code_wk {xs : List Mv} {ts cs : List Si} {ok : Bool} (h : codeOf xs ts cs ok = 0) : ∀ k, k < xs.length → 1 ≤ (nth xs k).wk ∧ (nth xs k).wk ≤ 52 := by
  obtain ⟨h1, _, _⟩ := codeOf_args h
  simp only [argsOk, Bool.and_eq_true, movesOk] at h1
  intro k hk
  exact mvOk_wk (List.all_eq_true.1 h1.1.2 k (by simpa using hk))
theorem SS_wk {xs : List Mv} (hw : ∀ k, k < xs.length → 1 ≤ (nth xs k).wk ∧ (nth xs k).wk ≤ 52) : ∀ (s : Nat), s ≤ 2 * xs.length → ∀ q, 0 ≤ SS xs wks s q ∧ SS xs wks s q ≤ 52 * s
  | 0, _, q => by simp [SS]
  | s + 1, hs, q => by
    have h1 := SS_wk hw s (by omega) q
    have h2 := hw (s / 2) (by omega)
    have e1 : wks (nth xs (s / 2)) = (nth xs (s / 2)).wk := rfl
    rw [SS, e1]
    split <;> omega
theorem capP0 (ts cs : List Si) (m : Mv) : capP ts cs (plOf m 0) = capOf ts m.tw := rfl
theorem capP1 (ts cs : List Si) (m : Mv) : capP ts cs (plOf m 1) = capOf cs m.cr := rfl
theorem RP0 (xs : List Mv) (f : Mv → Int) (n : Nat) (m : Mv) : RP xs f n (plOf m 0) = RT xs f n m.tw := rfl
theorem RP1 (xs : List Mv) (f : Mv → Int) (n : Nat) (m : Mv) : RP xs f n (plOf m 1) = RC xs f n m.cr := rfl
theorem step_ge {xs : List Mv} {ts cs : List Si} (k i : Nat) (hk : k < xs.length) (hi : i < 2) : ceilD (SS xs wks (2 * xs.length) (plOf (nth xs k) i)) (capP ts cs (plOf (nth xs k) i)) ≤ stepK xs ts cs k ∧ (nth xs k).wk ≤ stepK xs ts cs k := by
  match i, hi with
  | 0, _ => rw [SS_RP, RP0, capP0]; unfold stepK; omega
  | 1, _ => rw [SS_RP, RP1, capP1]; unfold stepK; omega
/-- While the weeks are summed: the sums, and the bound so far. -/
structure BndInv (xs : List Mv) (ts cs : List Si) (k s : Nat) (b : Int) (kv : List (Pl × Value)) : Prop where
  sums : ∀ q, (kvGet kv q).getD (.int .i64 0) = .int .i64 (SS xs wks s q)
  ge0 : 0 ≤ b
  le : b ≤ boundM xs ts cs
  wk : ∀ j, j < k → (nth xs j).wk ≤ b
  cl : ∀ t, t < s → ceilD (SS xs wks (t + 1) (hp xs t)) (capP ts cs (hp xs t)) ≤ b
theorem BndInv.start (xs : List Mv) (ts cs : List Si) : BndInv xs ts cs 0 0 0 [] := ⟨fun q => rfl, by omega, mx_nonneg _ _, fun j hj => by omega, fun j hj => by omega⟩
theorem BndInv.week {xs : List Mv} {ts cs : List Si} {k : Nat} {b : Int} {kv : List (Pl × Value)} (h : BndInv xs ts cs k (2 * k) b kv) (hk : k < xs.length) : BndInv xs ts cs (k + 1) (2 * k) (max b (nth xs k).wk) kv := by
  have h1 := (step_ge (ts := ts) (cs := cs) k 0 hk (by omega)).2
  have h2 := le_mx (stepK xs ts cs) xs.length k hk
  have := h.ge0
  refine ⟨h.sums, by omega, ?_, fun j hj => ?_, fun t ht => ?_⟩
  · have h3 := h.le
    unfold boundM at h3 ⊢
    omega
  · rcases Nat.lt_or_ge j k with e | e
    · have := h.wk j e; omega
    · obtain rfl : j = k := by omega
      omega
  · have := h.cl t ht; omega
theorem BndInv.sum {xs : List Mv} {ts cs : List Si} {k i : Nat} {b : Int} {kv : List (Pl × Value)} (h : BndInv xs ts cs (k + 1) (2 * k + i) b kv) (hk : k < xs.length) (hi : i < 2) (hw : ∀ k, k < xs.length → 1 ≤ (nth xs k).wk ∧ (nth xs k).wk ≤ 52) (hcap : ∀ s, s < 2 * xs.length → 1 ≤ capP ts cs (hp xs s) ∧ capP ts cs (hp xs s) ≤ 64)
    {a c : Int} (ha : a = SS xs wks (2 * k + i) (plOf (nth xs k) i)) (hc : c = capP ts cs (plOf (nth xs k) i)) (u : Value) :
    BndInv xs ts cs (k + 1) (2 * k + i + 1) (max b ((a + (nth xs k).wk + c - 1) / c)) (kvSet (kvSet kv (plOf (nth xs k) i) u) (plOf (nth xs k) i) (.int .i64 (a + (nth xs k).wk))) := by
  have hpk := hp_at xs k i hi
  have hd : (2 * k + i) / 2 = k := by omega
  have hS : SS xs wks (2 * k + i + 1) (plOf (nth xs k) i) = a + (nth xs k).wk := by rw [SS, hpk, if_pos rfl, ha, hd]; rfl
  have hcd : (a + (nth xs k).wk + c - 1) / c = ceilD (SS xs wks (2 * k + i + 1) (plOf (nth xs k) i)) (capP ts cs (plOf (nth xs k) i)) := by rw [hS, hc]; rfl
  have hcp := hcap (2 * k + i) (by omega)
  rw [hpk] at hcp
  have hmono := SS_le (xs := xs) (f := wks) (fun j hj => by have := hw j hj; unfold wks; omega) (2 * xs.length) (2 * k + i + 1) (by omega) (by omega) (plOf (nth xs k) i)
  have h1 := ceilD_le hcp.1 hmono
  have h2 := (step_ge (ts := ts) (cs := cs) k i hk hi).1
  have h3 := le_mx (stepK xs ts cs) xs.length k hk
  have h4 := h.ge0
  have h5 := h.le
  rw [hcd]
  refine ⟨fun q => ?_, by omega, ?_, fun j hj => ?_, fun t ht => ?_⟩
  · rw [kvGet_set]
    by_cases e : q = plOf (nth xs k) i
    · rw [if_pos e, e, hS]; rfl
    · rw [if_neg e, kvGet_set, if_neg e, h.sums q, SS, hpk, if_neg (fun x => e x.symm)]
      congr 1; omega
  · unfold boundM at h5 ⊢; omega
  · have := h.wk j hj; omega
  · rcases Nat.lt_or_ge t (2 * k + i) with e | e
    · have := h.cl t e; omega
    · obtain rfl : t = 2 * k + i := by omega
      rw [hpk]; omega
theorem BndInv.done {xs : List Mv} {ts cs : List Si} {k : Nat} {b : Int} {kv : List (Pl × Value)} (h : BndInv xs ts cs k (2 * k) b kv) (hk : k = xs.length) (hw : ∀ k, k < xs.length → 1 ≤ (nth xs k).wk ∧ (nth xs k).wk ≤ 52) : b = boundM xs ts cs := by
  subst hk
  have h1 : boundM xs ts cs ≤ b := mx_le _ _ h.ge0 _ fun k hk => by
    have hf : ∀ j, j < xs.length → 0 ≤ wks (nth xs j) := fun j hj => by have := hw j hj; unfold wks; omega
    have a := h.wk k hk
    obtain ⟨t, t1, t2, t3, t4⟩ := SS_last hf (2 * xs.length) (by omega) (2 * k) (by omega)
    have c1 := h.cl t t2
    rw [t3, t4, hp_even, SS_RP, RP0, capP0] at c1
    obtain ⟨t, t1, t2, t3, t4⟩ := SS_last hf (2 * xs.length) (by omega) (2 * k + 1) (by omega)
    have c2 := h.cl t t2
    rw [t3, t4, hp_odd, SS_RP, RP1, capP1] at c2
    unfold stepK
    omega
  have := h.le
  omega
theorem capI_get {xs : List Mv} {ts cs : List Si} {kv : List (Pl × Value)} (h : CapInv xs ts cs xs.length kv) (k i : Nat) (hk : k < xs.length) (hi : i < 2) : (kvGet kv (plOf (nth xs k) i)).getD (.int .i64 0) = .int .i64 (capP ts cs (plOf (nth xs k) i)) := by
  obtain ⟨v, hv⟩ := Option.isSome_iff_exists.1 (h.has k hk i hi).1
  rw [hv, h.right _ v hv]; rfl

theorem bound_bad (xs : List Mv) (ts cs : List Si) (v vt vc : Value) (w : World) (h : MovesAt w v xs) (ht : SitesAt w vt ts) (hcr : SitesAt w vc cs) (hl : xs.length ≤ 9223372036854775807) (hlt : ts.length ≤ 9223372036854775807) (hlc : cs.length ≤ 9223372036854775807) (hco : codeOf xs ts cs true ≠ 0) : Calls Try.prog 20 #[v, vt, vc] w fun e w' => e = .returned (.tuple #[.int .i64 0, .int .i64 (codeOf xs ts cs true)]) ∧ Below w.heap.size w w' := by
  obtain ⟨A, cap, rfl, hsl⟩ := h.op
  refine calls_T (M := fun _ => False) (hs := []) Try.func20 rfl rfl rfl (Hp.refl _ _) ?_
  refine T.seq ?_
  refine T.region ?_
  refine TL.yv (Wt.none rfl) rfl rfl (Yv.pur rfl) ?_
  refine TL.yv (Wt.none rfl) rfl rfl (Yv.pur rfl) ?_
  refine TL.nil ?_
  refine K.seq ?_
  refine T.seq ?_
  refine T.region ?_
  refine TL.yv (Wt.none rfl) rfl rfl (Yv.pur rfl) ?_
  refine TL.yv (Wt.none rfl) rfl rfl (Yv.pur rfl) ?_
  refine TL.yv (Wt.none rfl) rfl rfl (Yv.pur rfl) ?_
  (refine TL.ew (Wt.none rfl) rfl rfl (Ew.callD rfl rfl rfl (fun w hw => capacities_bad xs ts cs _ _ _ _ _ (h.kept hw) (ht.kept hw) (hcr.kept hw) hl hlt hlc hco)) ?_; rintro _ _ ⟨rfl, rfl⟩)
  refine TL.yv (Wt.none rfl) rfl rfl (Yv.pur rfl) ?_
  refine TL.yv (Wt.none rfl) rfl rfl (Yv.pur rfl) ?_
  refine TL.yv (Wt.none rfl) rfl rfl (Yv.pur rfl) ?_
  refine TL.yv (Wt.none rfl) rfl rfl (Yv.pur rfl) ?_
  refine TL.yv (Wt.none rfl) rfl rfl (Yv.pur rfl) ?_
  refine TL.nil ?_
  refine K.seq ?_
  refine T.seq ?_
  refine T.seq ?_
  refine T.region ?_
  refine TL.yv (Wt.none rfl) rfl rfl (Yv.pur rfl) ?_
  first | refine TL.yv (Wt.none rfl) rfl rfl (Yv.pur rfl) ?_ | refine TL.yv (Wt.none rfl) rfl rfl (Yv.neB rfl rfl rfl rfl) ?_
  refine TL.nil ?_
  refine K.seq ?_
  refine T.condT rfl (decide_eq_true hco) ?_
  refine T.seq ?_
  refine T.region ?_
  refine TL.yv (Wt.none rfl) rfl rfl (Yv.pur rfl) ?_
  refine TL.yv (Wt.none rfl) rfl rfl (Yv.pur rfl) ?_
  refine TL.yv (Wt.none rfl) rfl rfl (Yv.pur rfl) ?_
  refine TL.nil ?_
  refine K.seq ?_
  refine T.ret ?_
  refine K.then_ret ?_
  refine K.ret2 rfl rfl rfl (fun w' hw => ⟨?_, hw.isBelow⟩)
  rfl
theorem bound_ok (xs : List Mv) (ts cs : List Si) (v vt vc : Value) (w : World) (h : MovesAt w v xs) (ht : SitesAt w vt ts) (hcr : SitesAt w vc cs) (hl : xs.length ≤ 9223372036854775807) (hlt : ts.length ≤ 9223372036854775807) (hlc : cs.length ≤ 9223372036854775807) (hco : codeOf xs ts cs true = 0) : Calls Try.prog 20 #[v, vt, vc] w fun e w' => e = .returned (.tuple #[.int .i64 (boundM xs ts cs), .int .i64 0]) ∧ Below w.heap.size w w' := by
  obtain ⟨A, cap, rfl, hsl⟩ := h.op
  obtain ⟨hx, hcap⟩ := code_facts hco
  have hwk := code_wk hco
  refine calls_T (M := fun _ => False) (hs := []) Try.func20 rfl rfl rfl (Hp.refl _ _) ?_
  refine T.seq ?_
  refine T.region ?_
  refine TL.yv (Wt.none rfl) rfl rfl (Yv.pur rfl) ?_
  refine TL.yv (Wt.none rfl) rfl rfl (Yv.pur rfl) ?_
  refine TL.nil ?_
  refine K.seq ?_
  refine T.seq ?_
  refine T.region ?_
  refine TL.yv (Wt.none rfl) rfl rfl (Yv.pur rfl) ?_
  refine TL.yv (Wt.none rfl) rfl rfl (Yv.pur rfl) ?_
  refine TL.yv (Wt.none rfl) rfl rfl (Yv.pur rfl) ?_
  (refine TL.ew (Wt.none rfl) rfl rfl (Ew.callH rfl rfl rfl (fun w hw => capacities_ok xs ts cs _ _ _ _ _ (h.kept hw) (ht.kept hw) (hcr.kept hw) hl hlt hlc hco)) ?_; rintro _ _ ⟨⟨gm, kv0⟩, hI, rfl, rfl⟩)
  dsimp only [List.cons_append, List.nil_append] at hI ⊢
  refine TL.yv (Wt.none rfl) rfl rfl (Yv.pur rfl) ?_
  refine TL.yv (Wt.none rfl) rfl rfl (Yv.pur rfl) ?_
  refine TL.yv (Wt.none rfl) rfl rfl (Yv.pur rfl) ?_
  refine TL.yv (Wt.none rfl) rfl rfl (Yv.pur rfl) ?_
  refine TL.yv (Wt.none rfl) rfl rfl (Yv.pur rfl) ?_
  refine TL.nil ?_
  refine K.seq ?_
  refine T.seq ?_
  refine T.seq ?_
  refine T.region ?_
  refine TL.yv (Wt.none rfl) rfl rfl (Yv.pur rfl) ?_
  first | refine TL.yv (Wt.none rfl) rfl rfl (Yv.pur rfl) ?_ | refine TL.yv (Wt.none rfl) rfl rfl (Yv.neB rfl rfl rfl rfl) ?_
  refine TL.nil ?_
  refine K.seq ?_
  refine T.condF rfl (by decide) ?_
  refine T.skip ?_
  refine K.seq ?_
  refine T.seq ?_
  refine T.region ?_
  (refine TL.ew (Wt.none rfl) rfl rfl (Ew.makeMap rfl) ?_; rintro _ _ ⟨g26, rfl, rfl⟩)
  refine TL.yv (Wt.none rfl) rfl rfl (Yv.pur rfl) ?_
  refine TL.yv (Wt.none rfl) rfl rfl (Yv.pur rfl) ?_
  refine TL.nil ?_
  refine K.seq ?_
  refine T.seq ?_
  refine T.seq ?_
  refine T.region ?_
  refine TL.yv (Wt.none rfl) rfl rfl (Yv.pur rfl) ?_
  first | refine TL.yv (Wt.none rfl) rfl rfl (Yv.lenSl rfl rfl) ?_ | refine TL.yv (Wt.none rfl) rfl rfl (Yv.lenAr rfl) ?_
  refine TL.yv (Wt.none rfl) rfl rfl (Yv.pur rfl) ?_
  refine TL.nil ?_
  refine K.seq ?_
  refine T.block ?_
  refine T.loop (ι := Nat × Int × List (Pl × Value)) (fun x => [(8, .map (some gm)), (10, .int .i64 x.2.1), (11, .map (some g26)), (27, .slice A xs.length cap), (28, .int .i64 (xs.length : Int)), (29, .int .i64 (x.1 : Int))]) (fun x => [.mp g26 x.2.2, .mp gm kv0]) (fun x => x.1 ≤ xs.length ∧ BndInv xs ts cs x.1 (2 * x.1) x.2.1 x.2.2) (fun x => xs.length - x.1) (0, 0, []) ?_ ?_ ?_ ?_
  · exact ⟨by show 0 ≤ _; omega, BndInv.start xs ts cs⟩
  · exact (by repeat (first | exact Sub.nil | refine Sub.cons rfl ?_))
  · exact (by repeat (first | exact List.Sublist.refl _ | exact List.nil_sublist _ | refine List.Sublist.cons_cons _ ?_ | refine List.Sublist.cons _ ?_))
  · intro x hphi
    obtain ⟨k, b, kv⟩ := x
    dsimp only at hphi ⊢
    obtain ⟨hkl, hphi⟩ := hphi
    refine T.seq ?_
    refine T.region ?_
    refine TL.yv (Wt.none rfl) rfl rfl (Yv.pur rfl) ?_
    refine TL.nil ?_
    refine K.seq ?_
    refine T.seq ?_
    refine T.cond rfl (fun h1 => ?_) (fun h1 => ?_)
    · have p1 := h1
      try simp only [decide_eq_true_eq, decide_eq_false_iff_not, Int.not_lt, Int.not_le, Bool.not_eq_true', Bool.not_eq_false', Decidable.not_not, Bool.and_eq_true, Bool.or_eq_true, Bool.and_eq_false_iff, Bool.or_eq_false_iff] at p1
      obtain ⟨g, off, rfl, hc⟩ := hsl (by omega)
      have hk := hc k (by omega)
      have hk1 := hc (k - 1) (by omega)
      simp only [Mv.cells] at hk hk1
      have hwk1 := hwk k (by omega)
      refine T.skip ?_
      refine K.seq ?_
      refine T.seq ?_
      refine T.block ?_
      refine T.seq ?_
      refine T.region ?_
      first | refine TL.yv (Wt.none rfl) rfl rfl (Yv.indexSl rfl rfl rfl rfl (by omega)) ?_ | refine TL.yv (Wt.none rfl) rfl rfl (Yv.indexAr rfl rfl rfl rfl (by omega)) ?_
      first | refine TL.yv (Wt.none rfl) rfl rfl (Yv.loadC rfl rfl hk rfl rfl (fun h => h)) ?_ | refine TL.yv (Wt.none rfl) rfl rfl (Yv.loadC rfl rfl hk1 rfl rfl (fun h => h)) ?_ | refine TL.yv (Wt.none rfl) rfl rfl (Yv.loadAB rfl rfl hk rfl (fun h => h)) ?_ | refine TL.yv (Wt.none rfl) rfl rfl (Yv.loadAO 0 rfl rfl rfl rfl) ?_ | refine TL.yv (Wt.none rfl) rfl rfl (Yv.loadAO 1 rfl rfl rfl rfl) ?_ | refine TL.yv (Wt.none rfl) rfl rfl (Yv.loadAO 2 rfl rfl rfl rfl) ?_ | refine TL.yv (Wt.none rfl) rfl rfl (Yv.loadAO 3 rfl rfl rfl rfl) ?_ | refine TL.yv (Wt.none rfl) rfl rfl (Yv.loadAB rfl rfl (by assumption) rfl (fun h => h)) ?_
      (refine TL.ew (Wt.none rfl) rfl rfl (Ew.alloc rfl) ?_; rintro _ _ ⟨g13, rfl, rfl⟩)
      first | (refine TL.ew0 (Wt.none rfl) rfl (Ew.storeAll 0 rfl rfl rfl rfl rfl rfl) ?_; rintro _ _ ⟨rfl, rfl⟩) | (refine TL.ew0 (Wt.none rfl) rfl (Ew.storeAll 1 rfl rfl rfl rfl rfl rfl) ?_; rintro _ _ ⟨rfl, rfl⟩) | (refine TL.ew0 (Wt.none rfl) rfl (Ew.storeAll 2 rfl rfl rfl rfl rfl rfl) ?_; rintro _ _ ⟨rfl, rfl⟩) | (refine TL.ew0 (Wt.none rfl) rfl (Ew.storeAll 3 rfl rfl rfl rfl rfl rfl) ?_; rintro _ _ ⟨rfl, rfl⟩) | (refine TL.ew0 (Wt.none rfl) rfl (Ew.storeAll 4 rfl rfl rfl rfl rfl rfl) ?_; rintro _ _ ⟨rfl, rfl⟩)
      refine TL.nil ?_
      refine K.seq ?_
      refine T.seq ?_
      refine T.region ?_
      refine TL.yv (Wt.none rfl) rfl rfl (Yv.pur rfl) ?_
      refine TL.yv (Wt.none rfl) rfl rfl (Yv.fieldAddr rfl rfl) ?_
      first | refine TL.yv (Wt.none rfl) rfl rfl (Yv.loadC rfl rfl hk rfl rfl (fun h => h)) ?_ | refine TL.yv (Wt.none rfl) rfl rfl (Yv.loadC rfl rfl hk1 rfl rfl (fun h => h)) ?_ | refine TL.yv (Wt.none rfl) rfl rfl (Yv.loadAB rfl rfl hk rfl (fun h => h)) ?_ | refine TL.yv (Wt.none rfl) rfl rfl (Yv.loadO 0 rfl rfl rfl rfl) ?_ | refine TL.yv (Wt.none rfl) rfl rfl (Yv.loadO 1 rfl rfl rfl rfl) ?_ | refine TL.yv (Wt.none rfl) rfl rfl (Yv.loadO 2 rfl rfl rfl rfl) ?_ | refine TL.yv (Wt.none rfl) rfl rfl (Yv.loadO 3 rfl rfl rfl rfl) ?_ | refine TL.yv (Wt.none rfl) rfl rfl (Yv.loadO 4 rfl rfl rfl rfl) ?_ | refine TL.yv (Wt.none rfl) rfl rfl (Yv.loadB rfl rfl (by assumption) (fun h => h)) ?_ | refine TL.yv (Wt.none rfl) rfl rfl (Yv.loadS 0 rfl rfl rfl (by first | rfl | assumption)) ?_ | refine TL.yv (Wt.none rfl) rfl rfl (Yv.loadS 1 rfl rfl rfl (by first | rfl | assumption)) ?_ | refine TL.yv (Wt.none rfl) rfl rfl (Yv.loadS 2 rfl rfl rfl (by first | rfl | assumption)) ?_ | refine TL.yv (Wt.none rfl) rfl rfl (Yv.loadS 3 rfl rfl rfl (by first | rfl | assumption)) ?_ | refine TL.yv (Wt.none rfl) rfl rfl (Yv.loadS 4 rfl rfl rfl (by first | rfl | assumption)) ?_
      refine TL.yv (Wt.none rfl) rfl rfl (Yv.max2 rfl rfl rfl) ?_
      refine TL.yv (Wt.none rfl) rfl rfl (Yv.pur rfl) ?_
      refine TL.nil ?_
      refine K.seq ?_
      refine T.seq ?_
      refine T.region ?_
      first | refine TL.yv (Wt.none rfl) rfl rfl (Yv.loadC rfl rfl hk rfl rfl (fun h => h)) ?_ | refine TL.yv (Wt.none rfl) rfl rfl (Yv.loadC rfl rfl hk1 rfl rfl (fun h => h)) ?_ | refine TL.yv (Wt.none rfl) rfl rfl (Yv.loadAB rfl rfl hk rfl (fun h => h)) ?_ | refine TL.yv (Wt.none rfl) rfl rfl (Yv.loadAO 0 rfl rfl rfl rfl) ?_ | refine TL.yv (Wt.none rfl) rfl rfl (Yv.loadAO 1 rfl rfl rfl rfl) ?_ | refine TL.yv (Wt.none rfl) rfl rfl (Yv.loadAO 2 rfl rfl rfl rfl) ?_ | refine TL.yv (Wt.none rfl) rfl rfl (Yv.loadAO 3 rfl rfl rfl rfl) ?_ | refine TL.yv (Wt.none rfl) rfl rfl (Yv.loadAO 4 rfl rfl rfl rfl) ?_ | refine TL.yv (Wt.none rfl) rfl rfl (Yv.loadAB rfl rfl (by assumption) rfl (fun h => h)) ?_
      (refine TL.ew (Wt.none rfl) rfl rfl (Ew.callD rfl rfl rfl (fun w hw => places_ret _ _)) ?_; rintro _ _ ⟨rfl, rfl⟩)
      refine TL.yv (Wt.none rfl) rfl rfl (Yv.pur rfl) ?_
      refine TL.nil ?_
      refine K.seq ?_
      refine T.block ?_
      refine T.loop (ι := Nat × Int × List (Pl × Value)) (fun y => [(8, .map (some gm)), (10, .int .i64 y.2.1), (11, .map (some g26)), (13, .pointer (some ⟨g13, 0, none⟩)), (27, .slice (some ⟨g, off, none⟩) xs.length cap), (28, .int .i64 (xs.length : Int)), (29, .int .i64 (k : Int)), (38, .agg (plcells (nth xs k)).toArray), (39, .int .i64 (y.1 : Int))]) (fun y => [.row g13 27 [.int .i64 (nth xs k).st, .int .i64 (nth xs k).old, .int .i64 (nth xs k).nw, .int .i64 (nth xs k).tw, .int .i64 (nth xs k).cr, .int .i64 (nth xs k).wk], .mp g26 y.2.2, .mp gm kv0]) (fun y => y.1 ≤ 2 ∧ BndInv xs ts cs (k + 1) (2 * k + y.1) y.2.1 y.2.2) (fun y => 2 - y.1) (0, max b (nth xs k).wk, kv) ?_ ?_ ?_ ?_
      · exact ⟨by show 0 ≤ _; omega, hphi.week (by omega)⟩
      · exact (by repeat (first | exact Sub.nil | refine Sub.cons rfl ?_))
      · exact (by repeat (first | exact List.Sublist.refl _ | exact List.nil_sublist _ | refine List.Sublist.cons_cons _ ?_ | refine List.Sublist.cons _ ?_))
      · intro y hphi
        obtain ⟨i, b, kv⟩ := y
        dsimp only at hphi ⊢
        obtain ⟨hil, hphi⟩ := hphi
        refine T.seq ?_
        refine T.region ?_
        refine TL.yv (Wt.none rfl) rfl rfl (Yv.pur rfl) ?_
        refine TL.nil ?_
        refine K.seq ?_
        refine T.seq ?_
        refine T.cond rfl (fun h2 => ?_) (fun h2 => ?_)
        · have p2 := h2
          try simp only [decide_eq_true_eq, decide_eq_false_iff_not, Int.not_lt, Int.not_le, Bool.not_eq_true', Bool.not_eq_false', Decidable.not_not, Bool.and_eq_true, Bool.or_eq_true, Bool.and_eq_false_iff, Bool.or_eq_false_iff] at p2
          have hpl := plcells_at (nth xs k) i (by omega)
          obtain ⟨a, ha⟩ : ∃ a, a = SS xs wks (2 * k + i) (plOf (nth xs k) i) := ⟨_, rfl⟩
          obtain ⟨c, hcq⟩ : ∃ c, c = capP ts cs (plOf (nth xs k) i) := ⟨_, rfl⟩
          have hgv : (kvGet kv (plOf (nth xs k) i)).getD (.int .i64 0) = .int .i64 a := by rw [hphi.sums, ha]
          have hgu : (kvGet (kvSet kv (plOf (nth xs k) i) ((kvGet kv (plOf (nth xs k) i)).getD (.int .i64 0))) (plOf (nth xs k) i)).getD (.int .i64 0) = .int .i64 a := by rw [kvGet_set, if_pos rfl]; exact hgv
          have hgw : ∀ u, (kvGet (kvSet (kvSet kv (plOf (nth xs k) i) u) (plOf (nth xs k) i) (.int .i64 (a + (nth xs k).wk))) (plOf (nth xs k) i)).getD (.int .i64 0) = .int .i64 (a + (nth xs k).wk) := fun u => by rw [kvGet_set, if_pos rfl]; rfl
          have hgc : (kvGet kv0 (plOf (nth xs k) i)).getD (.int .i64 0) = .int .i64 c := by rw [capI_get hI k i (by omega) (by omega), hcq]
          have hb1 := SS_wk hwk (2 * k + i) (by omega) (plOf (nth xs k) i)
          rw [← ha] at hb1
          have hb2 := hcap (2 * k + i) (by omega)
          rw [hp_at xs k i (by omega), ← hcq] at hb2
          refine T.skip ?_
          refine K.seq ?_
          refine T.seq ?_
          refine T.block ?_
          refine T.seq ?_
          refine T.region ?_
          first | refine TL.yv (Wt.none rfl) rfl rfl (Yv.indexV rfl rfl rfl rfl (by omega) hpl) ?_ | refine TL.yv (Wt.none rfl) rfl rfl (Yv.indexV rfl rfl rfl rfl (by omega) rfl) ?_ | refine TL.yv (Wt.none rfl) rfl rfl (Yv.indexS rfl rfl rfl rfl (by omega) rfl) ?_
          (refine TL.ew (Wt.none rfl) rfl rfl (Ew.alloc rfl) ?_; rintro _ _ ⟨g15, rfl, rfl⟩)
          first | (refine TL.ew0 (Wt.none rfl) rfl (Ew.storeAll 0 rfl rfl rfl rfl rfl rfl) ?_; rintro _ _ ⟨rfl, rfl⟩) | (refine TL.ew0 (Wt.none rfl) rfl (Ew.storeAll 1 rfl rfl rfl rfl rfl rfl) ?_; rintro _ _ ⟨rfl, rfl⟩) | (refine TL.ew0 (Wt.none rfl) rfl (Ew.storeAll 2 rfl rfl rfl rfl rfl rfl) ?_; rintro _ _ ⟨rfl, rfl⟩) | (refine TL.ew0 (Wt.none rfl) rfl (Ew.storeAll 3 rfl rfl rfl rfl rfl rfl) ?_; rintro _ _ ⟨rfl, rfl⟩) | (refine TL.ew0 (Wt.none rfl) rfl (Ew.storeAll 4 rfl rfl rfl rfl rfl rfl) ?_; rintro _ _ ⟨rfl, rfl⟩) | (refine TL.ew0 (Wt.none rfl) rfl (Ew.storeAll 5 rfl rfl rfl rfl rfl rfl) ?_; rintro _ _ ⟨rfl, rfl⟩)
          refine TL.nil ?_
          refine K.seq ?_
          refine T.seq ?_
          refine T.draw (.still 0 (.still 1 (.still 3 (.still 4 (.two 2 6 (.still 5 (.eff 6 (.still 7 (.eff 8 .done)))) (.still 7 (.eff 2 (.still 5 (.eff 8 .done))))))))) (List.eraseIdx _ 2) (by kernel_rfl) (List.eraseIdx_sublist _ _) ?_
          refine TS.still rfl (Wt.none rfl) rfl rfl (Yv.pur rfl) ?_
          first | refine TS.still rfl (Wt.none rfl) rfl rfl (Yv.loadC rfl rfl hk rfl rfl (fun h => h)) ?_ | refine TS.still rfl (Wt.none rfl) rfl rfl (Yv.loadC rfl rfl hk1 rfl rfl (fun h => h)) ?_ | refine TS.still rfl (Wt.none rfl) rfl rfl (Yv.loadAB rfl rfl hk rfl (fun h => h)) ?_ | refine TS.still rfl (Wt.none rfl) rfl rfl (Yv.loadAO 0 rfl rfl rfl rfl) ?_ | refine TS.still rfl (Wt.none rfl) rfl rfl (Yv.loadAO 1 rfl rfl rfl rfl) ?_ | refine TS.still rfl (Wt.none rfl) rfl rfl (Yv.loadAO 2 rfl rfl rfl rfl) ?_ | refine TS.still rfl (Wt.none rfl) rfl rfl (Yv.loadAO 3 rfl rfl rfl rfl) ?_ | refine TS.still rfl (Wt.none rfl) rfl rfl (Yv.loadAO 4 rfl rfl rfl rfl) ?_ | refine TS.still rfl (Wt.none rfl) rfl rfl (Yv.loadAO 5 rfl rfl rfl rfl) ?_ | refine TS.still rfl (Wt.none rfl) rfl rfl (Yv.loadAB rfl rfl (by assumption) rfl (fun h => h)) ?_
          refine TS.still rfl (Wt.none rfl) rfl rfl (Yv.fieldAddr rfl rfl) ?_
          first | refine TS.still rfl (Wt.none rfl) rfl rfl (Yv.loadC rfl rfl hk rfl rfl (fun h => h)) ?_ | refine TS.still rfl (Wt.none rfl) rfl rfl (Yv.loadC rfl rfl hk1 rfl rfl (fun h => h)) ?_ | refine TS.still rfl (Wt.none rfl) rfl rfl (Yv.loadAB rfl rfl hk rfl (fun h => h)) ?_ | refine TS.still rfl (Wt.none rfl) rfl rfl (Yv.loadO 0 rfl rfl rfl rfl) ?_ | refine TS.still rfl (Wt.none rfl) rfl rfl (Yv.loadO 1 rfl rfl rfl rfl) ?_ | refine TS.still rfl (Wt.none rfl) rfl rfl (Yv.loadO 2 rfl rfl rfl rfl) ?_ | refine TS.still rfl (Wt.none rfl) rfl rfl (Yv.loadO 3 rfl rfl rfl rfl) ?_ | refine TS.still rfl (Wt.none rfl) rfl rfl (Yv.loadO 4 rfl rfl rfl rfl) ?_ | refine TS.still rfl (Wt.none rfl) rfl rfl (Yv.loadO 5 rfl rfl rfl rfl) ?_ | refine TS.still rfl (Wt.none rfl) rfl rfl (Yv.loadB rfl rfl (by assumption) (fun h => h)) ?_ | refine TS.still rfl (Wt.none rfl) rfl rfl (Yv.loadS 0 rfl rfl rfl (by first | rfl | assumption)) ?_ | refine TS.still rfl (Wt.none rfl) rfl rfl (Yv.loadS 1 rfl rfl rfl (by first | rfl | assumption)) ?_ | refine TS.still rfl (Wt.none rfl) rfl rfl (Yv.loadS 2 rfl rfl rfl (by first | rfl | assumption)) ?_ | refine TS.still rfl (Wt.none rfl) rfl rfl (Yv.loadS 3 rfl rfl rfl (by first | rfl | assumption)) ?_ | refine TS.still rfl (Wt.none rfl) rfl rfl (Yv.loadS 4 rfl rfl rfl (by first | rfl | assumption)) ?_ | refine TS.still rfl (Wt.none rfl) rfl rfl (Yv.loadS 5 rfl rfl rfl (by first | rfl | assumption)) ?_
          refine TS.two ?_ ?_
          · skip
            first | refine TSo.yv rfl (Wt.none rfl) rfl rfl (Yv.lookupV 2 rfl rfl rfl rfl hgv) (by repeat (first | exact List.Sublist.refl _ | exact List.nil_sublist _ | refine List.Sublist.cons_cons _ ?_ | refine List.Sublist.cons _ ?_)) ?_ | refine TSo.yv rfl (Wt.none rfl) rfl rfl (Yv.lookupV 2 rfl rfl rfl rfl (hgw _)) (by repeat (first | exact List.Sublist.refl _ | exact List.nil_sublist _ | refine List.Sublist.cons_cons _ ?_ | refine List.Sublist.cons _ ?_)) ?_ | refine TSo.yv rfl (Wt.none rfl) rfl rfl (Yv.lookupE 2 rfl rfl rfl rfl hgu) (by repeat (first | exact List.Sublist.refl _ | exact List.nil_sublist _ | refine List.Sublist.cons_cons _ ?_ | refine List.Sublist.cons _ ?_)) ?_ | refine TSo.yv rfl (Wt.none rfl) rfl rfl (Yv.lookupV 3 rfl rfl rfl rfl hgc) (by repeat (first | exact List.Sublist.refl _ | exact List.nil_sublist _ | refine List.Sublist.cons_cons _ ?_ | refine List.Sublist.cons _ ?_)) ?_
            first | refine TS.still rfl (Wt.none rfl) rfl rfl (Yv.addI rfl rfl rfl (by omega)) ?_ | refine TS.still rfl (Wt.none rfl) rfl rfl (Yv.pur rfl) ?_
            refine TS.eff ?_
            first | (refine TSo.ew rfl (Wt.none rfl) rfl rfl (Ew.mapEntry 0 rfl rfl rfl rfl) ?_; rintro _ _ ⟨s48, rfl, rfl⟩; refine ⟨(by repeat (first | exact List.Sublist.refl _ | exact List.nil_sublist _ | refine List.Sublist.cons_cons _ ?_ | refine List.Sublist.cons _ ?_)), ?_⟩) | (refine TSo.ew rfl (Wt.none rfl) rfl rfl (Ew.mapEntry 1 rfl rfl rfl rfl) ?_; rintro _ _ ⟨s48, rfl, rfl⟩; refine ⟨(by repeat (first | exact List.Sublist.refl _ | exact List.nil_sublist _ | refine List.Sublist.cons_cons _ ?_ | refine List.Sublist.cons _ ?_)), ?_⟩) | (refine TSo.ew rfl (Wt.none rfl) rfl rfl (Ew.mapEntry 2 rfl rfl rfl rfl) ?_; rintro _ _ ⟨s48, rfl, rfl⟩; refine ⟨(by repeat (first | exact List.Sublist.refl _ | exact List.nil_sublist _ | refine List.Sublist.cons_cons _ ?_ | refine List.Sublist.cons _ ?_)), ?_⟩) | (refine TSo.ew rfl (Wt.none rfl) rfl rfl (Ew.mapEntry 3 rfl rfl rfl rfl) ?_; rintro _ _ ⟨s48, rfl, rfl⟩; refine ⟨(by repeat (first | exact List.Sublist.refl _ | exact List.nil_sublist _ | refine List.Sublist.cons_cons _ ?_ | refine List.Sublist.cons _ ?_)), ?_⟩) | (refine TSo.ew rfl (Wt.none rfl) rfl rfl (Ew.mapEntry 4 rfl rfl rfl rfl) ?_; rintro _ _ ⟨s48, rfl, rfl⟩; refine ⟨(by repeat (first | exact List.Sublist.refl _ | exact List.nil_sublist _ | refine List.Sublist.cons_cons _ ?_ | refine List.Sublist.cons _ ?_)), ?_⟩) | (refine TSo.ew rfl (Wt.none rfl) rfl rfl (Ew.mapEntry 5 rfl rfl rfl rfl) ?_; rintro _ _ ⟨s48, rfl, rfl⟩; refine ⟨(by repeat (first | exact List.Sublist.refl _ | exact List.nil_sublist _ | refine List.Sublist.cons_cons _ ?_ | refine List.Sublist.cons _ ?_)), ?_⟩) | (refine TSo.ew rfl (Wt.none rfl) rfl rfl (Ew.mapEntry 6 rfl rfl rfl rfl) ?_; rintro _ _ ⟨s48, rfl, rfl⟩; refine ⟨(by repeat (first | exact List.Sublist.refl _ | exact List.nil_sublist _ | refine List.Sublist.cons_cons _ ?_ | refine List.Sublist.cons _ ?_)), ?_⟩)
            refine TS.still rfl (Wt.none rfl) rfl rfl (Yv.pur rfl) ?_
            refine TS.eff ?_
            first | (refine TSo.ew0 rfl (Wt.none rfl) rfl (Ew.entryStore 0 rfl rfl rfl rfl rfl) ?_; rintro _ _ ⟨rfl, rfl⟩; refine ⟨(by repeat (first | exact List.Sublist.refl _ | exact List.nil_sublist _ | refine List.Sublist.cons_cons _ ?_ | refine List.Sublist.cons _ ?_)), ?_⟩) | (refine TSo.ew0 rfl (Wt.none rfl) rfl (Ew.entryStore 1 rfl rfl rfl rfl rfl) ?_; rintro _ _ ⟨rfl, rfl⟩; refine ⟨(by repeat (first | exact List.Sublist.refl _ | exact List.nil_sublist _ | refine List.Sublist.cons_cons _ ?_ | refine List.Sublist.cons _ ?_)), ?_⟩) | (refine TSo.ew0 rfl (Wt.none rfl) rfl (Ew.entryStore 2 rfl rfl rfl rfl rfl) ?_; rintro _ _ ⟨rfl, rfl⟩; refine ⟨(by repeat (first | exact List.Sublist.refl _ | exact List.nil_sublist _ | refine List.Sublist.cons_cons _ ?_ | refine List.Sublist.cons _ ?_)), ?_⟩) | (refine TSo.ew0 rfl (Wt.none rfl) rfl (Ew.entryStore 3 rfl rfl rfl rfl rfl) ?_; rintro _ _ ⟨rfl, rfl⟩; refine ⟨(by repeat (first | exact List.Sublist.refl _ | exact List.nil_sublist _ | refine List.Sublist.cons_cons _ ?_ | refine List.Sublist.cons _ ?_)), ?_⟩) | (refine TSo.ew0 rfl (Wt.none rfl) rfl (Ew.entryStore 4 rfl rfl rfl rfl rfl) ?_; rintro _ _ ⟨rfl, rfl⟩; refine ⟨(by repeat (first | exact List.Sublist.refl _ | exact List.nil_sublist _ | refine List.Sublist.cons_cons _ ?_ | refine List.Sublist.cons _ ?_)), ?_⟩) | (refine TSo.ew0 rfl (Wt.none rfl) rfl (Ew.entryStore 5 rfl rfl rfl rfl rfl) ?_; rintro _ _ ⟨rfl, rfl⟩; refine ⟨(by repeat (first | exact List.Sublist.refl _ | exact List.nil_sublist _ | refine List.Sublist.cons_cons _ ?_ | refine List.Sublist.cons _ ?_)), ?_⟩) | (refine TSo.ew0 rfl (Wt.none rfl) rfl (Ew.entryStore 6 rfl rfl rfl rfl rfl) ?_; rintro _ _ ⟨rfl, rfl⟩; refine ⟨(by repeat (first | exact List.Sublist.refl _ | exact List.nil_sublist _ | refine List.Sublist.cons_cons _ ?_ | refine List.Sublist.cons _ ?_)), ?_⟩)
            refine TS.done ?_
            refine K.seq ?_
            refine T.draw (.still 0 (.still 1 (.still 2 (.still 3 (.still 4 (.still 5 (.still 6 (.still 7 (.still 8 (.still 9 (.still 10 (.still 11 (.still 12 (.still 13 (.still 14 .done))))))))))))))) _ (by kernel_rfl) (List.Sublist.refl _) ?_
            refine TS.still rfl (Wt.none rfl) rfl rfl (Yv.pur rfl) ?_
            refine TS.still rfl (Wt.none rfl) rfl rfl (Yv.pur rfl) ?_
            first | refine TS.still rfl (Wt.none rfl) rfl rfl (Yv.loadC rfl rfl hk rfl rfl (fun h => h)) ?_ | refine TS.still rfl (Wt.none rfl) rfl rfl (Yv.loadC rfl rfl hk1 rfl rfl (fun h => h)) ?_ | refine TS.still rfl (Wt.none rfl) rfl rfl (Yv.loadAB rfl rfl hk rfl (fun h => h)) ?_ | refine TS.still rfl (Wt.none rfl) rfl rfl (Yv.loadAO 0 rfl rfl rfl rfl) ?_ | refine TS.still rfl (Wt.none rfl) rfl rfl (Yv.loadAO 1 rfl rfl rfl rfl) ?_ | refine TS.still rfl (Wt.none rfl) rfl rfl (Yv.loadAO 2 rfl rfl rfl rfl) ?_ | refine TS.still rfl (Wt.none rfl) rfl rfl (Yv.loadAO 3 rfl rfl rfl rfl) ?_ | refine TS.still rfl (Wt.none rfl) rfl rfl (Yv.loadAO 4 rfl rfl rfl rfl) ?_ | refine TS.still rfl (Wt.none rfl) rfl rfl (Yv.loadAO 5 rfl rfl rfl rfl) ?_ | refine TS.still rfl (Wt.none rfl) rfl rfl (Yv.loadAB rfl rfl (by assumption) rfl (fun h => h)) ?_
            first | refine TS.still rfl (Wt.none rfl) rfl rfl (Yv.lookupV 2 rfl rfl rfl rfl hgv) ?_ | refine TS.still rfl (Wt.none rfl) rfl rfl (Yv.lookupV 2 rfl rfl rfl rfl (hgw _)) ?_ | refine TS.still rfl (Wt.none rfl) rfl rfl (Yv.lookupE 2 rfl rfl rfl rfl hgu) ?_ | refine TS.still rfl (Wt.none rfl) rfl rfl (Yv.lookupV 3 rfl rfl rfl rfl hgc) ?_
            refine TS.still rfl (Wt.none rfl) rfl rfl (Yv.pur rfl) ?_
            first | refine TS.still rfl (Wt.none rfl) rfl rfl (Yv.loadC rfl rfl hk rfl rfl (fun h => h)) ?_ | refine TS.still rfl (Wt.none rfl) rfl rfl (Yv.loadC rfl rfl hk1 rfl rfl (fun h => h)) ?_ | refine TS.still rfl (Wt.none rfl) rfl rfl (Yv.loadAB rfl rfl hk rfl (fun h => h)) ?_ | refine TS.still rfl (Wt.none rfl) rfl rfl (Yv.loadAO 0 rfl rfl rfl rfl) ?_ | refine TS.still rfl (Wt.none rfl) rfl rfl (Yv.loadAO 1 rfl rfl rfl rfl) ?_ | refine TS.still rfl (Wt.none rfl) rfl rfl (Yv.loadAO 2 rfl rfl rfl rfl) ?_ | refine TS.still rfl (Wt.none rfl) rfl rfl (Yv.loadAO 3 rfl rfl rfl rfl) ?_ | refine TS.still rfl (Wt.none rfl) rfl rfl (Yv.loadAO 4 rfl rfl rfl rfl) ?_ | refine TS.still rfl (Wt.none rfl) rfl rfl (Yv.loadAO 5 rfl rfl rfl rfl) ?_ | refine TS.still rfl (Wt.none rfl) rfl rfl (Yv.loadAB rfl rfl (by assumption) rfl (fun h => h)) ?_
            first | refine TS.still rfl (Wt.none rfl) rfl rfl (Yv.lookupV 2 rfl rfl rfl rfl hgv) ?_ | refine TS.still rfl (Wt.none rfl) rfl rfl (Yv.lookupV 2 rfl rfl rfl rfl (hgw _)) ?_ | refine TS.still rfl (Wt.none rfl) rfl rfl (Yv.lookupE 2 rfl rfl rfl rfl hgu) ?_ | refine TS.still rfl (Wt.none rfl) rfl rfl (Yv.lookupV 3 rfl rfl rfl rfl hgc) ?_
            first | refine TS.still rfl (Wt.none rfl) rfl rfl (Yv.addI rfl rfl rfl (by omega)) ?_ | refine TS.still rfl (Wt.none rfl) rfl rfl (Yv.pur rfl) ?_
            first | refine TS.still rfl (Wt.none rfl) rfl rfl (Yv.subI rfl rfl rfl (by omega)) ?_ | refine TS.still rfl (Wt.none rfl) rfl rfl (Yv.pur rfl) ?_
            refine TS.still rfl (Wt.none rfl) rfl rfl (Yv.pur rfl) ?_
            first | refine TS.still rfl (Wt.none rfl) rfl rfl (Yv.loadC rfl rfl hk rfl rfl (fun h => h)) ?_ | refine TS.still rfl (Wt.none rfl) rfl rfl (Yv.loadC rfl rfl hk1 rfl rfl (fun h => h)) ?_ | refine TS.still rfl (Wt.none rfl) rfl rfl (Yv.loadAB rfl rfl hk rfl (fun h => h)) ?_ | refine TS.still rfl (Wt.none rfl) rfl rfl (Yv.loadAO 0 rfl rfl rfl rfl) ?_ | refine TS.still rfl (Wt.none rfl) rfl rfl (Yv.loadAO 1 rfl rfl rfl rfl) ?_ | refine TS.still rfl (Wt.none rfl) rfl rfl (Yv.loadAO 2 rfl rfl rfl rfl) ?_ | refine TS.still rfl (Wt.none rfl) rfl rfl (Yv.loadAO 3 rfl rfl rfl rfl) ?_ | refine TS.still rfl (Wt.none rfl) rfl rfl (Yv.loadAO 4 rfl rfl rfl rfl) ?_ | refine TS.still rfl (Wt.none rfl) rfl rfl (Yv.loadAO 5 rfl rfl rfl rfl) ?_ | refine TS.still rfl (Wt.none rfl) rfl rfl (Yv.loadAB rfl rfl (by assumption) rfl (fun h => h)) ?_
            first | refine TS.still rfl (Wt.none rfl) rfl rfl (Yv.lookupV 2 rfl rfl rfl rfl hgv) ?_ | refine TS.still rfl (Wt.none rfl) rfl rfl (Yv.lookupV 2 rfl rfl rfl rfl (hgw _)) ?_ | refine TS.still rfl (Wt.none rfl) rfl rfl (Yv.lookupE 2 rfl rfl rfl rfl hgu) ?_ | refine TS.still rfl (Wt.none rfl) rfl rfl (Yv.lookupV 3 rfl rfl rfl rfl hgc) ?_
            refine TS.still rfl (Wt.none rfl) rfl rfl (Yv.quoI rfl rfl rfl (by omega)) ?_
            refine TS.still rfl (Wt.none rfl) rfl rfl (Yv.max2 rfl rfl rfl) ?_
            refine TS.still rfl (Wt.none rfl) rfl rfl (Yv.pur rfl) ?_
            refine TS.done ?_
            refine K.blk_normal ?_
            refine K.seq ?_
            refine T.region ?_
            first | refine TL.yv (Wt.none rfl) rfl rfl (Yv.addI rfl rfl rfl (by omega)) ?_ | refine TL.yv (Wt.none rfl) rfl rfl (Yv.pur rfl) ?_
            refine TL.yv (Wt.none rfl) rfl rfl (Yv.pur rfl) ?_
            refine TL.nil ?_
            exact K.next (i + 1, max b ((a + (nth xs k).wk + c - 1) / c), _) ⟨by show i + 1 ≤ _; omega, hphi.sum (by omega) (by omega) hwk hcap ha hcq _⟩ (by show 2 - (i + 1) < 2 - i; omega) (by repeat (first | exact Sub.nil | refine Sub.cons rfl ?_)) (by repeat (first | exact List.Sublist.refl _ | exact List.nil_sublist _ | refine List.Sublist.cons_cons _ ?_ | refine List.Sublist.cons _ ?_))
          · skip
            first | (refine TSo.ew rfl (Wt.none rfl) rfl rfl (Ew.mapEntry 0 rfl rfl rfl rfl) ?_; rintro _ _ ⟨s48, rfl, rfl⟩; refine ⟨(by repeat (first | exact List.Sublist.refl _ | exact List.nil_sublist _ | refine List.Sublist.cons_cons _ ?_ | refine List.Sublist.cons _ ?_)), ?_⟩) | (refine TSo.ew rfl (Wt.none rfl) rfl rfl (Ew.mapEntry 1 rfl rfl rfl rfl) ?_; rintro _ _ ⟨s48, rfl, rfl⟩; refine ⟨(by repeat (first | exact List.Sublist.refl _ | exact List.nil_sublist _ | refine List.Sublist.cons_cons _ ?_ | refine List.Sublist.cons _ ?_)), ?_⟩) | (refine TSo.ew rfl (Wt.none rfl) rfl rfl (Ew.mapEntry 2 rfl rfl rfl rfl) ?_; rintro _ _ ⟨s48, rfl, rfl⟩; refine ⟨(by repeat (first | exact List.Sublist.refl _ | exact List.nil_sublist _ | refine List.Sublist.cons_cons _ ?_ | refine List.Sublist.cons _ ?_)), ?_⟩) | (refine TSo.ew rfl (Wt.none rfl) rfl rfl (Ew.mapEntry 3 rfl rfl rfl rfl) ?_; rintro _ _ ⟨s48, rfl, rfl⟩; refine ⟨(by repeat (first | exact List.Sublist.refl _ | exact List.nil_sublist _ | refine List.Sublist.cons_cons _ ?_ | refine List.Sublist.cons _ ?_)), ?_⟩) | (refine TSo.ew rfl (Wt.none rfl) rfl rfl (Ew.mapEntry 4 rfl rfl rfl rfl) ?_; rintro _ _ ⟨s48, rfl, rfl⟩; refine ⟨(by repeat (first | exact List.Sublist.refl _ | exact List.nil_sublist _ | refine List.Sublist.cons_cons _ ?_ | refine List.Sublist.cons _ ?_)), ?_⟩) | (refine TSo.ew rfl (Wt.none rfl) rfl rfl (Ew.mapEntry 5 rfl rfl rfl rfl) ?_; rintro _ _ ⟨s48, rfl, rfl⟩; refine ⟨(by repeat (first | exact List.Sublist.refl _ | exact List.nil_sublist _ | refine List.Sublist.cons_cons _ ?_ | refine List.Sublist.cons _ ?_)), ?_⟩) | (refine TSo.ew rfl (Wt.none rfl) rfl rfl (Ew.mapEntry 6 rfl rfl rfl rfl) ?_; rintro _ _ ⟨s48, rfl, rfl⟩; refine ⟨(by repeat (first | exact List.Sublist.refl _ | exact List.nil_sublist _ | refine List.Sublist.cons_cons _ ?_ | refine List.Sublist.cons _ ?_)), ?_⟩)
            refine TS.still rfl (Wt.none rfl) rfl rfl (Yv.pur rfl) ?_
            refine TS.eff ?_
            first | refine TSo.yv rfl (Wt.none rfl) rfl rfl (Yv.lookupV 2 rfl rfl rfl rfl hgv) (by repeat (first | exact List.Sublist.refl _ | exact List.nil_sublist _ | refine List.Sublist.cons_cons _ ?_ | refine List.Sublist.cons _ ?_)) ?_ | refine TSo.yv rfl (Wt.none rfl) rfl rfl (Yv.lookupV 2 rfl rfl rfl rfl (hgw _)) (by repeat (first | exact List.Sublist.refl _ | exact List.nil_sublist _ | refine List.Sublist.cons_cons _ ?_ | refine List.Sublist.cons _ ?_)) ?_ | refine TSo.yv rfl (Wt.none rfl) rfl rfl (Yv.lookupE 2 rfl rfl rfl rfl hgu) (by repeat (first | exact List.Sublist.refl _ | exact List.nil_sublist _ | refine List.Sublist.cons_cons _ ?_ | refine List.Sublist.cons _ ?_)) ?_ | refine TSo.yv rfl (Wt.none rfl) rfl rfl (Yv.lookupV 3 rfl rfl rfl rfl hgc) (by repeat (first | exact List.Sublist.refl _ | exact List.nil_sublist _ | refine List.Sublist.cons_cons _ ?_ | refine List.Sublist.cons _ ?_)) ?_
            first | refine TS.still rfl (Wt.none rfl) rfl rfl (Yv.addI rfl rfl rfl (by omega)) ?_ | refine TS.still rfl (Wt.none rfl) rfl rfl (Yv.pur rfl) ?_
            refine TS.eff ?_
            first | (refine TSo.ew0 rfl (Wt.none rfl) rfl (Ew.entryStore 0 rfl rfl rfl rfl rfl) ?_; rintro _ _ ⟨rfl, rfl⟩; refine ⟨(by repeat (first | exact List.Sublist.refl _ | exact List.nil_sublist _ | refine List.Sublist.cons_cons _ ?_ | refine List.Sublist.cons _ ?_)), ?_⟩) | (refine TSo.ew0 rfl (Wt.none rfl) rfl (Ew.entryStore 1 rfl rfl rfl rfl rfl) ?_; rintro _ _ ⟨rfl, rfl⟩; refine ⟨(by repeat (first | exact List.Sublist.refl _ | exact List.nil_sublist _ | refine List.Sublist.cons_cons _ ?_ | refine List.Sublist.cons _ ?_)), ?_⟩) | (refine TSo.ew0 rfl (Wt.none rfl) rfl (Ew.entryStore 2 rfl rfl rfl rfl rfl) ?_; rintro _ _ ⟨rfl, rfl⟩; refine ⟨(by repeat (first | exact List.Sublist.refl _ | exact List.nil_sublist _ | refine List.Sublist.cons_cons _ ?_ | refine List.Sublist.cons _ ?_)), ?_⟩) | (refine TSo.ew0 rfl (Wt.none rfl) rfl (Ew.entryStore 3 rfl rfl rfl rfl rfl) ?_; rintro _ _ ⟨rfl, rfl⟩; refine ⟨(by repeat (first | exact List.Sublist.refl _ | exact List.nil_sublist _ | refine List.Sublist.cons_cons _ ?_ | refine List.Sublist.cons _ ?_)), ?_⟩) | (refine TSo.ew0 rfl (Wt.none rfl) rfl (Ew.entryStore 4 rfl rfl rfl rfl rfl) ?_; rintro _ _ ⟨rfl, rfl⟩; refine ⟨(by repeat (first | exact List.Sublist.refl _ | exact List.nil_sublist _ | refine List.Sublist.cons_cons _ ?_ | refine List.Sublist.cons _ ?_)), ?_⟩) | (refine TSo.ew0 rfl (Wt.none rfl) rfl (Ew.entryStore 5 rfl rfl rfl rfl rfl) ?_; rintro _ _ ⟨rfl, rfl⟩; refine ⟨(by repeat (first | exact List.Sublist.refl _ | exact List.nil_sublist _ | refine List.Sublist.cons_cons _ ?_ | refine List.Sublist.cons _ ?_)), ?_⟩) | (refine TSo.ew0 rfl (Wt.none rfl) rfl (Ew.entryStore 6 rfl rfl rfl rfl rfl) ?_; rintro _ _ ⟨rfl, rfl⟩; refine ⟨(by repeat (first | exact List.Sublist.refl _ | exact List.nil_sublist _ | refine List.Sublist.cons_cons _ ?_ | refine List.Sublist.cons _ ?_)), ?_⟩)
            refine TS.done ?_
            refine K.seq ?_
            refine T.draw (.still 0 (.still 1 (.still 2 (.still 3 (.still 4 (.still 5 (.still 6 (.still 7 (.still 8 (.still 9 (.still 10 (.still 11 (.still 12 (.still 13 (.still 14 .done))))))))))))))) _ (by kernel_rfl) (List.Sublist.refl _) ?_
            refine TS.still rfl (Wt.none rfl) rfl rfl (Yv.pur rfl) ?_
            refine TS.still rfl (Wt.none rfl) rfl rfl (Yv.pur rfl) ?_
            first | refine TS.still rfl (Wt.none rfl) rfl rfl (Yv.loadC rfl rfl hk rfl rfl (fun h => h)) ?_ | refine TS.still rfl (Wt.none rfl) rfl rfl (Yv.loadC rfl rfl hk1 rfl rfl (fun h => h)) ?_ | refine TS.still rfl (Wt.none rfl) rfl rfl (Yv.loadAB rfl rfl hk rfl (fun h => h)) ?_ | refine TS.still rfl (Wt.none rfl) rfl rfl (Yv.loadAO 0 rfl rfl rfl rfl) ?_ | refine TS.still rfl (Wt.none rfl) rfl rfl (Yv.loadAO 1 rfl rfl rfl rfl) ?_ | refine TS.still rfl (Wt.none rfl) rfl rfl (Yv.loadAO 2 rfl rfl rfl rfl) ?_ | refine TS.still rfl (Wt.none rfl) rfl rfl (Yv.loadAO 3 rfl rfl rfl rfl) ?_ | refine TS.still rfl (Wt.none rfl) rfl rfl (Yv.loadAO 4 rfl rfl rfl rfl) ?_ | refine TS.still rfl (Wt.none rfl) rfl rfl (Yv.loadAO 5 rfl rfl rfl rfl) ?_ | refine TS.still rfl (Wt.none rfl) rfl rfl (Yv.loadAB rfl rfl (by assumption) rfl (fun h => h)) ?_
            first | refine TS.still rfl (Wt.none rfl) rfl rfl (Yv.lookupV 2 rfl rfl rfl rfl hgv) ?_ | refine TS.still rfl (Wt.none rfl) rfl rfl (Yv.lookupV 2 rfl rfl rfl rfl (hgw _)) ?_ | refine TS.still rfl (Wt.none rfl) rfl rfl (Yv.lookupE 2 rfl rfl rfl rfl hgu) ?_ | refine TS.still rfl (Wt.none rfl) rfl rfl (Yv.lookupV 3 rfl rfl rfl rfl hgc) ?_
            refine TS.still rfl (Wt.none rfl) rfl rfl (Yv.pur rfl) ?_
            first | refine TS.still rfl (Wt.none rfl) rfl rfl (Yv.loadC rfl rfl hk rfl rfl (fun h => h)) ?_ | refine TS.still rfl (Wt.none rfl) rfl rfl (Yv.loadC rfl rfl hk1 rfl rfl (fun h => h)) ?_ | refine TS.still rfl (Wt.none rfl) rfl rfl (Yv.loadAB rfl rfl hk rfl (fun h => h)) ?_ | refine TS.still rfl (Wt.none rfl) rfl rfl (Yv.loadAO 0 rfl rfl rfl rfl) ?_ | refine TS.still rfl (Wt.none rfl) rfl rfl (Yv.loadAO 1 rfl rfl rfl rfl) ?_ | refine TS.still rfl (Wt.none rfl) rfl rfl (Yv.loadAO 2 rfl rfl rfl rfl) ?_ | refine TS.still rfl (Wt.none rfl) rfl rfl (Yv.loadAO 3 rfl rfl rfl rfl) ?_ | refine TS.still rfl (Wt.none rfl) rfl rfl (Yv.loadAO 4 rfl rfl rfl rfl) ?_ | refine TS.still rfl (Wt.none rfl) rfl rfl (Yv.loadAO 5 rfl rfl rfl rfl) ?_ | refine TS.still rfl (Wt.none rfl) rfl rfl (Yv.loadAB rfl rfl (by assumption) rfl (fun h => h)) ?_
            first | refine TS.still rfl (Wt.none rfl) rfl rfl (Yv.lookupV 2 rfl rfl rfl rfl hgv) ?_ | refine TS.still rfl (Wt.none rfl) rfl rfl (Yv.lookupV 2 rfl rfl rfl rfl (hgw _)) ?_ | refine TS.still rfl (Wt.none rfl) rfl rfl (Yv.lookupE 2 rfl rfl rfl rfl hgu) ?_ | refine TS.still rfl (Wt.none rfl) rfl rfl (Yv.lookupV 3 rfl rfl rfl rfl hgc) ?_
            first | refine TS.still rfl (Wt.none rfl) rfl rfl (Yv.addI rfl rfl rfl (by omega)) ?_ | refine TS.still rfl (Wt.none rfl) rfl rfl (Yv.pur rfl) ?_
            first | refine TS.still rfl (Wt.none rfl) rfl rfl (Yv.subI rfl rfl rfl (by omega)) ?_ | refine TS.still rfl (Wt.none rfl) rfl rfl (Yv.pur rfl) ?_
            refine TS.still rfl (Wt.none rfl) rfl rfl (Yv.pur rfl) ?_
            first | refine TS.still rfl (Wt.none rfl) rfl rfl (Yv.loadC rfl rfl hk rfl rfl (fun h => h)) ?_ | refine TS.still rfl (Wt.none rfl) rfl rfl (Yv.loadC rfl rfl hk1 rfl rfl (fun h => h)) ?_ | refine TS.still rfl (Wt.none rfl) rfl rfl (Yv.loadAB rfl rfl hk rfl (fun h => h)) ?_ | refine TS.still rfl (Wt.none rfl) rfl rfl (Yv.loadAO 0 rfl rfl rfl rfl) ?_ | refine TS.still rfl (Wt.none rfl) rfl rfl (Yv.loadAO 1 rfl rfl rfl rfl) ?_ | refine TS.still rfl (Wt.none rfl) rfl rfl (Yv.loadAO 2 rfl rfl rfl rfl) ?_ | refine TS.still rfl (Wt.none rfl) rfl rfl (Yv.loadAO 3 rfl rfl rfl rfl) ?_ | refine TS.still rfl (Wt.none rfl) rfl rfl (Yv.loadAO 4 rfl rfl rfl rfl) ?_ | refine TS.still rfl (Wt.none rfl) rfl rfl (Yv.loadAO 5 rfl rfl rfl rfl) ?_ | refine TS.still rfl (Wt.none rfl) rfl rfl (Yv.loadAB rfl rfl (by assumption) rfl (fun h => h)) ?_
            first | refine TS.still rfl (Wt.none rfl) rfl rfl (Yv.lookupV 2 rfl rfl rfl rfl hgv) ?_ | refine TS.still rfl (Wt.none rfl) rfl rfl (Yv.lookupV 2 rfl rfl rfl rfl (hgw _)) ?_ | refine TS.still rfl (Wt.none rfl) rfl rfl (Yv.lookupE 2 rfl rfl rfl rfl hgu) ?_ | refine TS.still rfl (Wt.none rfl) rfl rfl (Yv.lookupV 3 rfl rfl rfl rfl hgc) ?_
            refine TS.still rfl (Wt.none rfl) rfl rfl (Yv.quoI rfl rfl rfl (by omega)) ?_
            refine TS.still rfl (Wt.none rfl) rfl rfl (Yv.max2 rfl rfl rfl) ?_
            refine TS.still rfl (Wt.none rfl) rfl rfl (Yv.pur rfl) ?_
            refine TS.done ?_
            refine K.blk_normal ?_
            refine K.seq ?_
            refine T.region ?_
            first | refine TL.yv (Wt.none rfl) rfl rfl (Yv.addI rfl rfl rfl (by omega)) ?_ | refine TL.yv (Wt.none rfl) rfl rfl (Yv.pur rfl) ?_
            refine TL.yv (Wt.none rfl) rfl rfl (Yv.pur rfl) ?_
            refine TL.nil ?_
            exact K.next (i + 1, max b ((a + (nth xs k).wk + c - 1) / c), _) ⟨by show i + 1 ≤ _; omega, hphi.sum (by omega) (by omega) hwk hcap ha hcq _⟩ (by show 2 - (i + 1) < 2 - i; omega) (by repeat (first | exact Sub.nil | refine Sub.cons rfl ?_)) (by repeat (first | exact List.Sublist.refl _ | exact List.nil_sublist _ | refine List.Sublist.cons_cons _ ?_ | refine List.Sublist.cons _ ?_))
        · have p2 := h2
          try simp only [decide_eq_true_eq, decide_eq_false_iff_not, Int.not_lt, Int.not_le, Bool.not_eq_true', Bool.not_eq_false', Decidable.not_not, Bool.and_eq_true, Bool.or_eq_true, Bool.and_eq_false_iff, Bool.or_eq_false_iff] at p2
          refine T.exit ?_
          refine K.then_exit ?_
          refine K.then_exit ?_
          refine K.blk_exit_eq ?_
          refine K.blk_normal ?_
          refine K.seq ?_
          refine T.region ?_
          first | refine TL.yv (Wt.none rfl) rfl rfl (Yv.addI rfl rfl rfl (by omega)) ?_ | refine TL.yv (Wt.none rfl) rfl rfl (Yv.pur rfl) ?_
          refine TL.yv (Wt.none rfl) rfl rfl (Yv.pur rfl) ?_
          refine TL.nil ?_
          exact K.next (k + 1, b, kv) ⟨by show k + 1 ≤ _; omega, by show BndInv xs ts cs (k + 1) (2 * (k + 1)) b kv; rw [show 2 * (k + 1) = 2 * k + i from by omega]; exact hphi⟩ (by show xs.length - (k + 1) < xs.length - k; omega) (by repeat (first | exact Sub.nil | refine Sub.cons rfl ?_)) (by repeat (first | exact List.Sublist.refl _ | exact List.nil_sublist _ | refine List.Sublist.cons_cons _ ?_ | refine List.Sublist.cons _ ?_))
    · have p1 := h1
      try simp only [decide_eq_true_eq, decide_eq_false_iff_not, Int.not_lt, Int.not_le, Bool.not_eq_true', Bool.not_eq_false', Decidable.not_not, Bool.and_eq_true, Bool.or_eq_true, Bool.and_eq_false_iff, Bool.or_eq_false_iff] at p1
      refine T.exit ?_
      refine K.then_exit ?_
      refine K.then_exit ?_
      refine K.blk_exit_eq ?_
      refine K.seq ?_
      refine T.seq ?_
      refine T.region ?_
      refine TL.yv (Wt.none rfl) rfl rfl (Yv.pur rfl) ?_
      refine TL.yv (Wt.none rfl) rfl rfl (Yv.pur rfl) ?_
      refine TL.yv (Wt.none rfl) rfl rfl (Yv.pur rfl) ?_
      refine TL.nil ?_
      refine K.seq ?_
      refine T.ret ?_
      exact K.ret2 rfl rfl rfl (fun w' hw => ⟨by rw [hphi.done (by omega) hwk], hw.isBelow⟩)
end Go.Proofs.Ytphpmjnpjnmdmaa
