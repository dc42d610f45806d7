/- Fits. -/
import Derived.Test.YtphpmjnpjnmdmaaPa
set_option maxRecDepth 100000
set_option maxHeartbeats 4000000
set_option linter.unusedSimpArgs false
set_option linter.unusedVariables false
set_option linter.unusedSectionVars false
namespace Go.Proofs.Ytphpmjnpjnmdmaa
open Go.RowKit

theorem codeOf_args {xs : List Mv} {ts cs : List Si} {ok : Bool} (h : codeOf xs ts cs ok = 0) : argsOk xs ts cs = true ∧ ok = true ∧ allFound xs ts cs = true := by
  unfold codeOf at h
  split at h
  · omega
  · rename_i h1
    split at h
    · omega
    · rename_i h2
      simp at h1 h2
      exact ⟨h1.1, h1.2, h2⟩
theorem capacities_bad (xs : List Mv) (ts cs : List Si) (v vt vc : Value) (ok : Bool) (w : World) (h : MovesAt w v xs) (ht : SitesAt w vt ts) (hcr : SitesAt w vc cs) (hl : xs.length ≤ 9223372036854775807) (hlt : ts.length ≤ 9223372036854775807) (hlc : cs.length ≤ 9223372036854775807) (hco : codeOf xs ts cs ok ≠ 0) :
    Calls Try.prog 35 #[v, vt, vc, .bool ok] w fun e w' => e = .returned (.tuple #[.map none, .int .i64 (codeOf xs ts cs ok)]) ∧ Below w.heap.size w w' :=
  (capacities_all xs ts cs v vt vc ok w h ht hcr hl hlt hlc).mono fun e w' hp => hp.elim (fun x => x.2) (fun x => absurd x.1 hco)
theorem capacities_ok (xs : List Mv) (ts cs : List Si) (v vt vc : Value) (ok : Bool) (w : World) (h : MovesAt w v xs) (ht : SitesAt w vt ts) (hcr : SitesAt w vc cs) (hl : xs.length ≤ 9223372036854775807) (hlt : ts.length ≤ 9223372036854775807) (hlc : cs.length ≤ 9223372036854775807) (hco : codeOf xs ts cs ok = 0) :
    Calls Try.prog 35 #[v, vt, vc, .bool ok] w fun e w' => ∃ x : Nat × List (Pl × Value), CapInv xs ts cs xs.length x.2 ∧ e = .returned (.tuple #[.map (some x.1), .int .i64 0]) ∧ Hp w (fun _ => False) [.mp x.1 x.2] w' :=
  (capacities_all xs ts cs v vt vc ok w h ht hcr hl hlt hlc).mono fun e w' hp => hp.elim (fun x => absurd hco x.1) (fun ⟨_, g, kv, h1, h2, h3⟩ => ⟨(g, kv), h1, h2, h3⟩)
theorem siOk_cap {xs : List Si} {k : Nat} (h : siOk xs k = true) : 1 ≤ (nth xs k).cap ∧ (nth xs k).cap ≤ 64 := by
  simp only [siOk, Bool.not_eq_true', Bool.or_eq_false_iff, decide_eq_false_iff_not] at h
  omega
theorem cap_range {xs : List Si} {id : Int} (h : sitesOk xs = true) (hf : (findSi xs id).isSome = true) : 1 ≤ capOf xs id ∧ capOf xs id ≤ 64 := by
  obtain ⟨s, hs⟩ := Option.isSome_iff_exists.1 hf
  rw [capOf_find, hs]
  unfold findSi at hs
  obtain ⟨k, hk, e⟩ := List.mem_iff_getElem.1 (List.mem_of_find?_eq_some hs)
  unfold sitesOk at h
  have := siOk_cap (List.all_eq_true.1 h k (by simpa using hk))
  rw [nth_eq hk, e] at this
  exact this
theorem capP_range {ts cs : List Si} {p : Pl} (h1 : sitesOk ts = true) (h2 : sitesOk cs = true) (hf : foundP ts cs p = true) : 1 ≤ capP ts cs p ∧ capP ts cs p ≤ 64 := by
  unfold foundP at hf
  unfold capP
  by_cases e : p.1 = true
  · rw [if_pos e] at hf ⊢; exact cap_range h2 hf
  · rw [if_neg e] at hf ⊢; exact cap_range h1 hf
theorem allFound_hp {xs : List Mv} {ts cs : List Si} (h : allFound xs ts cs = true) (s : Nat) (hs : s < 2 * xs.length) : foundP ts cs (hp xs s) = true := by
  have := List.all_eq_true.1 h (s / 2) (by simp; omega)
  simp only [Bool.and_eq_true] at this
  unfold hp
  rcases (by omega : s % 2 = 0 ∨ s % 2 = 1) with e | e
  · rw [e]; exact this.1
  · rw [e]; exact this.2
def one : Mv → Int := fun _ => 1
theorem SS_one_le (xs : List Mv) : ∀ (s : Nat) (q : Pl), SS xs one s q ≤ s ∧ 0 ≤ SS xs one s q
  | 0, q => by simp [SS]
  | s + 1, q => by
    have := SS_one_le xs s q
    have e1 : one (nth xs (s / 2)) = 1 := rfl
    rw [SS, e1]
    split <;> omega
/-- While the moves are counted: what is left of each capacity. -/
structure FitInv (xs : List Mv) (ts cs : List Si) (s : Nat) (kv : List (Pl × Value)) : Prop where
  left : ∀ t, t < 2 * xs.length → kvGet kv (hp xs t) = some (.int .i64 (capP ts cs (hp xs t) - SS xs one s (hp xs t)))
  good : ∀ t, t < s → SS xs one (t + 1) (hp xs t) ≤ capP ts cs (hp xs t)
theorem FitInv.start {xs : List Mv} {ts cs : List Si} {kv : List (Pl × Value)} (h : CapInv xs ts cs xs.length kv) : FitInv xs ts cs 0 kv := by
  refine ⟨fun t ht => ?_, fun t ht => by omega⟩
  have h1 := (h.has (t / 2) (by omega) (t % 2) (by omega)).1
  obtain ⟨v, hv⟩ := Option.isSome_iff_exists.1 h1
  have h2 := h.right _ v hv
  subst h2
  unfold hp
  rw [hv]
  simp [SS]
theorem FitInv.get {xs : List Mv} {ts cs : List Si} {k i : Nat} {kv : List (Pl × Value)} (h : FitInv xs ts cs (2 * k + i) kv) (hk : k < xs.length) (hi : i < 2) (hx : xs.length ≤ 512) (hcap : ∀ s, s < 2 * xs.length → 1 ≤ capP ts cs (hp xs s) ∧ capP ts cs (hp xs s) ≤ 64) :
    ∃ c : Int, c = capP ts cs (plOf (nth xs k) i) - SS xs one (2 * k + i) (plOf (nth xs k) i) ∧ kvGet kv (plOf (nth xs k) i) = some (.int .i64 c) ∧ -2000 ≤ c ∧ c ≤ 64 := by
  have h1 := h.left (2 * k + i) (by omega)
  have h2 := hcap (2 * k + i) (by omega)
  have h3 := SS_one_le xs (2 * k + i) (plOf (nth xs k) i)
  rw [hp_at xs k i hi] at h1 h2
  exact ⟨_, rfl, h1, by omega, by omega⟩
theorem FitInv.step {xs : List Mv} {ts cs : List Si} {k i : Nat} {kv : List (Pl × Value)} (h : FitInv xs ts cs (2 * k + i) kv) (hk : k < xs.length) (hi : i < 2) {c : Int} (hc : c = capP ts cs (plOf (nth xs k) i) - SS xs one (2 * k + i) (plOf (nth xs k) i)) (hc0 : 0 ≤ c - 1) (u : Value) :
    FitInv xs ts cs (2 * k + i + 1) (kvSet (kvSet kv (plOf (nth xs k) i) u) (plOf (nth xs k) i) (.int .i64 (c - 1))) := by
  have hpk := hp_at xs k i hi
  have hd : (2 * k + i) / 2 = k := by omega
  refine ⟨fun t ht => ?_, fun t ht => ?_⟩
  · rw [kvGet_set, SS, hpk]
    by_cases e : hp xs t = plOf (nth xs k) i
    · rw [if_pos e, e, if_pos rfl, hc]
      simp only [one]
      congr 2
      omega
    · rw [if_neg e, kvGet_set, if_neg e, if_neg (fun x => e x.symm), h.left t ht]
      congr 2
      omega
  · rcases Nat.lt_or_ge t (2 * k + i) with e | e
    · exact h.good t e
    · obtain rfl : t = 2 * k + i := by omega
      rw [SS, hpk, if_pos rfl]
      simp only [one]
      omega
def fitsM (xs : List Mv) (ts cs : List Si) : Bool := (List.range (2 * xs.length)).all fun s => decide (SS xs one (2 * xs.length) (hp xs s) ≤ capP ts cs (hp xs s))
theorem fitsM_true {xs : List Mv} {ts cs : List Si} {s : Nat} {kv : List (Pl × Value)} (h : FitInv xs ts cs s kv) (hs : 2 * xs.length ≤ s) : fitsM xs ts cs = true := by
  refine range_true fun t ht => decide_eq_true ?_
  exact (SS_bound (fun _ _ => by simp [one]) (fun q => capP ts cs q)).1 (fun r hr => h.good r (by omega)) t ht
theorem fitsM_false {xs : List Mv} {ts cs : List Si} {k i : Nat} (hk : k < xs.length) (hi : i < 2) {c : Int} (hc : c = capP ts cs (plOf (nth xs k) i) - SS xs one (2 * k + i) (plOf (nth xs k) i)) (hc0 : c - 1 < 0) : fitsM xs ts cs = false := by
  have hpk := hp_at xs k i hi
  refine range_false (2 * k + i) (by omega) (decide_eq_false fun h => ?_)
  have h1 := SS_le (xs := xs) (f := one) (fun _ _ => by simp [one]) (2 * xs.length) (2 * k + i + 1) (by omega) (by omega) (hp xs (2 * k + i))
  rw [SS, if_pos rfl] at h1
  rw [hpk] at h h1
  simp only [one] at h1
  omega
theorem movesOk_len {xs : List Mv} (h : movesOk xs = true) : xs.length ≤ 512 := by
  simp only [movesOk, Bool.and_eq_true, decide_eq_true_eq] at h
  omega
theorem code_facts {xs : List Mv} {ts cs : List Si} {ok : Bool} (h : codeOf xs ts cs ok = 0) : xs.length ≤ 512 ∧ ∀ s, s < 2 * xs.length → 1 ≤ capP ts cs (hp xs s) ∧ capP ts cs (hp xs s) ≤ 64 := by
  obtain ⟨h1, h2, h3⟩ := codeOf_args h
  simp only [argsOk, Bool.and_eq_true] at h1
  exact ⟨movesOk_len h1.1, fun s hs => capP_range h1.2.1 h1.2.2 (allFound_hp h3 s hs)⟩

theorem fits_bad (xs : List Mv) (ts cs : List Si) (v vt vc : Value) (limit : Int) (w : World) (h : MovesAt w v xs) (ht : SitesAt w vt ts) (hcr : SitesAt w vc cs) (hl : xs.length ≤ 9223372036854775807) (hlt : ts.length ≤ 9223372036854775807) (hlc : cs.length ≤ 9223372036854775807) (hco : codeOf xs ts cs (decide (0 ≤ limit)) ≠ 0) : Calls Try.prog 16 #[v, vt, vc, .int .i64 limit] w fun e w' => e = .returned (.tuple #[.bool false, .int .i64 (codeOf xs ts cs (decide (0 ≤ limit)))]) ∧ Below w.heap.size w w' := by
  obtain ⟨A, cap, rfl, hsl⟩ := h.op
  refine calls_T (M := fun _ => False) (hs := []) Try.func16 rfl rfl rfl (Hp.refl _ _) ?_
  refine T.seq ?_
  refine T.region ?_
  refine TL.yv (Wt.none rfl) rfl rfl (Yv.pur rfl) ?_
  refine TL.yv (Wt.none rfl) rfl rfl (Yv.pur rfl) ?_
  refine TL.nil ?_
  refine K.seq ?_
  refine T.seq ?_
  refine T.region ?_
  refine TL.yv (Wt.none rfl) rfl rfl (Yv.pur rfl) ?_
  refine TL.yv (Wt.none rfl) rfl rfl (Yv.pur rfl) ?_
  refine TL.yv (Wt.none rfl) rfl rfl (Yv.pur rfl) ?_
  refine TL.yv (Wt.none rfl) rfl rfl (Yv.pur rfl) ?_
  refine TL.yv (Wt.none rfl) rfl rfl (Yv.pur rfl) ?_
  (refine TL.ew (Wt.none rfl) rfl rfl (Ew.callD rfl rfl rfl (fun w hw => capacities_bad xs ts cs _ _ _ _ _ (h.kept hw) (ht.kept hw) (hcr.kept hw) hl hlt hlc hco)) ?_; rintro _ _ ⟨rfl, rfl⟩)
  refine TL.yv (Wt.none rfl) rfl rfl (Yv.pur rfl) ?_
  refine TL.yv (Wt.none rfl) rfl rfl (Yv.pur rfl) ?_
  refine TL.yv (Wt.none rfl) rfl rfl (Yv.pur rfl) ?_
  refine TL.yv (Wt.none rfl) rfl rfl (Yv.pur rfl) ?_
  refine TL.yv (Wt.none rfl) rfl rfl (Yv.pur rfl) ?_
  refine TL.nil ?_
  refine K.seq ?_
  refine T.seq ?_
  refine T.seq ?_
  refine T.region ?_
  refine TL.yv (Wt.none rfl) rfl rfl (Yv.pur rfl) ?_
  first | refine TL.yv (Wt.none rfl) rfl rfl (Yv.pur rfl) ?_ | refine TL.yv (Wt.none rfl) rfl rfl (Yv.neB rfl rfl rfl rfl) ?_
  refine TL.nil ?_
  refine K.seq ?_
  refine T.condT rfl (decide_eq_true hco) ?_
  refine T.seq ?_
  refine T.region ?_
  refine TL.yv (Wt.none rfl) rfl rfl (Yv.pur rfl) ?_
  refine TL.yv (Wt.none rfl) rfl rfl (Yv.pur rfl) ?_
  refine TL.yv (Wt.none rfl) rfl rfl (Yv.pur rfl) ?_
  refine TL.nil ?_
  refine K.seq ?_
  refine T.ret ?_
  refine K.then_ret ?_
  refine K.ret2 rfl rfl rfl (fun w' hw => ⟨?_, hw.isBelow⟩)
  rfl
theorem fits_ok (xs : List Mv) (ts cs : List Si) (v vt vc : Value) (limit : Int) (w : World) (h : MovesAt w v xs) (ht : SitesAt w vt ts) (hcr : SitesAt w vc cs) (hl : xs.length ≤ 9223372036854775807) (hlt : ts.length ≤ 9223372036854775807) (hlc : cs.length ≤ 9223372036854775807) (hco : codeOf xs ts cs (decide (0 ≤ limit)) = 0) : Calls Try.prog 16 #[v, vt, vc, .int .i64 limit] w fun e w' => e = .returned (.tuple #[.bool (fitsM xs ts cs && decide ((xs.length : Int) ≤ limit)), .int .i64 0]) ∧ Below w.heap.size w w' := by
  obtain ⟨A, cap, rfl, hsl⟩ := h.op
  obtain ⟨hx, hcap⟩ := code_facts hco
  refine calls_T (M := fun _ => False) (hs := []) Try.func16 rfl rfl rfl (Hp.refl _ _) ?_
  refine T.seq ?_
  refine T.region ?_
  refine TL.yv (Wt.none rfl) rfl rfl (Yv.pur rfl) ?_
  refine TL.yv (Wt.none rfl) rfl rfl (Yv.pur rfl) ?_
  refine TL.nil ?_
  refine K.seq ?_
  refine T.seq ?_
  refine T.region ?_
  refine TL.yv (Wt.none rfl) rfl rfl (Yv.pur rfl) ?_
  refine TL.yv (Wt.none rfl) rfl rfl (Yv.pur rfl) ?_
  refine TL.yv (Wt.none rfl) rfl rfl (Yv.pur rfl) ?_
  refine TL.yv (Wt.none rfl) rfl rfl (Yv.pur rfl) ?_
  refine TL.yv (Wt.none rfl) rfl rfl (Yv.pur rfl) ?_
  (refine TL.ew (Wt.none rfl) rfl rfl (Ew.callH rfl rfl rfl (fun w hw => capacities_ok xs ts cs _ _ _ _ _ (h.kept hw) (ht.kept hw) (hcr.kept hw) hl hlt hlc hco)) ?_; rintro _ _ ⟨⟨gm, kv0⟩, hI, rfl, rfl⟩)
  dsimp only [List.cons_append, List.nil_append] at hI ⊢
  refine TL.yv (Wt.none rfl) rfl rfl (Yv.pur rfl) ?_
  refine TL.yv (Wt.none rfl) rfl rfl (Yv.pur rfl) ?_
  refine TL.yv (Wt.none rfl) rfl rfl (Yv.pur rfl) ?_
  refine TL.yv (Wt.none rfl) rfl rfl (Yv.pur rfl) ?_
  refine TL.yv (Wt.none rfl) rfl rfl (Yv.pur rfl) ?_
  refine TL.nil ?_
  refine K.seq ?_
  refine T.seq ?_
  refine T.seq ?_
  refine T.region ?_
  refine TL.yv (Wt.none rfl) rfl rfl (Yv.pur rfl) ?_
  first | refine TL.yv (Wt.none rfl) rfl rfl (Yv.pur rfl) ?_ | refine TL.yv (Wt.none rfl) rfl rfl (Yv.neB rfl rfl rfl rfl) ?_
  refine TL.nil ?_
  refine K.seq ?_
  refine T.condF rfl (by decide) ?_
  refine T.skip ?_
  refine K.seq ?_
  refine T.seq ?_
  refine T.seq ?_
  refine T.region ?_
  refine TL.yv (Wt.none rfl) rfl rfl (Yv.pur rfl) ?_
  first | refine TL.yv (Wt.none rfl) rfl rfl (Yv.lenSl rfl rfl) ?_ | refine TL.yv (Wt.none rfl) rfl rfl (Yv.lenAr rfl) ?_
  refine TL.yv (Wt.none rfl) rfl rfl (Yv.pur rfl) ?_
  refine TL.nil ?_
  refine K.seq ?_
  refine T.block ?_
  refine T.loop (ι := Nat × List (Pl × Value)) (fun x => [(0, .slice A xs.length cap), (3, .int .i64 limit), (10, .map (some gm)), (28, .slice A xs.length cap), (29, .int .i64 (xs.length : Int)), (30, .int .i64 (x.1 : Int))]) (fun x => [.mp gm x.2]) (fun x => x.1 ≤ xs.length ∧ FitInv xs ts cs (2 * x.1) x.2) (fun x => xs.length - x.1) (0, kv0) ?_ ?_ ?_ ?_
  · exact ⟨by show 0 ≤ _; omega, FitInv.start hI⟩
  · exact (by repeat (first | exact Sub.nil | refine Sub.cons rfl ?_))
  · exact (by repeat (first | exact List.Sublist.refl _ | exact List.nil_sublist _ | refine List.Sublist.cons_cons _ ?_ | refine List.Sublist.cons _ ?_))
  · intro x hphi
    obtain ⟨k, kv⟩ := x
    dsimp only at hphi ⊢
    obtain ⟨hkl, hphi⟩ := hphi
    refine T.seq ?_
    refine T.region ?_
    refine TL.yv (Wt.none rfl) rfl rfl (Yv.pur rfl) ?_
    refine TL.nil ?_
    refine K.seq ?_
    refine T.seq ?_
    refine T.cond rfl (fun h1 => ?_) (fun h1 => ?_)
    · have p1 := h1
      try simp only [decide_eq_true_eq, decide_eq_false_iff_not, Int.not_lt, Int.not_le, Bool.not_eq_true', Bool.not_eq_false', Decidable.not_not, Bool.and_eq_true, Bool.or_eq_true, Bool.and_eq_false_iff, Bool.or_eq_false_iff] at p1
      obtain ⟨g, off, rfl, hc⟩ := hsl (by omega)
      have hk := hc k (by omega)
      have hk1 := hc (k - 1) (by omega)
      simp only [Mv.cells] at hk hk1
      refine T.skip ?_
      refine K.seq ?_
      refine T.seq ?_
      refine T.block ?_
      refine T.seq ?_
      refine T.region ?_
      first | refine TL.yv (Wt.none rfl) rfl rfl (Yv.indexSl rfl rfl rfl rfl (by omega)) ?_ | refine TL.yv (Wt.none rfl) rfl rfl (Yv.indexAr rfl rfl rfl rfl (by omega)) ?_
      first | refine TL.yv (Wt.none rfl) rfl rfl (Yv.loadC rfl rfl hk rfl rfl (fun h => h)) ?_ | refine TL.yv (Wt.none rfl) rfl rfl (Yv.loadC rfl rfl hk1 rfl rfl (fun h => h)) ?_ | refine TL.yv (Wt.none rfl) rfl rfl (Yv.loadAB rfl rfl hk rfl (fun h => h)) ?_ | refine TL.yv (Wt.none rfl) rfl rfl (Yv.loadAO 0 rfl rfl rfl rfl) ?_ | refine TL.yv (Wt.none rfl) rfl rfl (Yv.loadAO 1 rfl rfl rfl rfl) ?_ | refine TL.yv (Wt.none rfl) rfl rfl (Yv.loadAO 2 rfl rfl rfl rfl) ?_ | refine TL.yv (Wt.none rfl) rfl rfl (Yv.loadAB rfl rfl (by assumption) rfl (fun h => h)) ?_
      (refine TL.ew (Wt.none rfl) rfl rfl (Ew.alloc rfl) ?_; rintro _ _ ⟨g13, rfl, rfl⟩)
      first | (refine TL.ew0 (Wt.none rfl) rfl (Ew.storeAll 0 rfl rfl rfl rfl rfl rfl) ?_; rintro _ _ ⟨rfl, rfl⟩) | (refine TL.ew0 (Wt.none rfl) rfl (Ew.storeAll 1 rfl rfl rfl rfl rfl rfl) ?_; rintro _ _ ⟨rfl, rfl⟩) | (refine TL.ew0 (Wt.none rfl) rfl (Ew.storeAll 2 rfl rfl rfl rfl rfl rfl) ?_; rintro _ _ ⟨rfl, rfl⟩) | (refine TL.ew0 (Wt.none rfl) rfl (Ew.storeAll 3 rfl rfl rfl rfl rfl rfl) ?_; rintro _ _ ⟨rfl, rfl⟩)
      refine TL.nil ?_
      refine K.seq ?_
      refine T.seq ?_
      refine T.region ?_
      first | refine TL.yv (Wt.none rfl) rfl rfl (Yv.loadC rfl rfl hk rfl rfl (fun h => h)) ?_ | refine TL.yv (Wt.none rfl) rfl rfl (Yv.loadC rfl rfl hk1 rfl rfl (fun h => h)) ?_ | refine TL.yv (Wt.none rfl) rfl rfl (Yv.loadAB rfl rfl hk rfl (fun h => h)) ?_ | refine TL.yv (Wt.none rfl) rfl rfl (Yv.loadAO 0 rfl rfl rfl rfl) ?_ | refine TL.yv (Wt.none rfl) rfl rfl (Yv.loadAO 1 rfl rfl rfl rfl) ?_ | refine TL.yv (Wt.none rfl) rfl rfl (Yv.loadAO 2 rfl rfl rfl rfl) ?_ | refine TL.yv (Wt.none rfl) rfl rfl (Yv.loadAO 3 rfl rfl rfl rfl) ?_ | refine TL.yv (Wt.none rfl) rfl rfl (Yv.loadAB rfl rfl (by assumption) rfl (fun h => h)) ?_
      (refine TL.ew (Wt.none rfl) rfl rfl (Ew.callD rfl rfl rfl (fun w hw => places_ret _ _)) ?_; rintro _ _ ⟨rfl, rfl⟩)
      refine TL.yv (Wt.none rfl) rfl rfl (Yv.pur rfl) ?_
      refine TL.nil ?_
      refine K.seq ?_
      refine T.block ?_
      refine T.loop (ι := Nat × List (Pl × Value)) (fun y => [(0, .slice (some ⟨g, off, none⟩) xs.length cap), (3, .int .i64 limit), (10, .map (some gm)), (28, .slice (some ⟨g, off, none⟩) xs.length cap), (29, .int .i64 (xs.length : Int)), (30, .int .i64 (k : Int)), (35, .agg (plcells (nth xs k)).toArray), (36, .int .i64 (y.1 : Int))]) (fun y => [.mp gm y.2]) (fun y => y.1 ≤ 2 ∧ FitInv xs ts cs (2 * k + y.1) y.2) (fun y => 2 - y.1) (0, kv) ?_ ?_ ?_ ?_
      · exact ⟨by show 0 ≤ _; omega, hphi⟩
      · exact (by repeat (first | exact Sub.nil | refine Sub.cons rfl ?_))
      · exact (by repeat (first | exact List.Sublist.refl _ | exact List.nil_sublist _ | refine List.Sublist.cons_cons _ ?_ | refine List.Sublist.cons _ ?_))
      · intro y hphi
        obtain ⟨i, kv⟩ := y
        dsimp only at hphi ⊢
        obtain ⟨hil, hphi⟩ := hphi
        refine T.seq ?_
        refine T.region ?_
        refine TL.yv (Wt.none rfl) rfl rfl (Yv.pur rfl) ?_
        refine TL.nil ?_
        refine K.seq ?_
        refine T.seq ?_
        refine T.cond rfl (fun h2 => ?_) (fun h2 => ?_)
        · have p2 := h2
          try simp only [decide_eq_true_eq, decide_eq_false_iff_not, Int.not_lt, Int.not_le, Bool.not_eq_true', Bool.not_eq_false', Decidable.not_not, Bool.and_eq_true, Bool.or_eq_true, Bool.and_eq_false_iff, Bool.or_eq_false_iff] at p2
          have hpl := plcells_at (nth xs k) i (by omega)
          obtain ⟨c, hc0, hg, hb1, hb2⟩ := hphi.get (by omega) (by omega) hx hcap
          have hgv : (kvGet kv (plOf (nth xs k) i)).getD (.int .i64 0) = .int .i64 c := by rw [hg]; rfl
          have hgu : (kvGet (kvSet kv (plOf (nth xs k) i) ((kvGet kv (plOf (nth xs k) i)).getD (.int .i64 0))) (plOf (nth xs k) i)).getD (.int .i64 0) = .int .i64 c := by rw [kvGet_set, if_pos rfl, hg]; rfl
          have hgw : ∀ u, (kvGet (kvSet (kvSet kv (plOf (nth xs k) i) u) (plOf (nth xs k) i) (.int .i64 (c - 1))) (plOf (nth xs k) i)).getD (.int .i64 0) = .int .i64 (c - 1) := fun u => by rw [kvGet_set, if_pos rfl]; rfl
          refine T.skip ?_
          refine K.seq ?_
          refine T.seq ?_
          refine T.block ?_
          refine T.seq ?_
          refine T.region ?_
          first | refine TL.yv (Wt.none rfl) rfl rfl (Yv.indexV rfl rfl rfl rfl (by omega) hpl) ?_ | refine TL.yv (Wt.none rfl) rfl rfl (Yv.indexV rfl rfl rfl rfl (by omega) rfl) ?_ | refine TL.yv (Wt.none rfl) rfl rfl (Yv.indexS rfl rfl rfl rfl (by omega) rfl) ?_
          (refine TL.ew (Wt.none rfl) rfl rfl (Ew.alloc rfl) ?_; rintro _ _ ⟨g15, rfl, rfl⟩)
          first | (refine TL.ew0 (Wt.none rfl) rfl (Ew.storeAll 0 rfl rfl rfl rfl rfl rfl) ?_; rintro _ _ ⟨rfl, rfl⟩) | (refine TL.ew0 (Wt.none rfl) rfl (Ew.storeAll 1 rfl rfl rfl rfl rfl rfl) ?_; rintro _ _ ⟨rfl, rfl⟩) | (refine TL.ew0 (Wt.none rfl) rfl (Ew.storeAll 2 rfl rfl rfl rfl rfl rfl) ?_; rintro _ _ ⟨rfl, rfl⟩) | (refine TL.ew0 (Wt.none rfl) rfl (Ew.storeAll 3 rfl rfl rfl rfl rfl rfl) ?_; rintro _ _ ⟨rfl, rfl⟩)
          refine TL.nil ?_
          refine K.seq ?_
          refine T.seq ?_
          refine T.draw (.still 0 (.still 1 (.two 2 4 (.still 3 (.eff 4 (.still 5 (.eff 6 .done)))) (.still 5 (.eff 2 (.still 3 (.eff 6 .done))))))) (List.eraseIdx _ 1) (by kernel_rfl) (List.eraseIdx_sublist _ _) ?_
          refine TS.still rfl (Wt.none rfl) rfl rfl (Yv.pur rfl) ?_
          first | refine TS.still rfl (Wt.none rfl) rfl rfl (Yv.loadC rfl rfl hk rfl rfl (fun h => h)) ?_ | refine TS.still rfl (Wt.none rfl) rfl rfl (Yv.loadC rfl rfl hk1 rfl rfl (fun h => h)) ?_ | refine TS.still rfl (Wt.none rfl) rfl rfl (Yv.loadAB rfl rfl hk rfl (fun h => h)) ?_ | refine TS.still rfl (Wt.none rfl) rfl rfl (Yv.loadAO 0 rfl rfl rfl rfl) ?_ | refine TS.still rfl (Wt.none rfl) rfl rfl (Yv.loadAO 1 rfl rfl rfl rfl) ?_ | refine TS.still rfl (Wt.none rfl) rfl rfl (Yv.loadAO 2 rfl rfl rfl rfl) ?_ | refine TS.still rfl (Wt.none rfl) rfl rfl (Yv.loadAO 3 rfl rfl rfl rfl) ?_ | refine TS.still rfl (Wt.none rfl) rfl rfl (Yv.loadAB rfl rfl (by assumption) rfl (fun h => h)) ?_
          refine TS.two ?_ ?_
          · skip
            first | refine TSo.yv rfl (Wt.none rfl) rfl rfl (Yv.lookupV 1 rfl rfl rfl rfl hgv) (by repeat (first | exact List.Sublist.refl _ | exact List.nil_sublist _ | refine List.Sublist.cons_cons _ ?_ | refine List.Sublist.cons _ ?_)) ?_ | refine TSo.yv rfl (Wt.none rfl) rfl rfl (Yv.lookupV 1 rfl rfl rfl rfl (hgw _)) (by repeat (first | exact List.Sublist.refl _ | exact List.nil_sublist _ | refine List.Sublist.cons_cons _ ?_ | refine List.Sublist.cons _ ?_)) ?_ | refine TSo.yv rfl (Wt.none rfl) rfl rfl (Yv.lookupE 1 rfl rfl rfl rfl hgu) (by repeat (first | exact List.Sublist.refl _ | exact List.nil_sublist _ | refine List.Sublist.cons_cons _ ?_ | refine List.Sublist.cons _ ?_)) ?_
            first | refine TS.still rfl (Wt.none rfl) rfl rfl (Yv.subI rfl rfl rfl (by omega)) ?_ | refine TS.still rfl (Wt.none rfl) rfl rfl (Yv.pur rfl) ?_
            refine TS.eff ?_
            first | (refine TSo.ew rfl (Wt.none rfl) rfl rfl (Ew.mapEntry 0 rfl rfl rfl rfl) ?_; rintro _ _ ⟨s43, rfl, rfl⟩; refine ⟨(by repeat (first | exact List.Sublist.refl _ | exact List.nil_sublist _ | refine List.Sublist.cons_cons _ ?_ | refine List.Sublist.cons _ ?_)), ?_⟩) | (refine TSo.ew rfl (Wt.none rfl) rfl rfl (Ew.mapEntry 1 rfl rfl rfl rfl) ?_; rintro _ _ ⟨s43, rfl, rfl⟩; refine ⟨(by repeat (first | exact List.Sublist.refl _ | exact List.nil_sublist _ | refine List.Sublist.cons_cons _ ?_ | refine List.Sublist.cons _ ?_)), ?_⟩) | (refine TSo.ew rfl (Wt.none rfl) rfl rfl (Ew.mapEntry 2 rfl rfl rfl rfl) ?_; rintro _ _ ⟨s43, rfl, rfl⟩; refine ⟨(by repeat (first | exact List.Sublist.refl _ | exact List.nil_sublist _ | refine List.Sublist.cons_cons _ ?_ | refine List.Sublist.cons _ ?_)), ?_⟩) | (refine TSo.ew rfl (Wt.none rfl) rfl rfl (Ew.mapEntry 3 rfl rfl rfl rfl) ?_; rintro _ _ ⟨s43, rfl, rfl⟩; refine ⟨(by repeat (first | exact List.Sublist.refl _ | exact List.nil_sublist _ | refine List.Sublist.cons_cons _ ?_ | refine List.Sublist.cons _ ?_)), ?_⟩) | (refine TSo.ew rfl (Wt.none rfl) rfl rfl (Ew.mapEntry 4 rfl rfl rfl rfl) ?_; rintro _ _ ⟨s43, rfl, rfl⟩; refine ⟨(by repeat (first | exact List.Sublist.refl _ | exact List.nil_sublist _ | refine List.Sublist.cons_cons _ ?_ | refine List.Sublist.cons _ ?_)), ?_⟩) | (refine TSo.ew rfl (Wt.none rfl) rfl rfl (Ew.mapEntry 5 rfl rfl rfl rfl) ?_; rintro _ _ ⟨s43, rfl, rfl⟩; refine ⟨(by repeat (first | exact List.Sublist.refl _ | exact List.nil_sublist _ | refine List.Sublist.cons_cons _ ?_ | refine List.Sublist.cons _ ?_)), ?_⟩) | (refine TSo.ew rfl (Wt.none rfl) rfl rfl (Ew.mapEntry 6 rfl rfl rfl rfl) ?_; rintro _ _ ⟨s43, rfl, rfl⟩; refine ⟨(by repeat (first | exact List.Sublist.refl _ | exact List.nil_sublist _ | refine List.Sublist.cons_cons _ ?_ | refine List.Sublist.cons _ ?_)), ?_⟩)
            refine TS.still rfl (Wt.none rfl) rfl rfl (Yv.pur rfl) ?_
            refine TS.eff ?_
            first | (refine TSo.ew0 rfl (Wt.none rfl) rfl (Ew.entryStore 0 rfl rfl rfl rfl rfl) ?_; rintro _ _ ⟨rfl, rfl⟩; refine ⟨(by repeat (first | exact List.Sublist.refl _ | exact List.nil_sublist _ | refine List.Sublist.cons_cons _ ?_ | refine List.Sublist.cons _ ?_)), ?_⟩) | (refine TSo.ew0 rfl (Wt.none rfl) rfl (Ew.entryStore 1 rfl rfl rfl rfl rfl) ?_; rintro _ _ ⟨rfl, rfl⟩; refine ⟨(by repeat (first | exact List.Sublist.refl _ | exact List.nil_sublist _ | refine List.Sublist.cons_cons _ ?_ | refine List.Sublist.cons _ ?_)), ?_⟩) | (refine TSo.ew0 rfl (Wt.none rfl) rfl (Ew.entryStore 2 rfl rfl rfl rfl rfl) ?_; rintro _ _ ⟨rfl, rfl⟩; refine ⟨(by repeat (first | exact List.Sublist.refl _ | exact List.nil_sublist _ | refine List.Sublist.cons_cons _ ?_ | refine List.Sublist.cons _ ?_)), ?_⟩) | (refine TSo.ew0 rfl (Wt.none rfl) rfl (Ew.entryStore 3 rfl rfl rfl rfl rfl) ?_; rintro _ _ ⟨rfl, rfl⟩; refine ⟨(by repeat (first | exact List.Sublist.refl _ | exact List.nil_sublist _ | refine List.Sublist.cons_cons _ ?_ | refine List.Sublist.cons _ ?_)), ?_⟩) | (refine TSo.ew0 rfl (Wt.none rfl) rfl (Ew.entryStore 4 rfl rfl rfl rfl rfl) ?_; rintro _ _ ⟨rfl, rfl⟩; refine ⟨(by repeat (first | exact List.Sublist.refl _ | exact List.nil_sublist _ | refine List.Sublist.cons_cons _ ?_ | refine List.Sublist.cons _ ?_)), ?_⟩) | (refine TSo.ew0 rfl (Wt.none rfl) rfl (Ew.entryStore 5 rfl rfl rfl rfl rfl) ?_; rintro _ _ ⟨rfl, rfl⟩; refine ⟨(by repeat (first | exact List.Sublist.refl _ | exact List.nil_sublist _ | refine List.Sublist.cons_cons _ ?_ | refine List.Sublist.cons _ ?_)), ?_⟩) | (refine TSo.ew0 rfl (Wt.none rfl) rfl (Ew.entryStore 6 rfl rfl rfl rfl rfl) ?_; rintro _ _ ⟨rfl, rfl⟩; refine ⟨(by repeat (first | exact List.Sublist.refl _ | exact List.nil_sublist _ | refine List.Sublist.cons_cons _ ?_ | refine List.Sublist.cons _ ?_)), ?_⟩)
            refine TS.done ?_
            refine K.seq ?_
            refine T.seq ?_
            refine T.region ?_
            refine TL.yv (Wt.none rfl) rfl rfl (Yv.pur rfl) ?_
            first | refine TL.yv (Wt.none rfl) rfl rfl (Yv.loadC rfl rfl hk rfl rfl (fun h => h)) ?_ | refine TL.yv (Wt.none rfl) rfl rfl (Yv.loadC rfl rfl hk1 rfl rfl (fun h => h)) ?_ | refine TL.yv (Wt.none rfl) rfl rfl (Yv.loadAB rfl rfl hk rfl (fun h => h)) ?_ | refine TL.yv (Wt.none rfl) rfl rfl (Yv.loadAO 0 rfl rfl rfl rfl) ?_ | refine TL.yv (Wt.none rfl) rfl rfl (Yv.loadAO 1 rfl rfl rfl rfl) ?_ | refine TL.yv (Wt.none rfl) rfl rfl (Yv.loadAO 2 rfl rfl rfl rfl) ?_ | refine TL.yv (Wt.none rfl) rfl rfl (Yv.loadAO 3 rfl rfl rfl rfl) ?_ | refine TL.yv (Wt.none rfl) rfl rfl (Yv.loadAB rfl rfl (by assumption) rfl (fun h => h)) ?_
            first | refine TL.yv (Wt.none rfl) rfl rfl (Yv.lookupV 1 rfl rfl rfl rfl hgv) ?_ | refine TL.yv (Wt.none rfl) rfl rfl (Yv.lookupV 1 rfl rfl rfl rfl (hgw _)) ?_ | refine TL.yv (Wt.none rfl) rfl rfl (Yv.lookupE 1 rfl rfl rfl rfl hgu) ?_
            refine TL.yv (Wt.none rfl) rfl rfl (Yv.pur rfl) ?_
            refine TL.nil ?_
            refine K.seq ?_
            refine T.cond rfl (fun h3 => ?_) (fun h3 => ?_)
            · have p3 := h3
              try simp only [decide_eq_true_eq, decide_eq_false_iff_not, Int.not_lt, Int.not_le, Bool.not_eq_true', Bool.not_eq_false', Decidable.not_not, Bool.and_eq_true, Bool.or_eq_true, Bool.and_eq_false_iff, Bool.or_eq_false_iff] at p3
              refine T.seq ?_
              refine T.region ?_
              refine TL.yv (Wt.none rfl) rfl rfl (Yv.pur rfl) ?_
              refine TL.yv (Wt.none rfl) rfl rfl (Yv.pur rfl) ?_
              refine TL.nil ?_
              refine K.seq ?_
              refine T.ret ?_
              refine K.blk_ret ?_
              refine K.then_ret ?_
              refine K.then_ret ?_
              refine K.blk_ret ?_
              refine K.blk_ret ?_
              refine K.then_ret ?_
              refine K.then_ret ?_
              refine K.blk_ret ?_
              refine K.then_ret ?_
              exact K.ret2 rfl rfl rfl (fun w' hw => ⟨by rw [fitsM_false (by omega) (by omega) hc0 (by omega)]; rfl, hw.isBelow⟩)
            · have p3 := h3
              try simp only [decide_eq_true_eq, decide_eq_false_iff_not, Int.not_lt, Int.not_le, Bool.not_eq_true', Bool.not_eq_false', Decidable.not_not, Bool.and_eq_true, Bool.or_eq_true, Bool.and_eq_false_iff, Bool.or_eq_false_iff] at p3
              refine T.skip ?_
              refine K.blk_normal ?_
              refine K.seq ?_
              refine T.region ?_
              first | refine TL.yv (Wt.none rfl) rfl rfl (Yv.addI rfl rfl rfl (by omega)) ?_ | refine TL.yv (Wt.none rfl) rfl rfl (Yv.pur rfl) ?_
              refine TL.yv (Wt.none rfl) rfl rfl (Yv.pur rfl) ?_
              refine TL.nil ?_
              exact K.next (i + 1, _) ⟨by show i + 1 ≤ _; omega, hphi.step (by omega) (by omega) hc0 (by omega) _⟩ (by show 2 - (i + 1) < 2 - i; omega) (by repeat (first | exact Sub.nil | refine Sub.cons rfl ?_)) (by repeat (first | exact List.Sublist.refl _ | exact List.nil_sublist _ | refine List.Sublist.cons_cons _ ?_ | refine List.Sublist.cons _ ?_))
          · skip
            first | (refine TSo.ew rfl (Wt.none rfl) rfl rfl (Ew.mapEntry 0 rfl rfl rfl rfl) ?_; rintro _ _ ⟨s43, rfl, rfl⟩; refine ⟨(by repeat (first | exact List.Sublist.refl _ | exact List.nil_sublist _ | refine List.Sublist.cons_cons _ ?_ | refine List.Sublist.cons _ ?_)), ?_⟩) | (refine TSo.ew rfl (Wt.none rfl) rfl rfl (Ew.mapEntry 1 rfl rfl rfl rfl) ?_; rintro _ _ ⟨s43, rfl, rfl⟩; refine ⟨(by repeat (first | exact List.Sublist.refl _ | exact List.nil_sublist _ | refine List.Sublist.cons_cons _ ?_ | refine List.Sublist.cons _ ?_)), ?_⟩) | (refine TSo.ew rfl (Wt.none rfl) rfl rfl (Ew.mapEntry 2 rfl rfl rfl rfl) ?_; rintro _ _ ⟨s43, rfl, rfl⟩; refine ⟨(by repeat (first | exact List.Sublist.refl _ | exact List.nil_sublist _ | refine List.Sublist.cons_cons _ ?_ | refine List.Sublist.cons _ ?_)), ?_⟩) | (refine TSo.ew rfl (Wt.none rfl) rfl rfl (Ew.mapEntry 3 rfl rfl rfl rfl) ?_; rintro _ _ ⟨s43, rfl, rfl⟩; refine ⟨(by repeat (first | exact List.Sublist.refl _ | exact List.nil_sublist _ | refine List.Sublist.cons_cons _ ?_ | refine List.Sublist.cons _ ?_)), ?_⟩) | (refine TSo.ew rfl (Wt.none rfl) rfl rfl (Ew.mapEntry 4 rfl rfl rfl rfl) ?_; rintro _ _ ⟨s43, rfl, rfl⟩; refine ⟨(by repeat (first | exact List.Sublist.refl _ | exact List.nil_sublist _ | refine List.Sublist.cons_cons _ ?_ | refine List.Sublist.cons _ ?_)), ?_⟩) | (refine TSo.ew rfl (Wt.none rfl) rfl rfl (Ew.mapEntry 5 rfl rfl rfl rfl) ?_; rintro _ _ ⟨s43, rfl, rfl⟩; refine ⟨(by repeat (first | exact List.Sublist.refl _ | exact List.nil_sublist _ | refine List.Sublist.cons_cons _ ?_ | refine List.Sublist.cons _ ?_)), ?_⟩) | (refine TSo.ew rfl (Wt.none rfl) rfl rfl (Ew.mapEntry 6 rfl rfl rfl rfl) ?_; rintro _ _ ⟨s43, rfl, rfl⟩; refine ⟨(by repeat (first | exact List.Sublist.refl _ | exact List.nil_sublist _ | refine List.Sublist.cons_cons _ ?_ | refine List.Sublist.cons _ ?_)), ?_⟩)
            refine TS.still rfl (Wt.none rfl) rfl rfl (Yv.pur rfl) ?_
            refine TS.eff ?_
            first | refine TSo.yv rfl (Wt.none rfl) rfl rfl (Yv.lookupV 1 rfl rfl rfl rfl hgv) (by repeat (first | exact List.Sublist.refl _ | exact List.nil_sublist _ | refine List.Sublist.cons_cons _ ?_ | refine List.Sublist.cons _ ?_)) ?_ | refine TSo.yv rfl (Wt.none rfl) rfl rfl (Yv.lookupV 1 rfl rfl rfl rfl (hgw _)) (by repeat (first | exact List.Sublist.refl _ | exact List.nil_sublist _ | refine List.Sublist.cons_cons _ ?_ | refine List.Sublist.cons _ ?_)) ?_ | refine TSo.yv rfl (Wt.none rfl) rfl rfl (Yv.lookupE 1 rfl rfl rfl rfl hgu) (by repeat (first | exact List.Sublist.refl _ | exact List.nil_sublist _ | refine List.Sublist.cons_cons _ ?_ | refine List.Sublist.cons _ ?_)) ?_
            first | refine TS.still rfl (Wt.none rfl) rfl rfl (Yv.subI rfl rfl rfl (by omega)) ?_ | refine TS.still rfl (Wt.none rfl) rfl rfl (Yv.pur rfl) ?_
            refine TS.eff ?_
            first | (refine TSo.ew0 rfl (Wt.none rfl) rfl (Ew.entryStore 0 rfl rfl rfl rfl rfl) ?_; rintro _ _ ⟨rfl, rfl⟩; refine ⟨(by repeat (first | exact List.Sublist.refl _ | exact List.nil_sublist _ | refine List.Sublist.cons_cons _ ?_ | refine List.Sublist.cons _ ?_)), ?_⟩) | (refine TSo.ew0 rfl (Wt.none rfl) rfl (Ew.entryStore 1 rfl rfl rfl rfl rfl) ?_; rintro _ _ ⟨rfl, rfl⟩; refine ⟨(by repeat (first | exact List.Sublist.refl _ | exact List.nil_sublist _ | refine List.Sublist.cons_cons _ ?_ | refine List.Sublist.cons _ ?_)), ?_⟩) | (refine TSo.ew0 rfl (Wt.none rfl) rfl (Ew.entryStore 2 rfl rfl rfl rfl rfl) ?_; rintro _ _ ⟨rfl, rfl⟩; refine ⟨(by repeat (first | exact List.Sublist.refl _ | exact List.nil_sublist _ | refine List.Sublist.cons_cons _ ?_ | refine List.Sublist.cons _ ?_)), ?_⟩) | (refine TSo.ew0 rfl (Wt.none rfl) rfl (Ew.entryStore 3 rfl rfl rfl rfl rfl) ?_; rintro _ _ ⟨rfl, rfl⟩; refine ⟨(by repeat (first | exact List.Sublist.refl _ | exact List.nil_sublist _ | refine List.Sublist.cons_cons _ ?_ | refine List.Sublist.cons _ ?_)), ?_⟩) | (refine TSo.ew0 rfl (Wt.none rfl) rfl (Ew.entryStore 4 rfl rfl rfl rfl rfl) ?_; rintro _ _ ⟨rfl, rfl⟩; refine ⟨(by repeat (first | exact List.Sublist.refl _ | exact List.nil_sublist _ | refine List.Sublist.cons_cons _ ?_ | refine List.Sublist.cons _ ?_)), ?_⟩) | (refine TSo.ew0 rfl (Wt.none rfl) rfl (Ew.entryStore 5 rfl rfl rfl rfl rfl) ?_; rintro _ _ ⟨rfl, rfl⟩; refine ⟨(by repeat (first | exact List.Sublist.refl _ | exact List.nil_sublist _ | refine List.Sublist.cons_cons _ ?_ | refine List.Sublist.cons _ ?_)), ?_⟩) | (refine TSo.ew0 rfl (Wt.none rfl) rfl (Ew.entryStore 6 rfl rfl rfl rfl rfl) ?_; rintro _ _ ⟨rfl, rfl⟩; refine ⟨(by repeat (first | exact List.Sublist.refl _ | exact List.nil_sublist _ | refine List.Sublist.cons_cons _ ?_ | refine List.Sublist.cons _ ?_)), ?_⟩)
            refine TS.done ?_
            refine K.seq ?_
            refine T.seq ?_
            refine T.region ?_
            refine TL.yv (Wt.none rfl) rfl rfl (Yv.pur rfl) ?_
            first | refine TL.yv (Wt.none rfl) rfl rfl (Yv.loadC rfl rfl hk rfl rfl (fun h => h)) ?_ | refine TL.yv (Wt.none rfl) rfl rfl (Yv.loadC rfl rfl hk1 rfl rfl (fun h => h)) ?_ | refine TL.yv (Wt.none rfl) rfl rfl (Yv.loadAB rfl rfl hk rfl (fun h => h)) ?_ | refine TL.yv (Wt.none rfl) rfl rfl (Yv.loadAO 0 rfl rfl rfl rfl) ?_ | refine TL.yv (Wt.none rfl) rfl rfl (Yv.loadAO 1 rfl rfl rfl rfl) ?_ | refine TL.yv (Wt.none rfl) rfl rfl (Yv.loadAO 2 rfl rfl rfl rfl) ?_ | refine TL.yv (Wt.none rfl) rfl rfl (Yv.loadAO 3 rfl rfl rfl rfl) ?_ | refine TL.yv (Wt.none rfl) rfl rfl (Yv.loadAB rfl rfl (by assumption) rfl (fun h => h)) ?_
            first | refine TL.yv (Wt.none rfl) rfl rfl (Yv.lookupV 1 rfl rfl rfl rfl hgv) ?_ | refine TL.yv (Wt.none rfl) rfl rfl (Yv.lookupV 1 rfl rfl rfl rfl (hgw _)) ?_ | refine TL.yv (Wt.none rfl) rfl rfl (Yv.lookupE 1 rfl rfl rfl rfl hgu) ?_
            refine TL.yv (Wt.none rfl) rfl rfl (Yv.pur rfl) ?_
            refine TL.nil ?_
            refine K.seq ?_
            refine T.cond rfl (fun h4 => ?_) (fun h4 => ?_)
            · have p4 := h4
              try simp only [decide_eq_true_eq, decide_eq_false_iff_not, Int.not_lt, Int.not_le, Bool.not_eq_true', Bool.not_eq_false', Decidable.not_not, Bool.and_eq_true, Bool.or_eq_true, Bool.and_eq_false_iff, Bool.or_eq_false_iff] at p4
              refine T.seq ?_
              refine T.region ?_
              refine TL.yv (Wt.none rfl) rfl rfl (Yv.pur rfl) ?_
              refine TL.yv (Wt.none rfl) rfl rfl (Yv.pur rfl) ?_
              refine TL.nil ?_
              refine K.seq ?_
              refine T.ret ?_
              refine K.blk_ret ?_
              refine K.then_ret ?_
              refine K.then_ret ?_
              refine K.blk_ret ?_
              refine K.blk_ret ?_
              refine K.then_ret ?_
              refine K.then_ret ?_
              refine K.blk_ret ?_
              refine K.then_ret ?_
              exact K.ret2 rfl rfl rfl (fun w' hw => ⟨by rw [fitsM_false (by omega) (by omega) hc0 (by omega)]; rfl, hw.isBelow⟩)
            · have p4 := h4
              try simp only [decide_eq_true_eq, decide_eq_false_iff_not, Int.not_lt, Int.not_le, Bool.not_eq_true', Bool.not_eq_false', Decidable.not_not, Bool.and_eq_true, Bool.or_eq_true, Bool.and_eq_false_iff, Bool.or_eq_false_iff] at p4
              refine T.skip ?_
              refine K.blk_normal ?_
              refine K.seq ?_
              refine T.region ?_
              first | refine TL.yv (Wt.none rfl) rfl rfl (Yv.addI rfl rfl rfl (by omega)) ?_ | refine TL.yv (Wt.none rfl) rfl rfl (Yv.pur rfl) ?_
              refine TL.yv (Wt.none rfl) rfl rfl (Yv.pur rfl) ?_
              refine TL.nil ?_
              exact K.next (i + 1, _) ⟨by show i + 1 ≤ _; omega, hphi.step (by omega) (by omega) hc0 (by omega) _⟩ (by show 2 - (i + 1) < 2 - i; omega) (by repeat (first | exact Sub.nil | refine Sub.cons rfl ?_)) (by repeat (first | exact List.Sublist.refl _ | exact List.nil_sublist _ | refine List.Sublist.cons_cons _ ?_ | refine List.Sublist.cons _ ?_))
        · have p2 := h2
          try simp only [decide_eq_true_eq, decide_eq_false_iff_not, Int.not_lt, Int.not_le, Bool.not_eq_true', Bool.not_eq_false', Decidable.not_not, Bool.and_eq_true, Bool.or_eq_true, Bool.and_eq_false_iff, Bool.or_eq_false_iff] at p2
          refine T.exit ?_
          refine K.then_exit ?_
          refine K.then_exit ?_
          refine K.blk_exit_eq ?_
          refine K.blk_normal ?_
          refine K.seq ?_
          refine T.region ?_
          first | refine TL.yv (Wt.none rfl) rfl rfl (Yv.addI rfl rfl rfl (by omega)) ?_ | refine TL.yv (Wt.none rfl) rfl rfl (Yv.pur rfl) ?_
          refine TL.yv (Wt.none rfl) rfl rfl (Yv.pur rfl) ?_
          refine TL.nil ?_
          exact K.next (k + 1, kv) ⟨by show k + 1 ≤ _; omega, by show FitInv xs ts cs (2 * (k + 1)) kv; rw [show 2 * (k + 1) = 2 * k + i from by omega]; exact hphi⟩ (by show xs.length - (k + 1) < xs.length - k; omega) (by repeat (first | exact Sub.nil | refine Sub.cons rfl ?_)) (by repeat (first | exact List.Sublist.refl _ | exact List.nil_sublist _ | refine List.Sublist.cons_cons _ ?_ | refine List.Sublist.cons _ ?_))
    · have p1 := h1
      try simp only [decide_eq_true_eq, decide_eq_false_iff_not, Int.not_lt, Int.not_le, Bool.not_eq_true', Bool.not_eq_false', Decidable.not_not, Bool.and_eq_true, Bool.or_eq_true, Bool.and_eq_false_iff, Bool.or_eq_false_iff] at p1
      refine T.exit ?_
      refine K.then_exit ?_
      refine K.then_exit ?_
      refine K.blk_exit_eq ?_
      refine K.seq ?_
      refine T.seq ?_
      refine T.region ?_
      refine TL.yv (Wt.none rfl) rfl rfl (Yv.pur rfl) ?_
      first | refine TL.yv (Wt.none rfl) rfl rfl (Yv.lenSl rfl rfl) ?_ | refine TL.yv (Wt.none rfl) rfl rfl (Yv.lenAr rfl) ?_
      refine TL.yv (Wt.none rfl) rfl rfl (Yv.pur rfl) ?_
      refine TL.yv (Wt.none rfl) rfl rfl (Yv.pur rfl) ?_
      refine TL.yv (Wt.none rfl) rfl rfl (Yv.pur rfl) ?_
      refine TL.yv (Wt.none rfl) rfl rfl (Yv.pur rfl) ?_
      refine TL.nil ?_
      refine K.seq ?_
      refine T.ret ?_
      exact K.ret2 rfl rfl rfl (fun w' hw => ⟨by rw [fitsM_true hphi (by omega)]; rfl, hw.isBelow⟩)
end Go.Proofs.Ytphpmjnpjnmdmaa
