/- Works. -/
import Derived.Test.YtphpmjnpjnmdmaaRb
set_option maxRecDepth 100000
set_option maxHeartbeats 4000000
set_option linter.unusedSimpArgs false
set_option linter.unusedVariables false
set_option linter.unusedSectionVars false
namespace Go.Proofs.Ytphpmjnpjnmdmaa
open Go.RowKit
theorem works_bad (xs : List Mv) (ts cs : List Si) (v vt vc : Value) (w : World) (h : MovesAt w v xs) (ht : SitesAt w vt ts) (hcr : SitesAt w vc cs) (hl : xs.length ≤ 9223372036854775807) (hlt : ts.length ≤ 9223372036854775807) (hlc : cs.length ≤ 9223372036854775807) (hco : codeOf xs ts cs true ≠ 0) : Calls Try.prog 18 #[v, vt, vc] w fun e w' => e = .returned (.tuple #[.slice none 0 0, .int .i64 (codeOf xs ts cs true)]) ∧ Below w.heap.size w w' := by
  obtain ⟨A, cap, rfl, hsl⟩ := h.op
  refine calls_T (M := fun _ => False) (hs := []) Try.func18 rfl rfl rfl (Hp.refl _ _) ?_
  refine T.seq ?_
  refine T.region ?_
  refine TL.yv (Wt.none rfl) rfl rfl (Yv.pur rfl) ?_
  refine TL.yv (Wt.none rfl) rfl rfl (Yv.pur rfl) ?_
  refine TL.nil ?_
  refine K.seq ?_
  refine T.seq ?_
  refine T.region ?_
  refine TL.yv (Wt.none rfl) rfl rfl (Yv.pur rfl) ?_
  refine TL.yv (Wt.none rfl) rfl rfl (Yv.pur rfl) ?_
  refine TL.yv (Wt.none rfl) rfl rfl (Yv.pur rfl) ?_
  (refine TL.ew (Wt.none rfl) rfl rfl (Ew.callD rfl rfl rfl (fun w hw => capacities_bad xs ts cs _ _ _ _ _ (h.kept hw) (ht.kept hw) (hcr.kept hw) hl hlt hlc hco)) ?_; rintro _ _ ⟨rfl, rfl⟩)
  refine TL.yv (Wt.none rfl) rfl rfl (Yv.pur rfl) ?_
  refine TL.yv (Wt.none rfl) rfl rfl (Yv.pur rfl) ?_
  refine TL.yv (Wt.none rfl) rfl rfl (Yv.pur rfl) ?_
  refine TL.yv (Wt.none rfl) rfl rfl (Yv.pur rfl) ?_
  refine TL.yv (Wt.none rfl) rfl rfl (Yv.pur rfl) ?_
  refine TL.nil ?_
  refine K.seq ?_
  refine T.seq ?_
  refine T.seq ?_
  refine T.region ?_
  refine TL.yv (Wt.none rfl) rfl rfl (Yv.pur rfl) ?_
  first | refine TL.yv (Wt.none rfl) rfl rfl (Yv.pur rfl) ?_ | refine TL.yv (Wt.none rfl) rfl rfl (Yv.neB rfl rfl rfl rfl) ?_
  refine TL.nil ?_
  refine K.seq ?_
  refine T.condT rfl (decide_eq_true hco) ?_
  refine T.seq ?_
  refine T.region ?_
  refine TL.yv (Wt.none rfl) rfl rfl (Yv.pur rfl) ?_
  refine TL.yv (Wt.none rfl) rfl rfl (Yv.pur rfl) ?_
  refine TL.yv (Wt.none rfl) rfl rfl (Yv.pur rfl) ?_
  refine TL.nil ?_
  refine K.seq ?_
  refine T.ret ?_
  refine K.then_ret ?_
  refine K.ret2 rfl rfl rfl (fun w' hw => ⟨?_, hw.isBelow⟩)
  rfl
theorem works_ok (xs : List Mv) (ts cs : List Si) (v vt vc : Value) (w : World) (h : MovesAt w v xs) (ht : SitesAt w vt ts) (hcr : SitesAt w vc cs) (hl : xs.length ≤ 9223372036854775807) (hlt : ts.length ≤ 9223372036854775807) (hlc : cs.length ≤ 9223372036854775807) (hco : codeOf xs ts cs true = 0) : Calls Try.prog 18 #[v, vt, vc] w fun e w' => ∃ x : Value × List Wk, (WInv xs ts cs x.2 ∧ x.2.length = xs.length) ∧ e = .returned (.tuple #[x.1, .int .i64 0]) ∧ Hp w (fun _ => False) [.sl x.1 51 3 x.2.length (wcells x.2)] w' := by
  obtain ⟨A, cap, rfl, hsl⟩ := h.op
  obtain ⟨hx, hcap⟩ := code_facts hco
  have hwk := code_wk hco
  refine calls_T (M := fun _ => False) (hs := []) Try.func18 rfl rfl rfl (Hp.refl _ _) ?_
  refine T.seq ?_
  refine T.region ?_
  refine TL.yv (Wt.none rfl) rfl rfl (Yv.pur rfl) ?_
  refine TL.yv (Wt.none rfl) rfl rfl (Yv.pur rfl) ?_
  refine TL.nil ?_
  refine K.seq ?_
  refine T.seq ?_
  refine T.region ?_
  refine TL.yv (Wt.none rfl) rfl rfl (Yv.pur rfl) ?_
  refine TL.yv (Wt.none rfl) rfl rfl (Yv.pur rfl) ?_
  refine TL.yv (Wt.none rfl) rfl rfl (Yv.pur rfl) ?_
  (refine TL.ew (Wt.none rfl) rfl rfl (Ew.callH rfl rfl rfl (fun w hw => capacities_ok xs ts cs _ _ _ _ _ (h.kept hw) (ht.kept hw) (hcr.kept hw) hl hlt hlc hco)) ?_; rintro _ _ ⟨⟨gm, kv0⟩, hI, rfl, rfl⟩)
  dsimp only [List.cons_append, List.nil_append] at hI ⊢
  refine TL.yv (Wt.none rfl) rfl rfl (Yv.pur rfl) ?_
  refine TL.yv (Wt.none rfl) rfl rfl (Yv.pur rfl) ?_
  refine TL.yv (Wt.none rfl) rfl rfl (Yv.pur rfl) ?_
  refine TL.yv (Wt.none rfl) rfl rfl (Yv.pur rfl) ?_
  refine TL.yv (Wt.none rfl) rfl rfl (Yv.pur rfl) ?_
  refine TL.nil ?_
  refine K.seq ?_
  refine T.seq ?_
  refine T.seq ?_
  refine T.region ?_
  refine TL.yv (Wt.none rfl) rfl rfl (Yv.pur rfl) ?_
  first | refine TL.yv (Wt.none rfl) rfl rfl (Yv.pur rfl) ?_ | refine TL.yv (Wt.none rfl) rfl rfl (Yv.neB rfl rfl rfl rfl) ?_
  refine TL.nil ?_
  refine K.seq ?_
  refine T.condF rfl (by decide) ?_
  refine T.skip ?_
  refine K.seq ?_
  refine T.seq ?_
  refine T.region ?_
  (refine TL.ew (Wt.none rfl) rfl rfl (Ew.makeMap rfl) ?_; rintro _ _ ⟨g29, rfl, rfl⟩)
  (refine TL.ew (Wt.none rfl) rfl rfl (Ew.alloc rfl) ?_; rintro _ _ ⟨g10, rfl, rfl⟩)
  first | (refine TL.ew0 (Wt.none rfl) rfl (Ew.store1 0 rfl rfl rfl rfl (by decide)) ?_; rintro _ _ ⟨rfl, rfl⟩) | (refine TL.ew0 (Wt.none rfl) rfl (Ew.store1 1 rfl rfl rfl rfl (by decide)) ?_; rintro _ _ ⟨rfl, rfl⟩) | (refine TL.ew0 (Wt.none rfl) rfl (Ew.store1 2 rfl rfl rfl rfl (by decide)) ?_; rintro _ _ ⟨rfl, rfl⟩) | (refine TL.ew0 (Wt.none rfl) rfl (Ew.store1 3 rfl rfl rfl rfl (by decide)) ?_; rintro _ _ ⟨rfl, rfl⟩) | (refine TL.ew0 (Wt.none rfl) rfl (Ew.store1 4 rfl rfl rfl rfl (by decide)) ?_; rintro _ _ ⟨rfl, rfl⟩) | (refine TL.ew0 (Wt.none rfl) rfl (Ew.store1 0 rfl rfl rfl rfl (by first | omega | simpa)) ?_; rintro _ _ ⟨rfl, rfl⟩) | (refine TL.ew0 (Wt.none rfl) rfl (Ew.store1 1 rfl rfl rfl rfl (by first | omega | simpa)) ?_; rintro _ _ ⟨rfl, rfl⟩) | (refine TL.ew0 (Wt.none rfl) rfl (Ew.store1 2 rfl rfl rfl rfl (by first | omega | simpa)) ?_; rintro _ _ ⟨rfl, rfl⟩) | (refine TL.ew0 (Wt.none rfl) rfl (Ew.store1 3 rfl rfl rfl rfl (by first | omega | simpa)) ?_; rintro _ _ ⟨rfl, rfl⟩) | (refine TL.ew0 (Wt.none rfl) rfl (Ew.store1 4 rfl rfl rfl rfl (by first | omega | simpa)) ?_; rintro _ _ ⟨rfl, rfl⟩)
  refine TL.nil ?_
  refine K.seq ?_
  refine T.seq ?_
  refine T.region ?_
  refine TL.yv (Wt.none rfl) rfl rfl (Yv.pur rfl) ?_
  refine TL.nil ?_
  refine K.seq ?_
  refine T.seq ?_
  refine T.seq ?_
  refine T.region ?_
  refine TL.yv (Wt.none rfl) rfl rfl (Yv.pur rfl) ?_
  first | refine TL.yv (Wt.none rfl) rfl rfl (Yv.lenSl rfl rfl) ?_ | refine TL.yv (Wt.none rfl) rfl rfl (Yv.lenAr rfl) ?_
  refine TL.yv (Wt.none rfl) rfl rfl (Yv.pur rfl) ?_
  refine TL.nil ?_
  refine K.seq ?_
  refine T.block ?_
  refine T.slNil 51 3 ?_
  refine T.recsNil ?_
  refine T.loop (ι := List Rc × Value × List Wk) (fun x => [(0, .slice A xs.length cap), (8, .map (some gm)), (10, .pointer (some ⟨g10, 0, none⟩)), (11, x.2.1), (30, .slice A xs.length cap), (31, .int .i64 (xs.length : Int)), (32, .int .i64 (x.2.2.length : Int))]) (fun x => [recs x.1, .sl x.2.1 51 3 x.2.2.length (wcells x.2.2), .row g10 76 [.map (some g29)], .mp g29 (kvR x.1), .mp gm kv0]) (fun x => x.2.2.length ≤ xs.length ∧ WInv xs ts cs x.2.2 ∧ Cnt x.1 (useN xs x.2.2) ∧ ∀ q t, useN xs x.2.2 q t ≤ 64) (fun x => xs.length - x.2.2.length) ([], .slice none 0 0, []) ?_ ?_ ?_ ?_
  · exact ⟨by simp, WInv.nil xs ts cs, by rw [useN_nil]; exact Cnt.nil, fun q t => by rw [useN_nil]; simp⟩
  · exact (by repeat (first | exact Sub.nil | refine Sub.cons rfl ?_))
  · exact (by exact List.Sublist.refl _)
  · intro x hphi
    obtain ⟨rs, vw, ws⟩ := x
    dsimp only at hphi ⊢
    obtain ⟨hkl, hwi, hcnt, hle⟩ := hphi
    refine T.seq ?_
    refine T.region ?_
    refine TL.yv (Wt.none rfl) rfl rfl (Yv.pur rfl) ?_
    refine TL.nil ?_
    refine K.seq ?_
    refine T.seq ?_
    refine T.cond rfl (fun h1 => ?_) (fun h1 => ?_)
    · have p1 := h1
      try simp only [decide_eq_true_eq, decide_eq_false_iff_not, Int.not_lt, Int.not_le, Bool.not_eq_true', Bool.not_eq_false', Decidable.not_not, Bool.and_eq_true, Bool.or_eq_true, Bool.and_eq_false_iff, Bool.or_eq_false_iff] at p1
      obtain ⟨g, off, rfl, hc⟩ := hsl (by omega)
      have hk := hc ws.length (by omega)
      simp only [Mv.cells] at hk
      have hwk1 := hwk ws.length (by omega)
      have hcc := code_cap hco ws.length (by omega)
      obtain ⟨nw, hnw⟩ : ∃ nw : Nat, (nth xs ws.length).wk = (nw : Int) := ⟨(nth xs ws.length).wk.toNat, by omega⟩
      have hr0 := kvR_get rs (false, (nth xs ws.length).tw)
      have hr1 := kvR_get rs (true, (nth xs ws.length).cr)
      have hgc0 : (kvGet kv0 (false, (nth xs ws.length).tw)).getD (.int .i64 0) = .int .i64 (capOf ts (nth xs ws.length).tw) := capI_get hI ws.length 0 (by omega) (by omega)
      have hgc1 : (kvGet kv0 (true, (nth xs ws.length).cr)).getD (.int .i64 0) = .int .i64 (capOf cs (nth xs ws.length).cr) := capI_get hI ws.length 1 (by omega) (by omega)
      refine T.skip ?_
      refine K.seq ?_
      refine T.seq ?_
      refine T.block ?_
      refine T.seq ?_
      refine T.region ?_
      first | refine TL.yv (Wt.none rfl) rfl rfl (Yv.indexSl rfl rfl rfl rfl (by omega)) ?_ | refine TL.yv (Wt.none rfl) rfl rfl (Yv.indexAr rfl rfl rfl rfl (by omega)) ?_
      first | refine TL.yv (Wt.none rfl) rfl rfl (Yv.loadAB rfl rfl hk rfl (fun h => h)) ?_ | refine TL.yv (Wt.none rfl) rfl rfl (Yv.loadAP 0 (m := [.bool false, .int .i64 (nth xs ws.length).tw]) rfl rfl rfl rfl rfl) ?_ | refine TL.yv (Wt.none rfl) rfl rfl (Yv.loadAP 0 (m := [.bool true, .int .i64 (nth xs ws.length).cr]) rfl rfl rfl rfl rfl) ?_ | refine TL.yv (Wt.none rfl) rfl rfl (Yv.loadAO 0 rfl rfl rfl rfl) ?_ | refine TL.yv (Wt.none rfl) rfl rfl (Yv.loadAO 1 rfl rfl rfl rfl) ?_ | refine TL.yv (Wt.none rfl) rfl rfl (Yv.loadAO 2 rfl rfl rfl rfl) ?_ | refine TL.yv (Wt.none rfl) rfl rfl (Yv.loadAO 3 rfl rfl rfl rfl) ?_ | refine TL.yv (Wt.none rfl) rfl rfl (Yv.loadAO 4 rfl rfl rfl rfl) ?_ | refine TL.yv (Wt.none rfl) rfl rfl (Yv.loadAO 5 rfl rfl rfl rfl) ?_ | refine TL.yv (Wt.none rfl) rfl rfl (Yv.loadAO 6 rfl rfl rfl rfl) ?_ | refine TL.yv (Wt.none rfl) rfl rfl (Yv.loadAB rfl rfl (by assumption) rfl (fun h => h)) ?_
      (refine TL.ew (Wt.none rfl) rfl rfl (Ew.alloc rfl) ?_; rintro _ _ ⟨g13, rfl, rfl⟩)
      first | (refine TL.ew0 (Wt.none rfl) rfl (Ew.storeAll 0 rfl rfl rfl rfl rfl rfl) ?_; rintro _ _ ⟨rfl, rfl⟩) | (refine TL.ew0 (Wt.none rfl) rfl (Ew.storeAll 1 rfl rfl rfl rfl rfl rfl) ?_; rintro _ _ ⟨rfl, rfl⟩) | (refine TL.ew0 (Wt.none rfl) rfl (Ew.storeAll 2 rfl rfl rfl rfl rfl rfl) ?_; rintro _ _ ⟨rfl, rfl⟩) | (refine TL.ew0 (Wt.none rfl) rfl (Ew.storeAll 3 rfl rfl rfl rfl rfl rfl) ?_; rintro _ _ ⟨rfl, rfl⟩) | (refine TL.ew0 (Wt.none rfl) rfl (Ew.storeAll 4 rfl rfl rfl rfl rfl rfl) ?_; rintro _ _ ⟨rfl, rfl⟩) | (refine TL.ew0 (Wt.none rfl) rfl (Ew.storeAll 5 rfl rfl rfl rfl rfl rfl) ?_; rintro _ _ ⟨rfl, rfl⟩) | (refine TL.ew0 (Wt.none rfl) rfl (Ew.storeAll 6 rfl rfl rfl rfl rfl rfl) ?_; rintro _ _ ⟨rfl, rfl⟩) | (refine TL.ew0 (Wt.none rfl) rfl (Ew.storeAll 7 rfl rfl rfl rfl rfl rfl) ?_; rintro _ _ ⟨rfl, rfl⟩)
      refine TL.nil ?_
      refine K.seq ?_
      refine T.seq ?_
      refine T.region ?_
      first | refine TL.yv (Wt.none rfl) rfl rfl (Yv.loadAB rfl rfl hk rfl (fun h => h)) ?_ | refine TL.yv (Wt.none rfl) rfl rfl (Yv.loadAP 0 (m := [.bool false, .int .i64 (nth xs ws.length).tw]) rfl rfl rfl rfl rfl) ?_ | refine TL.yv (Wt.none rfl) rfl rfl (Yv.loadAP 0 (m := [.bool true, .int .i64 (nth xs ws.length).cr]) rfl rfl rfl rfl rfl) ?_ | refine TL.yv (Wt.none rfl) rfl rfl (Yv.loadAO 0 rfl rfl rfl rfl) ?_ | refine TL.yv (Wt.none rfl) rfl rfl (Yv.loadAO 1 rfl rfl rfl rfl) ?_ | refine TL.yv (Wt.none rfl) rfl rfl (Yv.loadAO 2 rfl rfl rfl rfl) ?_ | refine TL.yv (Wt.none rfl) rfl rfl (Yv.loadAO 3 rfl rfl rfl rfl) ?_ | refine TL.yv (Wt.none rfl) rfl rfl (Yv.loadAO 4 rfl rfl rfl rfl) ?_ | refine TL.yv (Wt.none rfl) rfl rfl (Yv.loadAO 5 rfl rfl rfl rfl) ?_ | refine TL.yv (Wt.none rfl) rfl rfl (Yv.loadAO 6 rfl rfl rfl rfl) ?_ | refine TL.yv (Wt.none rfl) rfl rfl (Yv.loadAO 7 rfl rfl rfl rfl) ?_ | refine TL.yv (Wt.none rfl) rfl rfl (Yv.loadAB rfl rfl (by assumption) rfl (fun h => h)) ?_
      (refine TL.ew (Wt.none rfl) rfl rfl (Ew.callD rfl rfl rfl (fun w hw => places_ret (nth xs ws.length) _)) ?_; rintro _ _ ⟨rfl, rfl⟩)
      simp only [plcells]
      (refine TL.ew (Wt.none rfl) rfl rfl (Ew.alloc rfl) ?_; rintro _ _ ⟨g14, rfl, rfl⟩)
      first | (refine TL.ew0 (Wt.none rfl) rfl (Ew.storeAll 0 rfl rfl rfl rfl rfl rfl) ?_; rintro _ _ ⟨rfl, rfl⟩) | (refine TL.ew0 (Wt.none rfl) rfl (Ew.storeAll 1 rfl rfl rfl rfl rfl rfl) ?_; rintro _ _ ⟨rfl, rfl⟩) | (refine TL.ew0 (Wt.none rfl) rfl (Ew.storeAll 2 rfl rfl rfl rfl rfl rfl) ?_; rintro _ _ ⟨rfl, rfl⟩) | (refine TL.ew0 (Wt.none rfl) rfl (Ew.storeAll 3 rfl rfl rfl rfl rfl rfl) ?_; rintro _ _ ⟨rfl, rfl⟩) | (refine TL.ew0 (Wt.none rfl) rfl (Ew.storeAll 4 rfl rfl rfl rfl rfl rfl) ?_; rintro _ _ ⟨rfl, rfl⟩) | (refine TL.ew0 (Wt.none rfl) rfl (Ew.storeAll 5 rfl rfl rfl rfl rfl rfl) ?_; rintro _ _ ⟨rfl, rfl⟩) | (refine TL.ew0 (Wt.none rfl) rfl (Ew.storeAll 6 rfl rfl rfl rfl rfl rfl) ?_; rintro _ _ ⟨rfl, rfl⟩) | (refine TL.ew0 (Wt.none rfl) rfl (Ew.storeAll 7 rfl rfl rfl rfl rfl rfl) ?_; rintro _ _ ⟨rfl, rfl⟩) | (refine TL.ew0 (Wt.none rfl) rfl (Ew.storeAll 8 rfl rfl rfl rfl rfl rfl) ?_; rintro _ _ ⟨rfl, rfl⟩)
      refine TL.nil ?_
      refine K.seq ?_
      refine T.seq ?_
      refine T.know (φ := OneC (rOf rs (false, (nth xs ws.length).tw)).v ∧ OneC (rOf rs (true, (nth xs ws.length).cr)).v) (fun w hw => ⟨rOf_one (hw.get (i := 2) rfl) _, rOf_one (hw.get (i := 2) rfl) _⟩) ?_
      rintro ⟨o1, o2⟩
      refine T.draw (.still 0 (.still 1 (.still 2 (.still 3 (.still 4 (.still 5 (.still 6 (.still 7 (.still 8 (.still 9 (.still 10 (.still 11 (.still 12 (.still 13 (.still 14 (.still 15 (.still 16 (.still 17 (.still 18 (.still 19 (.eff 20 (.still 21 .done)))))))))))))))))))))) _ (by kernel_rfl) (List.Sublist.refl _) ?_
      refine TS.still rfl (Wt.none rfl) rfl rfl (Yv.fieldAddr rfl rfl) ?_
      first | refine TS.still rfl (Wt.none rfl) rfl rfl (Yv.loadAB rfl rfl hk rfl (fun h => h)) ?_ | refine TS.still rfl (Wt.none rfl) rfl rfl (Yv.loadAP 0 (m := [.bool false, .int .i64 (nth xs ws.length).tw]) rfl rfl rfl rfl rfl) ?_ | refine TS.still rfl (Wt.none rfl) rfl rfl (Yv.loadAP 0 (m := [.bool true, .int .i64 (nth xs ws.length).cr]) rfl rfl rfl rfl rfl) ?_ | refine TS.still rfl (Wt.none rfl) rfl rfl (Yv.loadO 0 rfl rfl rfl rfl) ?_ | refine TS.still rfl (Wt.none rfl) rfl rfl (Yv.loadO 1 rfl rfl rfl rfl) ?_ | refine TS.still rfl (Wt.none rfl) rfl rfl (Yv.loadO 2 rfl rfl rfl rfl) ?_ | refine TS.still rfl (Wt.none rfl) rfl rfl (Yv.loadO 3 rfl rfl rfl rfl) ?_ | refine TS.still rfl (Wt.none rfl) rfl rfl (Yv.loadO 4 rfl rfl rfl rfl) ?_ | refine TS.still rfl (Wt.none rfl) rfl rfl (Yv.loadO 5 rfl rfl rfl rfl) ?_ | refine TS.still rfl (Wt.none rfl) rfl rfl (Yv.loadO 6 rfl rfl rfl rfl) ?_ | refine TS.still rfl (Wt.none rfl) rfl rfl (Yv.loadO 7 rfl rfl rfl rfl) ?_ | refine TS.still rfl (Wt.none rfl) rfl rfl (Yv.loadO 8 rfl rfl rfl rfl) ?_ | refine TS.still rfl (Wt.none rfl) rfl rfl (Yv.loadB rfl rfl (by assumption) (fun h => h)) ?_ | refine TS.still rfl (Wt.none rfl) rfl rfl (Yv.loadS 0 rfl rfl rfl (by first | rfl | assumption)) ?_ | refine TS.still rfl (Wt.none rfl) rfl rfl (Yv.loadS 1 rfl rfl rfl (by first | rfl | assumption)) ?_ | refine TS.still rfl (Wt.none rfl) rfl rfl (Yv.loadS 2 rfl rfl rfl (by first | rfl | assumption)) ?_ | refine TS.still rfl (Wt.none rfl) rfl rfl (Yv.loadS 3 rfl rfl rfl (by first | rfl | assumption)) ?_ | refine TS.still rfl (Wt.none rfl) rfl rfl (Yv.loadS 4 rfl rfl rfl (by first | rfl | assumption)) ?_ | refine TS.still rfl (Wt.none rfl) rfl rfl (Yv.loadS 5 rfl rfl rfl (by first | rfl | assumption)) ?_ | refine TS.still rfl (Wt.none rfl) rfl rfl (Yv.loadS 6 rfl rfl rfl (by first | rfl | assumption)) ?_ | refine TS.still rfl (Wt.none rfl) rfl rfl (Yv.loadS 7 rfl rfl rfl (by first | rfl | assumption)) ?_ | refine TS.still rfl (Wt.none rfl) rfl rfl (Yv.loadS 8 rfl rfl rfl (by first | rfl | assumption)) ?_
      first | refine TS.still rfl (Wt.none rfl) rfl rfl (Yv.loadAB rfl rfl hk rfl (fun h => h)) ?_ | refine TS.still rfl (Wt.none rfl) rfl rfl (Yv.loadAP 0 (m := [.bool false, .int .i64 (nth xs ws.length).tw]) rfl rfl rfl rfl rfl) ?_ | refine TS.still rfl (Wt.none rfl) rfl rfl (Yv.loadAP 0 (m := [.bool true, .int .i64 (nth xs ws.length).cr]) rfl rfl rfl rfl rfl) ?_ | refine TS.still rfl (Wt.none rfl) rfl rfl (Yv.loadO 0 rfl rfl rfl rfl) ?_ | refine TS.still rfl (Wt.none rfl) rfl rfl (Yv.loadO 1 rfl rfl rfl rfl) ?_ | refine TS.still rfl (Wt.none rfl) rfl rfl (Yv.loadO 2 rfl rfl rfl rfl) ?_ | refine TS.still rfl (Wt.none rfl) rfl rfl (Yv.loadO 3 rfl rfl rfl rfl) ?_ | refine TS.still rfl (Wt.none rfl) rfl rfl (Yv.loadO 4 rfl rfl rfl rfl) ?_ | refine TS.still rfl (Wt.none rfl) rfl rfl (Yv.loadO 5 rfl rfl rfl rfl) ?_ | refine TS.still rfl (Wt.none rfl) rfl rfl (Yv.loadO 6 rfl rfl rfl rfl) ?_ | refine TS.still rfl (Wt.none rfl) rfl rfl (Yv.loadO 7 rfl rfl rfl rfl) ?_ | refine TS.still rfl (Wt.none rfl) rfl rfl (Yv.loadO 8 rfl rfl rfl rfl) ?_ | refine TS.still rfl (Wt.none rfl) rfl rfl (Yv.loadB rfl rfl (by assumption) (fun h => h)) ?_ | refine TS.still rfl (Wt.none rfl) rfl rfl (Yv.loadS 0 rfl rfl rfl (by first | rfl | assumption)) ?_ | refine TS.still rfl (Wt.none rfl) rfl rfl (Yv.loadS 1 rfl rfl rfl (by first | rfl | assumption)) ?_ | refine TS.still rfl (Wt.none rfl) rfl rfl (Yv.loadS 2 rfl rfl rfl (by first | rfl | assumption)) ?_ | refine TS.still rfl (Wt.none rfl) rfl rfl (Yv.loadS 3 rfl rfl rfl (by first | rfl | assumption)) ?_ | refine TS.still rfl (Wt.none rfl) rfl rfl (Yv.loadS 4 rfl rfl rfl (by first | rfl | assumption)) ?_ | refine TS.still rfl (Wt.none rfl) rfl rfl (Yv.loadS 5 rfl rfl rfl (by first | rfl | assumption)) ?_ | refine TS.still rfl (Wt.none rfl) rfl rfl (Yv.loadS 6 rfl rfl rfl (by first | rfl | assumption)) ?_ | refine TS.still rfl (Wt.none rfl) rfl rfl (Yv.loadS 7 rfl rfl rfl (by first | rfl | assumption)) ?_ | refine TS.still rfl (Wt.none rfl) rfl rfl (Yv.loadS 8 rfl rfl rfl (by first | rfl | assumption)) ?_
      first | refine TS.still rfl (Wt.none rfl) rfl rfl (Yv.indexSl rfl rfl rfl (show (0 : Int) = ((0 : Nat) : Int) from rfl) (by omega)) ?_ | refine TS.still rfl (Wt.none rfl) rfl rfl (Yv.indexAr rfl rfl rfl (show (0 : Int) = ((0 : Nat) : Int) from rfl) (by decide)) ?_
      first | refine TS.still rfl (Wt.none rfl) rfl rfl (Yv.loadAB rfl rfl hk rfl (fun h => h)) ?_ | refine TS.still rfl (Wt.none rfl) rfl rfl (Yv.loadAP 0 (m := [.bool false, .int .i64 (nth xs ws.length).tw]) rfl rfl rfl rfl rfl) ?_ | refine TS.still rfl (Wt.none rfl) rfl rfl (Yv.loadAP 0 (m := [.bool true, .int .i64 (nth xs ws.length).cr]) rfl rfl rfl rfl rfl) ?_ | refine TS.still rfl (Wt.none rfl) rfl rfl (Yv.loadAO 0 rfl rfl rfl rfl) ?_ | refine TS.still rfl (Wt.none rfl) rfl rfl (Yv.loadAO 1 rfl rfl rfl rfl) ?_ | refine TS.still rfl (Wt.none rfl) rfl rfl (Yv.loadAO 2 rfl rfl rfl rfl) ?_ | refine TS.still rfl (Wt.none rfl) rfl rfl (Yv.loadAO 3 rfl rfl rfl rfl) ?_ | refine TS.still rfl (Wt.none rfl) rfl rfl (Yv.loadAO 4 rfl rfl rfl rfl) ?_ | refine TS.still rfl (Wt.none rfl) rfl rfl (Yv.loadAO 5 rfl rfl rfl rfl) ?_ | refine TS.still rfl (Wt.none rfl) rfl rfl (Yv.loadAO 6 rfl rfl rfl rfl) ?_ | refine TS.still rfl (Wt.none rfl) rfl rfl (Yv.loadAO 7 rfl rfl rfl rfl) ?_ | refine TS.still rfl (Wt.none rfl) rfl rfl (Yv.loadAO 8 rfl rfl rfl rfl) ?_ | refine TS.still rfl (Wt.none rfl) rfl rfl (Yv.loadAB rfl rfl (by assumption) rfl (fun h => h)) ?_
      first | refine TS.still rfl (Wt.none rfl) rfl rfl (Yv.lookupV 5 rfl rfl rfl rfl hr0) ?_ | refine TS.still rfl (Wt.none rfl) rfl rfl (Yv.lookupV 5 rfl rfl rfl rfl hr1) ?_ | refine TS.still rfl (Wt.none rfl) rfl rfl (Yv.lookupV 6 rfl rfl rfl rfl hgc0) ?_ | refine TS.still rfl (Wt.none rfl) rfl rfl (Yv.lookupV 6 rfl rfl rfl rfl hgc1) ?_ | refine TS.still rfl (Wt.none rfl) rfl rfl (Yv.lookupV 7 rfl rfl rfl rfl hr2) ?_
      first | refine TS.still rfl (Wt.none rfl) rfl rfl (Yv.loadAB rfl rfl hk rfl (fun h => h)) ?_ | refine TS.still rfl (Wt.none rfl) rfl rfl (Yv.loadAP 0 (m := [.bool false, .int .i64 (nth xs ws.length).tw]) rfl rfl rfl rfl rfl) ?_ | refine TS.still rfl (Wt.none rfl) rfl rfl (Yv.loadAP 0 (m := [.bool true, .int .i64 (nth xs ws.length).cr]) rfl rfl rfl rfl rfl) ?_ | refine TS.still rfl (Wt.none rfl) rfl rfl (Yv.loadO 0 rfl rfl rfl rfl) ?_ | refine TS.still rfl (Wt.none rfl) rfl rfl (Yv.loadO 1 rfl rfl rfl rfl) ?_ | refine TS.still rfl (Wt.none rfl) rfl rfl (Yv.loadO 2 rfl rfl rfl rfl) ?_ | refine TS.still rfl (Wt.none rfl) rfl rfl (Yv.loadO 3 rfl rfl rfl rfl) ?_ | refine TS.still rfl (Wt.none rfl) rfl rfl (Yv.loadO 4 rfl rfl rfl rfl) ?_ | refine TS.still rfl (Wt.none rfl) rfl rfl (Yv.loadO 5 rfl rfl rfl rfl) ?_ | refine TS.still rfl (Wt.none rfl) rfl rfl (Yv.loadO 6 rfl rfl rfl rfl) ?_ | refine TS.still rfl (Wt.none rfl) rfl rfl (Yv.loadO 7 rfl rfl rfl rfl) ?_ | refine TS.still rfl (Wt.none rfl) rfl rfl (Yv.loadO 8 rfl rfl rfl rfl) ?_ | refine TS.still rfl (Wt.none rfl) rfl rfl (Yv.loadB rfl rfl (by assumption) (fun h => h)) ?_ | refine TS.still rfl (Wt.none rfl) rfl rfl (Yv.loadS 0 rfl rfl rfl (by first | rfl | assumption)) ?_ | refine TS.still rfl (Wt.none rfl) rfl rfl (Yv.loadS 1 rfl rfl rfl (by first | rfl | assumption)) ?_ | refine TS.still rfl (Wt.none rfl) rfl rfl (Yv.loadS 2 rfl rfl rfl (by first | rfl | assumption)) ?_ | refine TS.still rfl (Wt.none rfl) rfl rfl (Yv.loadS 3 rfl rfl rfl (by first | rfl | assumption)) ?_ | refine TS.still rfl (Wt.none rfl) rfl rfl (Yv.loadS 4 rfl rfl rfl (by first | rfl | assumption)) ?_ | refine TS.still rfl (Wt.none rfl) rfl rfl (Yv.loadS 5 rfl rfl rfl (by first | rfl | assumption)) ?_ | refine TS.still rfl (Wt.none rfl) rfl rfl (Yv.loadS 6 rfl rfl rfl (by first | rfl | assumption)) ?_ | refine TS.still rfl (Wt.none rfl) rfl rfl (Yv.loadS 7 rfl rfl rfl (by first | rfl | assumption)) ?_ | refine TS.still rfl (Wt.none rfl) rfl rfl (Yv.loadS 8 rfl rfl rfl (by first | rfl | assumption)) ?_
      first | refine TS.still rfl (Wt.none rfl) rfl rfl (Yv.indexSl rfl rfl rfl (show (1 : Int) = ((1 : Nat) : Int) from rfl) (by omega)) ?_ | refine TS.still rfl (Wt.none rfl) rfl rfl (Yv.indexAr rfl rfl rfl (show (1 : Int) = ((1 : Nat) : Int) from rfl) (by decide)) ?_
      first | refine TS.still rfl (Wt.none rfl) rfl rfl (Yv.loadAB rfl rfl hk rfl (fun h => h)) ?_ | refine TS.still rfl (Wt.none rfl) rfl rfl (Yv.loadAP 0 (m := [.bool false, .int .i64 (nth xs ws.length).tw]) rfl rfl rfl rfl rfl) ?_ | refine TS.still rfl (Wt.none rfl) rfl rfl (Yv.loadAP 0 (m := [.bool true, .int .i64 (nth xs ws.length).cr]) rfl rfl rfl rfl rfl) ?_ | refine TS.still rfl (Wt.none rfl) rfl rfl (Yv.loadAO 0 rfl rfl rfl rfl) ?_ | refine TS.still rfl (Wt.none rfl) rfl rfl (Yv.loadAO 1 rfl rfl rfl rfl) ?_ | refine TS.still rfl (Wt.none rfl) rfl rfl (Yv.loadAO 2 rfl rfl rfl rfl) ?_ | refine TS.still rfl (Wt.none rfl) rfl rfl (Yv.loadAO 3 rfl rfl rfl rfl) ?_ | refine TS.still rfl (Wt.none rfl) rfl rfl (Yv.loadAO 4 rfl rfl rfl rfl) ?_ | refine TS.still rfl (Wt.none rfl) rfl rfl (Yv.loadAO 5 rfl rfl rfl rfl) ?_ | refine TS.still rfl (Wt.none rfl) rfl rfl (Yv.loadAO 6 rfl rfl rfl rfl) ?_ | refine TS.still rfl (Wt.none rfl) rfl rfl (Yv.loadAO 7 rfl rfl rfl rfl) ?_ | refine TS.still rfl (Wt.none rfl) rfl rfl (Yv.loadAO 8 rfl rfl rfl rfl) ?_ | refine TS.still rfl (Wt.none rfl) rfl rfl (Yv.loadAB rfl rfl (by assumption) rfl (fun h => h)) ?_
      first | refine TS.still rfl (Wt.none rfl) rfl rfl (Yv.lookupV 5 rfl rfl rfl rfl hr0) ?_ | refine TS.still rfl (Wt.none rfl) rfl rfl (Yv.lookupV 5 rfl rfl rfl rfl hr1) ?_ | refine TS.still rfl (Wt.none rfl) rfl rfl (Yv.lookupV 6 rfl rfl rfl rfl hgc0) ?_ | refine TS.still rfl (Wt.none rfl) rfl rfl (Yv.lookupV 6 rfl rfl rfl rfl hgc1) ?_ | refine TS.still rfl (Wt.none rfl) rfl rfl (Yv.lookupV 7 rfl rfl rfl rfl hr2) ?_
      first | refine TS.still rfl (Wt.none rfl) rfl rfl (Yv.build rfl rfl) ?_ | refine TS.still rfl (Wt.none rfl) rfl rfl (Yv.buildAr rfl rfl) ?_
      refine TS.still rfl (Wt.none rfl) rfl rfl (Yv.pur rfl) ?_
      first | refine TS.still rfl (Wt.none rfl) rfl rfl (Yv.indexSl rfl rfl rfl (show (0 : Int) = ((0 : Nat) : Int) from rfl) (by omega)) ?_ | refine TS.still rfl (Wt.none rfl) rfl rfl (Yv.indexAr rfl rfl rfl (show (0 : Int) = ((0 : Nat) : Int) from rfl) (by decide)) ?_
      first | refine TS.still rfl (Wt.none rfl) rfl rfl (Yv.loadAB rfl rfl hk rfl (fun h => h)) ?_ | refine TS.still rfl (Wt.none rfl) rfl rfl (Yv.loadAP 0 (m := [.bool false, .int .i64 (nth xs ws.length).tw]) rfl rfl rfl rfl rfl) ?_ | refine TS.still rfl (Wt.none rfl) rfl rfl (Yv.loadAP 0 (m := [.bool true, .int .i64 (nth xs ws.length).cr]) rfl rfl rfl rfl rfl) ?_ | refine TS.still rfl (Wt.none rfl) rfl rfl (Yv.loadAO 0 rfl rfl rfl rfl) ?_ | refine TS.still rfl (Wt.none rfl) rfl rfl (Yv.loadAO 1 rfl rfl rfl rfl) ?_ | refine TS.still rfl (Wt.none rfl) rfl rfl (Yv.loadAO 2 rfl rfl rfl rfl) ?_ | refine TS.still rfl (Wt.none rfl) rfl rfl (Yv.loadAO 3 rfl rfl rfl rfl) ?_ | refine TS.still rfl (Wt.none rfl) rfl rfl (Yv.loadAO 4 rfl rfl rfl rfl) ?_ | refine TS.still rfl (Wt.none rfl) rfl rfl (Yv.loadAO 5 rfl rfl rfl rfl) ?_ | refine TS.still rfl (Wt.none rfl) rfl rfl (Yv.loadAO 6 rfl rfl rfl rfl) ?_ | refine TS.still rfl (Wt.none rfl) rfl rfl (Yv.loadAO 7 rfl rfl rfl rfl) ?_ | refine TS.still rfl (Wt.none rfl) rfl rfl (Yv.loadAO 8 rfl rfl rfl rfl) ?_ | refine TS.still rfl (Wt.none rfl) rfl rfl (Yv.loadAB rfl rfl (by assumption) rfl (fun h => h)) ?_
      first | refine TS.still rfl (Wt.none rfl) rfl rfl (Yv.lookupV 5 rfl rfl rfl rfl hr0) ?_ | refine TS.still rfl (Wt.none rfl) rfl rfl (Yv.lookupV 5 rfl rfl rfl rfl hr1) ?_ | refine TS.still rfl (Wt.none rfl) rfl rfl (Yv.lookupV 6 rfl rfl rfl rfl hgc0) ?_ | refine TS.still rfl (Wt.none rfl) rfl rfl (Yv.lookupV 6 rfl rfl rfl rfl hgc1) ?_ | refine TS.still rfl (Wt.none rfl) rfl rfl (Yv.lookupV 7 rfl rfl rfl rfl hr2) ?_
      refine TS.still rfl (Wt.none rfl) rfl rfl (Yv.pur rfl) ?_
      first | refine TS.still rfl (Wt.none rfl) rfl rfl (Yv.indexSl rfl rfl rfl (show (1 : Int) = ((1 : Nat) : Int) from rfl) (by omega)) ?_ | refine TS.still rfl (Wt.none rfl) rfl rfl (Yv.indexAr rfl rfl rfl (show (1 : Int) = ((1 : Nat) : Int) from rfl) (by decide)) ?_
      first | refine TS.still rfl (Wt.none rfl) rfl rfl (Yv.loadAB rfl rfl hk rfl (fun h => h)) ?_ | refine TS.still rfl (Wt.none rfl) rfl rfl (Yv.loadAP 0 (m := [.bool false, .int .i64 (nth xs ws.length).tw]) rfl rfl rfl rfl rfl) ?_ | refine TS.still rfl (Wt.none rfl) rfl rfl (Yv.loadAP 0 (m := [.bool true, .int .i64 (nth xs ws.length).cr]) rfl rfl rfl rfl rfl) ?_ | refine TS.still rfl (Wt.none rfl) rfl rfl (Yv.loadAO 0 rfl rfl rfl rfl) ?_ | refine TS.still rfl (Wt.none rfl) rfl rfl (Yv.loadAO 1 rfl rfl rfl rfl) ?_ | refine TS.still rfl (Wt.none rfl) rfl rfl (Yv.loadAO 2 rfl rfl rfl rfl) ?_ | refine TS.still rfl (Wt.none rfl) rfl rfl (Yv.loadAO 3 rfl rfl rfl rfl) ?_ | refine TS.still rfl (Wt.none rfl) rfl rfl (Yv.loadAO 4 rfl rfl rfl rfl) ?_ | refine TS.still rfl (Wt.none rfl) rfl rfl (Yv.loadAO 5 rfl rfl rfl rfl) ?_ | refine TS.still rfl (Wt.none rfl) rfl rfl (Yv.loadAO 6 rfl rfl rfl rfl) ?_ | refine TS.still rfl (Wt.none rfl) rfl rfl (Yv.loadAO 7 rfl rfl rfl rfl) ?_ | refine TS.still rfl (Wt.none rfl) rfl rfl (Yv.loadAO 8 rfl rfl rfl rfl) ?_ | refine TS.still rfl (Wt.none rfl) rfl rfl (Yv.loadAB rfl rfl (by assumption) rfl (fun h => h)) ?_
      first | refine TS.still rfl (Wt.none rfl) rfl rfl (Yv.lookupV 5 rfl rfl rfl rfl hr0) ?_ | refine TS.still rfl (Wt.none rfl) rfl rfl (Yv.lookupV 5 rfl rfl rfl rfl hr1) ?_ | refine TS.still rfl (Wt.none rfl) rfl rfl (Yv.lookupV 6 rfl rfl rfl rfl hgc0) ?_ | refine TS.still rfl (Wt.none rfl) rfl rfl (Yv.lookupV 6 rfl rfl rfl rfl hgc1) ?_ | refine TS.still rfl (Wt.none rfl) rfl rfl (Yv.lookupV 7 rfl rfl rfl rfl hr2) ?_
      first | refine TS.still rfl (Wt.none rfl) rfl rfl (Yv.build rfl rfl) ?_ | refine TS.still rfl (Wt.none rfl) rfl rfl (Yv.buildAr rfl rfl) ?_
      refine TS.eff ?_
      (refine TSo.ew rfl (Wt.none rfl) rfl rfl (Ew.callH rfl rfl rfl (fun w hw => by have := earliest_ret nw (52 * ws.length) (rOf rs (false, (nth xs ws.length).tw)).v (rOf rs (true, (nth xs ws.length).cr)).v (rOf rs (false, (nth xs ws.length).tw)).nb (rOf rs (true, (nth xs ws.length).cr)).nb (rOf rs (false, (nth xs ws.length).tw)).c (rOf rs (true, (nth xs ws.length).cr)).c (capOf ts (nth xs ws.length).tw) (capOf cs (nth xs ws.length).cr) (freeW xs ws ts cs ws.length) w (rOf_ok (hw.get (i := 2) rfl) _) (rOf_ok (hw.get (i := 2) rfl) _) (by omega) (by omega) (fun j => by rw [hcnt]; have := hle (false, (nth xs ws.length).tw) j; omega) (fun j => by rw [hcnt]; have := hle (true, (nth xs ws.length).cr) j; omega) (free_is hcnt) (fun k hk => hwi.free_end (by omega) hcc.1.1 hcc.2.1); rw [← hnw] at this; exact this)) ?_; rintro _ _ ⟨s, ⟨hfirst, hsL⟩, rfl, rfl⟩; refine ⟨(by repeat (first | exact List.Sublist.refl _ | exact List.nil_sublist _ | refine List.Sublist.cons_cons _ ?_ | refine List.Sublist.cons _ ?_)), ?_⟩)
      dsimp only [List.nil_append] at hfirst hsL ⊢
      refine TS.still rfl (Wt.none rfl) rfl rfl (Yv.pur rfl) ?_
      refine TS.done ?_
      refine K.seq ?_
      refine T.seq ?_
      refine T.seq ?_
      refine T.region ?_
      first | refine TL.yv (Wt.none rfl) rfl rfl (Yv.loadAB rfl rfl hk rfl (fun h => h)) ?_ | refine TL.yv (Wt.none rfl) rfl rfl (Yv.loadAP 0 (m := [.bool false, .int .i64 (nth xs ws.length).tw]) rfl rfl rfl rfl rfl) ?_ | refine TL.yv (Wt.none rfl) rfl rfl (Yv.loadAP 0 (m := [.bool true, .int .i64 (nth xs ws.length).cr]) rfl rfl rfl rfl rfl) ?_ | refine TL.yv (Wt.none rfl) rfl rfl (Yv.loadAO 0 rfl rfl rfl rfl) ?_ | refine TL.yv (Wt.none rfl) rfl rfl (Yv.loadAO 1 rfl rfl rfl rfl) ?_ | refine TL.yv (Wt.none rfl) rfl rfl (Yv.loadAO 2 rfl rfl rfl rfl) ?_ | refine TL.yv (Wt.none rfl) rfl rfl (Yv.loadAO 3 rfl rfl rfl rfl) ?_ | refine TL.yv (Wt.none rfl) rfl rfl (Yv.loadAO 4 rfl rfl rfl rfl) ?_ | refine TL.yv (Wt.none rfl) rfl rfl (Yv.loadAO 5 rfl rfl rfl rfl) ?_ | refine TL.yv (Wt.none rfl) rfl rfl (Yv.loadAO 6 rfl rfl rfl rfl) ?_ | refine TL.yv (Wt.none rfl) rfl rfl (Yv.loadAO 7 rfl rfl rfl rfl) ?_ | refine TL.yv (Wt.none rfl) rfl rfl (Yv.loadAO 8 rfl rfl rfl rfl) ?_ | refine TL.yv (Wt.none rfl) rfl rfl (Yv.loadAB rfl rfl (by assumption) rfl (fun h => h)) ?_
      refine TL.yv (Wt.none rfl) rfl rfl (Yv.pur rfl) ?_
      refine TL.nil ?_
      refine K.seq ?_
      refine T.block ?_
      refine T.loop (ι := Nat × List Rc) (fun y => [(0, .slice (some ⟨g, off, none⟩) xs.length cap), (8, .map (some gm)), (10, .pointer (some ⟨g10, 0, none⟩)), (11, vw), (13, .pointer (some ⟨g13, 0, none⟩)), (15, .int .i64 (s : Int)), (30, .slice (some ⟨g, off, none⟩) xs.length cap), (31, .int .i64 (xs.length : Int)), (32, .int .i64 (ws.length : Int)), (59, .agg (plcells (nth xs ws.length)).toArray), (60, .int .i64 (y.1 : Int))]) (fun y => [.row g13 27 [.int .i64 (nth xs ws.length).st, .int .i64 (nth xs ws.length).old, .int .i64 (nth xs ws.length).nw, .int .i64 (nth xs ws.length).tw, .int .i64 (nth xs ws.length).cr, .int .i64 (nth xs ws.length).wk], recs y.2, .sl vw 51 3 ws.length (wcells ws), .row g10 76 [.map (some g29)], .mp g29 (kvR y.2), .mp gm kv0]) (fun y => y.1 ≤ 2 ∧ Cnt y.2 (cB (useN xs ws) (nth xs ws.length) s nw y.1)) (fun y => 2 - y.1) (0, rs) ?_ ?_ ?_ ?_
      · exact ⟨by show 0 ≤ 2; omega, hcnt.congr (fun q t => (cB_zero _ _ _ _ q t).symm)⟩
      · exact (by repeat (first | exact Sub.nil | refine Sub.cons rfl ?_))
      · exact (by repeat (first | exact List.Sublist.refl _ | exact List.nil_sublist _ | refine List.Sublist.cons_cons _ ?_ | refine List.Sublist.cons _ ?_))
      · intro y hphi
        obtain ⟨b, rs3⟩ := y
        dsimp only at hphi ⊢
        obtain ⟨hb2, hcnt3⟩ := hphi
        refine T.seq ?_
        refine T.region ?_
        refine TL.yv (Wt.none rfl) rfl rfl (Yv.pur rfl) ?_
        refine TL.nil ?_
        refine K.seq ?_
        refine T.seq ?_
        refine T.cond rfl (fun h2 => ?_) (fun h2 => ?_)
        · have p2 := h2
          try simp only [decide_eq_true_eq, decide_eq_false_iff_not, Int.not_lt, Int.not_le, Bool.not_eq_true', Bool.not_eq_false', Decidable.not_not, Bool.and_eq_true, Bool.or_eq_true, Bool.and_eq_false_iff, Bool.or_eq_false_iff] at p2
          have hpl := plcells_at (nth xs ws.length) b (by omega)
          refine T.skip ?_
          refine K.seq ?_
          refine T.seq ?_
          refine T.block ?_
          refine T.seq ?_
          refine T.region ?_
          first | refine TL.yv (Wt.none rfl) rfl rfl (Yv.indexV rfl rfl rfl rfl (by omega) hpl) ?_ | refine TL.yv (Wt.none rfl) rfl rfl (Yv.indexV rfl rfl rfl rfl (by omega) rfl) ?_ | refine TL.yv (Wt.none rfl) rfl rfl (Yv.indexS rfl rfl rfl rfl (by omega) rfl) ?_
          (refine TL.ew (Wt.none rfl) rfl rfl (Ew.alloc rfl) ?_; rintro _ _ ⟨g17, rfl, rfl⟩)
          first | (refine TL.ew0 (Wt.none rfl) rfl (Ew.storeAll 0 rfl rfl rfl rfl rfl rfl) ?_; rintro _ _ ⟨rfl, rfl⟩) | (refine TL.ew0 (Wt.none rfl) rfl (Ew.storeAll 1 rfl rfl rfl rfl rfl rfl) ?_; rintro _ _ ⟨rfl, rfl⟩) | (refine TL.ew0 (Wt.none rfl) rfl (Ew.storeAll 2 rfl rfl rfl rfl rfl rfl) ?_; rintro _ _ ⟨rfl, rfl⟩) | (refine TL.ew0 (Wt.none rfl) rfl (Ew.storeAll 3 rfl rfl rfl rfl rfl rfl) ?_; rintro _ _ ⟨rfl, rfl⟩) | (refine TL.ew0 (Wt.none rfl) rfl (Ew.storeAll 4 rfl rfl rfl rfl rfl rfl) ?_; rintro _ _ ⟨rfl, rfl⟩) | (refine TL.ew0 (Wt.none rfl) rfl (Ew.storeAll 5 rfl rfl rfl rfl rfl rfl) ?_; rintro _ _ ⟨rfl, rfl⟩) | (refine TL.ew0 (Wt.none rfl) rfl (Ew.storeAll 6 rfl rfl rfl rfl rfl rfl) ?_; rintro _ _ ⟨rfl, rfl⟩) | (refine TL.ew0 (Wt.none rfl) rfl (Ew.storeAll 7 rfl rfl rfl rfl rfl rfl) ?_; rintro _ _ ⟨rfl, rfl⟩) | (refine TL.ew0 (Wt.none rfl) rfl (Ew.storeAll 8 rfl rfl rfl rfl rfl rfl) ?_; rintro _ _ ⟨rfl, rfl⟩)
          refine TL.nil ?_
          refine K.seq ?_
          refine T.seq ?_
          refine T.region ?_
          refine TL.yv (Wt.none rfl) rfl rfl (Yv.pur rfl) ?_
          refine TL.yv (Wt.none rfl) rfl rfl (Yv.fieldAddr rfl rfl) ?_
          first | refine TL.yv (Wt.none rfl) rfl rfl (Yv.loadAB rfl rfl hk rfl (fun h => h)) ?_ | refine TL.yv (Wt.none rfl) rfl rfl (Yv.loadAP 0 (m := [.bool false, .int .i64 (nth xs ws.length).tw]) rfl rfl rfl rfl rfl) ?_ | refine TL.yv (Wt.none rfl) rfl rfl (Yv.loadAP 0 (m := [.bool true, .int .i64 (nth xs ws.length).cr]) rfl rfl rfl rfl rfl) ?_ | refine TL.yv (Wt.none rfl) rfl rfl (Yv.loadO 0 rfl rfl rfl rfl) ?_ | refine TL.yv (Wt.none rfl) rfl rfl (Yv.loadO 1 rfl rfl rfl rfl) ?_ | refine TL.yv (Wt.none rfl) rfl rfl (Yv.loadO 2 rfl rfl rfl rfl) ?_ | refine TL.yv (Wt.none rfl) rfl rfl (Yv.loadO 3 rfl rfl rfl rfl) ?_ | refine TL.yv (Wt.none rfl) rfl rfl (Yv.loadO 4 rfl rfl rfl rfl) ?_ | refine TL.yv (Wt.none rfl) rfl rfl (Yv.loadO 5 rfl rfl rfl rfl) ?_ | refine TL.yv (Wt.none rfl) rfl rfl (Yv.loadO 6 rfl rfl rfl rfl) ?_ | refine TL.yv (Wt.none rfl) rfl rfl (Yv.loadO 7 rfl rfl rfl rfl) ?_ | refine TL.yv (Wt.none rfl) rfl rfl (Yv.loadO 8 rfl rfl rfl rfl) ?_ | refine TL.yv (Wt.none rfl) rfl rfl (Yv.loadB rfl rfl (by assumption) (fun h => h)) ?_ | refine TL.yv (Wt.none rfl) rfl rfl (Yv.loadS 0 rfl rfl rfl (by first | rfl | assumption)) ?_ | refine TL.yv (Wt.none rfl) rfl rfl (Yv.loadS 1 rfl rfl rfl (by first | rfl | assumption)) ?_ | refine TL.yv (Wt.none rfl) rfl rfl (Yv.loadS 2 rfl rfl rfl (by first | rfl | assumption)) ?_ | refine TL.yv (Wt.none rfl) rfl rfl (Yv.loadS 3 rfl rfl rfl (by first | rfl | assumption)) ?_ | refine TL.yv (Wt.none rfl) rfl rfl (Yv.loadS 4 rfl rfl rfl (by first | rfl | assumption)) ?_ | refine TL.yv (Wt.none rfl) rfl rfl (Yv.loadS 5 rfl rfl rfl (by first | rfl | assumption)) ?_ | refine TL.yv (Wt.none rfl) rfl rfl (Yv.loadS 6 rfl rfl rfl (by first | rfl | assumption)) ?_ | refine TL.yv (Wt.none rfl) rfl rfl (Yv.loadS 7 rfl rfl rfl (by first | rfl | assumption)) ?_ | refine TL.yv (Wt.none rfl) rfl rfl (Yv.loadS 8 rfl rfl rfl (by first | rfl | assumption)) ?_
          (refine TL.ew (Wt.none rfl) rfl rfl (Ew.callH rfl rfl rfl (fun w hw => weeks_ret _ _ _)) ?_; rintro _ _ ⟨⟨a66, b66⟩, -, rfl, rfl⟩)
          dsimp only [List.cons_append, List.nil_append]
          refine TL.nil ?_
          refine K.seq ?_
          refine T.block ?_
          refine T.range (α := Nat) (fun d : Nat => [.int .i64 ((s : Int) + (d : Int))]) (List.range nw) ([.row a66 3 [.int .i64 (nth xs ws.length).wk], .row b66 3 [.int .i64 (s : Int)]]) (fun i g => ∃ rs1, Cnt rs1 (cAt (useN xs ws) (nth xs ws.length) s nw b i) ∧ g = [.row g17 72 [.bool (plOf (nth xs ws.length) b).1, .int .i64 (plOf (nth xs ws.length) b).2], .row g13 27 [.int .i64 (nth xs ws.length).st, .int .i64 (nth xs ws.length).old, .int .i64 (nth xs ws.length).nw, .int .i64 (nth xs ws.length).tw, .int .i64 (nth xs ws.length).cr, .int .i64 (nth xs ws.length).wk], recs rs1, .sl vw 51 3 ws.length (wcells ws), .row g10 76 [.map (some g29)], .mp g29 (kvR rs1), .mp gm kv0]) (fun _ _ => False) (fun x => [(10, .pointer (some ⟨g10, 0, none⟩)), (17, .pointer (some ⟨g17, 0, none⟩)), (18, .int .i64 ((s : Int) + (x : Int)))]) (_) (⟨rs3, by rw [← cB_start _ _ _ _ _ (by omega)]; exact hcnt3, rfl⟩) rfl (by have := weeks_iter s nw a66 b66 (by omega); rw [← hnw] at this; exact this) (by decide) (fun _ => rfl) (by exact (by repeat (first | exact List.Sublist.refl _ | exact List.nil_sublist _ | refine List.Sublist.cons_cons _ ?_ | refine List.Sublist.cons _ ?_))) ?_ ?_ ?_ ?_
          · intro l i x X D g hx
            refine T.region ?_
            refine TL.yv (Wt.none rfl) rfl rfl (Yv.pur rfl) ?_
            refine TL.nil ?_
            exact K.at (by repeat (first | exact Sub.nil | refine Sub.cons rfl ?_)) (List.Sublist.refl _)
          · intro l i x X D g hx hG
            obtain ⟨rs1, hcnt1, rfl⟩ := hG
            obtain ⟨rfl, hin⟩ := range_get hx
            dsimp only [List.cons_append, List.nil_append]
            have hr2 := kvR_get rs1 (plOf (nth xs ws.length) b)
            refine T.block ?_
            refine T.draw (.still 0 (.still 1 (.still 2 (.still 3 (.still 5 (.eff 4 (.eff 6 (.eff 7 .done)))))))) [.row g17 72 [.bool (plOf (nth xs ws.length) b).1, .int .i64 (plOf (nth xs ws.length) b).2], .row g10 76 [.map (some g29)]] (by kernel_rfl) (by repeat (first | exact List.Sublist.refl _ | exact List.nil_sublist _ | refine List.Sublist.cons_cons _ ?_ | refine List.Sublist.cons _ ?_)) ?_
            first | refine TS.still rfl (Wt.none rfl) rfl rfl (Yv.loadAB rfl rfl hk rfl (fun h => h)) ?_ | refine TS.still rfl (Wt.none rfl) rfl rfl (Yv.loadAP 0 (m := [.bool false, .int .i64 (nth xs ws.length).tw]) rfl rfl rfl rfl rfl) ?_ | refine TS.still rfl (Wt.none rfl) rfl rfl (Yv.loadAP 0 (m := [.bool true, .int .i64 (nth xs ws.length).cr]) rfl rfl rfl rfl rfl) ?_ | refine TS.still rfl (Wt.none rfl) rfl rfl (Yv.loadO 0 rfl rfl rfl rfl) ?_ | refine TS.still rfl (Wt.none rfl) rfl rfl (Yv.loadO 1 rfl rfl rfl rfl) ?_ | refine TS.still rfl (Wt.none rfl) rfl rfl (Yv.loadO 2 rfl rfl rfl rfl) ?_ | refine TS.still rfl (Wt.none rfl) rfl rfl (Yv.loadO 3 rfl rfl rfl rfl) ?_ | refine TS.still rfl (Wt.none rfl) rfl rfl (Yv.loadO 4 rfl rfl rfl rfl) ?_ | refine TS.still rfl (Wt.none rfl) rfl rfl (Yv.loadO 5 rfl rfl rfl rfl) ?_ | refine TS.still rfl (Wt.none rfl) rfl rfl (Yv.loadO 6 rfl rfl rfl rfl) ?_ | refine TS.still rfl (Wt.none rfl) rfl rfl (Yv.loadO 7 rfl rfl rfl rfl) ?_ | refine TS.still rfl (Wt.none rfl) rfl rfl (Yv.loadO 8 rfl rfl rfl rfl) ?_ | refine TS.still rfl (Wt.none rfl) rfl rfl (Yv.loadO 9 rfl rfl rfl rfl) ?_ | refine TS.still rfl (Wt.none rfl) rfl rfl (Yv.loadB rfl rfl (by assumption) (fun h => h)) ?_ | refine TS.still rfl (Wt.none rfl) rfl rfl (Yv.loadS 0 rfl rfl rfl (by first | rfl | assumption)) ?_ | refine TS.still rfl (Wt.none rfl) rfl rfl (Yv.loadS 1 rfl rfl rfl (by first | rfl | assumption)) ?_ | refine TS.still rfl (Wt.none rfl) rfl rfl (Yv.loadS 2 rfl rfl rfl (by first | rfl | assumption)) ?_ | refine TS.still rfl (Wt.none rfl) rfl rfl (Yv.loadS 3 rfl rfl rfl (by first | rfl | assumption)) ?_ | refine TS.still rfl (Wt.none rfl) rfl rfl (Yv.loadS 4 rfl rfl rfl (by first | rfl | assumption)) ?_ | refine TS.still rfl (Wt.none rfl) rfl rfl (Yv.loadS 5 rfl rfl rfl (by first | rfl | assumption)) ?_ | refine TS.still rfl (Wt.none rfl) rfl rfl (Yv.loadS 6 rfl rfl rfl (by first | rfl | assumption)) ?_ | refine TS.still rfl (Wt.none rfl) rfl rfl (Yv.loadS 7 rfl rfl rfl (by first | rfl | assumption)) ?_ | refine TS.still rfl (Wt.none rfl) rfl rfl (Yv.loadS 8 rfl rfl rfl (by first | rfl | assumption)) ?_ | refine TS.still rfl (Wt.none rfl) rfl rfl (Yv.loadS 9 rfl rfl rfl (by first | rfl | assumption)) ?_
            first | refine TS.still rfl (Wt.none rfl) rfl rfl (Yv.loadAB rfl rfl hk rfl (fun h => h)) ?_ | refine TS.still rfl (Wt.none rfl) rfl rfl (Yv.loadAP 0 (m := [.bool false, .int .i64 (nth xs ws.length).tw]) rfl rfl rfl rfl rfl) ?_ | refine TS.still rfl (Wt.none rfl) rfl rfl (Yv.loadAP 0 (m := [.bool true, .int .i64 (nth xs ws.length).cr]) rfl rfl rfl rfl rfl) ?_ | refine TS.still rfl (Wt.none rfl) rfl rfl (Yv.loadAO 0 rfl rfl rfl rfl) ?_ | refine TS.still rfl (Wt.none rfl) rfl rfl (Yv.loadAO 1 rfl rfl rfl rfl) ?_ | refine TS.still rfl (Wt.none rfl) rfl rfl (Yv.loadAO 2 rfl rfl rfl rfl) ?_ | refine TS.still rfl (Wt.none rfl) rfl rfl (Yv.loadAO 3 rfl rfl rfl rfl) ?_ | refine TS.still rfl (Wt.none rfl) rfl rfl (Yv.loadAO 4 rfl rfl rfl rfl) ?_ | refine TS.still rfl (Wt.none rfl) rfl rfl (Yv.loadAO 5 rfl rfl rfl rfl) ?_ | refine TS.still rfl (Wt.none rfl) rfl rfl (Yv.loadAO 6 rfl rfl rfl rfl) ?_ | refine TS.still rfl (Wt.none rfl) rfl rfl (Yv.loadAO 7 rfl rfl rfl rfl) ?_ | refine TS.still rfl (Wt.none rfl) rfl rfl (Yv.loadAO 8 rfl rfl rfl rfl) ?_ | refine TS.still rfl (Wt.none rfl) rfl rfl (Yv.loadAO 9 rfl rfl rfl rfl) ?_ | refine TS.still rfl (Wt.none rfl) rfl rfl (Yv.loadAB rfl rfl (by assumption) rfl (fun h => h)) ?_
            first | refine TS.still rfl (Wt.none rfl) rfl rfl (Yv.loadAB rfl rfl hk rfl (fun h => h)) ?_ | refine TS.still rfl (Wt.none rfl) rfl rfl (Yv.loadAP 0 (m := [.bool false, .int .i64 (nth xs ws.length).tw]) rfl rfl rfl rfl rfl) ?_ | refine TS.still rfl (Wt.none rfl) rfl rfl (Yv.loadAP 0 (m := [.bool true, .int .i64 (nth xs ws.length).cr]) rfl rfl rfl rfl rfl) ?_ | refine TS.still rfl (Wt.none rfl) rfl rfl (Yv.loadO 0 rfl rfl rfl rfl) ?_ | refine TS.still rfl (Wt.none rfl) rfl rfl (Yv.loadO 1 rfl rfl rfl rfl) ?_ | refine TS.still rfl (Wt.none rfl) rfl rfl (Yv.loadO 2 rfl rfl rfl rfl) ?_ | refine TS.still rfl (Wt.none rfl) rfl rfl (Yv.loadO 3 rfl rfl rfl rfl) ?_ | refine TS.still rfl (Wt.none rfl) rfl rfl (Yv.loadO 4 rfl rfl rfl rfl) ?_ | refine TS.still rfl (Wt.none rfl) rfl rfl (Yv.loadO 5 rfl rfl rfl rfl) ?_ | refine TS.still rfl (Wt.none rfl) rfl rfl (Yv.loadO 6 rfl rfl rfl rfl) ?_ | refine TS.still rfl (Wt.none rfl) rfl rfl (Yv.loadO 7 rfl rfl rfl rfl) ?_ | refine TS.still rfl (Wt.none rfl) rfl rfl (Yv.loadO 8 rfl rfl rfl rfl) ?_ | refine TS.still rfl (Wt.none rfl) rfl rfl (Yv.loadO 9 rfl rfl rfl rfl) ?_ | refine TS.still rfl (Wt.none rfl) rfl rfl (Yv.loadB rfl rfl (by assumption) (fun h => h)) ?_ | refine TS.still rfl (Wt.none rfl) rfl rfl (Yv.loadS 0 rfl rfl rfl (by first | rfl | assumption)) ?_ | refine TS.still rfl (Wt.none rfl) rfl rfl (Yv.loadS 1 rfl rfl rfl (by first | rfl | assumption)) ?_ | refine TS.still rfl (Wt.none rfl) rfl rfl (Yv.loadS 2 rfl rfl rfl (by first | rfl | assumption)) ?_ | refine TS.still rfl (Wt.none rfl) rfl rfl (Yv.loadS 3 rfl rfl rfl (by first | rfl | assumption)) ?_ | refine TS.still rfl (Wt.none rfl) rfl rfl (Yv.loadS 4 rfl rfl rfl (by first | rfl | assumption)) ?_ | refine TS.still rfl (Wt.none rfl) rfl rfl (Yv.loadS 5 rfl rfl rfl (by first | rfl | assumption)) ?_ | refine TS.still rfl (Wt.none rfl) rfl rfl (Yv.loadS 6 rfl rfl rfl (by first | rfl | assumption)) ?_ | refine TS.still rfl (Wt.none rfl) rfl rfl (Yv.loadS 7 rfl rfl rfl (by first | rfl | assumption)) ?_ | refine TS.still rfl (Wt.none rfl) rfl rfl (Yv.loadS 8 rfl rfl rfl (by first | rfl | assumption)) ?_ | refine TS.still rfl (Wt.none rfl) rfl rfl (Yv.loadS 9 rfl rfl rfl (by first | rfl | assumption)) ?_
            first | refine TS.still rfl (Wt.none rfl) rfl rfl (Yv.loadAB rfl rfl hk rfl (fun h => h)) ?_ | refine TS.still rfl (Wt.none rfl) rfl rfl (Yv.loadAP 0 (m := [.bool false, .int .i64 (nth xs ws.length).tw]) rfl rfl rfl rfl rfl) ?_ | refine TS.still rfl (Wt.none rfl) rfl rfl (Yv.loadAP 0 (m := [.bool true, .int .i64 (nth xs ws.length).cr]) rfl rfl rfl rfl rfl) ?_ | refine TS.still rfl (Wt.none rfl) rfl rfl (Yv.loadAO 0 rfl rfl rfl rfl) ?_ | refine TS.still rfl (Wt.none rfl) rfl rfl (Yv.loadAO 1 rfl rfl rfl rfl) ?_ | refine TS.still rfl (Wt.none rfl) rfl rfl (Yv.loadAO 2 rfl rfl rfl rfl) ?_ | refine TS.still rfl (Wt.none rfl) rfl rfl (Yv.loadAO 3 rfl rfl rfl rfl) ?_ | refine TS.still rfl (Wt.none rfl) rfl rfl (Yv.loadAO 4 rfl rfl rfl rfl) ?_ | refine TS.still rfl (Wt.none rfl) rfl rfl (Yv.loadAO 5 rfl rfl rfl rfl) ?_ | refine TS.still rfl (Wt.none rfl) rfl rfl (Yv.loadAO 6 rfl rfl rfl rfl) ?_ | refine TS.still rfl (Wt.none rfl) rfl rfl (Yv.loadAO 7 rfl rfl rfl rfl) ?_ | refine TS.still rfl (Wt.none rfl) rfl rfl (Yv.loadAO 8 rfl rfl rfl rfl) ?_ | refine TS.still rfl (Wt.none rfl) rfl rfl (Yv.loadAO 9 rfl rfl rfl rfl) ?_ | refine TS.still rfl (Wt.none rfl) rfl rfl (Yv.loadAB rfl rfl (by assumption) rfl (fun h => h)) ?_
            refine TS.still rfl (Wt.none rfl) rfl rfl (Yv.pur rfl) ?_
            refine TS.eff ?_
            first | refine TSo.yv rfl (Wt.none rfl) rfl rfl (Yv.lookupV 5 rfl rfl rfl rfl hr0) (by repeat (first | exact List.Sublist.refl _ | exact List.nil_sublist _ | refine List.Sublist.cons_cons _ ?_ | refine List.Sublist.cons _ ?_)) ?_ | refine TSo.yv rfl (Wt.none rfl) rfl rfl (Yv.lookupV 5 rfl rfl rfl rfl hr1) (by repeat (first | exact List.Sublist.refl _ | exact List.nil_sublist _ | refine List.Sublist.cons_cons _ ?_ | refine List.Sublist.cons _ ?_)) ?_ | refine TSo.yv rfl (Wt.none rfl) rfl rfl (Yv.lookupV 6 rfl rfl rfl rfl hgc0) (by repeat (first | exact List.Sublist.refl _ | exact List.nil_sublist _ | refine List.Sublist.cons_cons _ ?_ | refine List.Sublist.cons _ ?_)) ?_ | refine TSo.yv rfl (Wt.none rfl) rfl rfl (Yv.lookupV 6 rfl rfl rfl rfl hgc1) (by repeat (first | exact List.Sublist.refl _ | exact List.nil_sublist _ | refine List.Sublist.cons_cons _ ?_ | refine List.Sublist.cons _ ?_)) ?_ | refine TSo.yv rfl (Wt.none rfl) rfl rfl (Yv.lookupV 7 rfl rfl rfl rfl hr2) (by repeat (first | exact List.Sublist.refl _ | exact List.nil_sublist _ | refine List.Sublist.cons_cons _ ?_ | refine List.Sublist.cons _ ?_)) ?_
            refine TS.eff ?_
            (refine TSo.ew rfl (Wt.none rfl) rfl rfl (Ew.callM 4 rfl rfl rfl rfl (fun w hw => by have := add_all rs1 (plOf (nth xs ws.length) b) (s + x) w (hw.get (i := 4) rfl) (by omega) (by rw [hcnt1]; exact cAt_le hle _ _ _ _ _ _ _); rw [show ((s + x : Nat) : Int) = (s : Int) + (x : Int) from by omega] at this; exact this)) ?_; rintro _ _ ⟨y74, hc74, rfl, rfl⟩; refine ⟨(by repeat (first | exact List.Sublist.refl _ | exact List.nil_sublist _ | refine List.Sublist.cons_cons _ ?_ | refine List.Sublist.cons _ ?_)), ?_⟩)
            refine TS.eff ?_
            (refine TSo.ew0 rfl (Wt.none rfl) rfl (Ew.mapUpdate 7 rfl rfl rfl rfl rfl) ?_; rintro _ _ ⟨rfl, rfl⟩; refine ⟨(by repeat (first | exact List.Sublist.refl _ | exact List.nil_sublist _ | refine List.Sublist.cons_cons _ ?_ | refine List.Sublist.cons _ ?_)), ?_⟩)
            refine TS.done ?_
            refine K.blk_normal ?_
            rw [show kvSet (kvR rs1) (plOf (nth xs ws.length) b) y74.1 = kvR (rSet rs1 ⟨plOf (nth xs ws.length) b, y74.1, y74.2.1, y74.2.2⟩) from (kvR_set rs1 ⟨plOf (nth xs ws.length) b, y74.1, y74.2.1, y74.2.2⟩).symm]
            exact K.round _ ⟨_, rfl, rSet rs1 ⟨plOf (nth xs ws.length) b, y74.1, y74.2.1, y74.2.2⟩, (hcnt1.set hc74).congr (fun q t => cAt_step _ _ _ _ _ _ (by omega) q t), rfl⟩ (by exact List.Sublist.refl _)
          · intro g hG
            obtain ⟨rs2, hcnt2, rfl⟩ := hG
            dsimp only [List.cons_append, List.nil_append]
            rw [List.length_range] at hcnt2
            refine K.blk_normal ?_
            refine K.blk_normal ?_
            refine K.seq ?_
            refine T.region ?_
            first | refine TL.yv (Wt.none rfl) rfl rfl (Yv.addI rfl rfl rfl (by omega)) ?_ | refine TL.yv (Wt.none rfl) rfl rfl (Yv.pur rfl) ?_
            refine TL.yv (Wt.none rfl) rfl rfl (Yv.pur rfl) ?_
            refine TL.nil ?_
            exact K.next (b + 1, rs2) ⟨by show b + 1 ≤ 2; omega, by show Cnt rs2 (cB (useN xs ws) (nth xs ws.length) s nw (b + 1)); rw [← cB_next _ _ _ _ _ (by omega)]; exact hcnt2⟩ (by show 2 - (b + 1) < 2 - b; omega) (by repeat (first | exact Sub.nil | refine Sub.cons rfl ?_)) (by repeat (first | exact List.Sublist.refl _ | exact List.nil_sublist _ | refine List.Sublist.cons_cons _ ?_ | refine List.Sublist.cons _ ?_))
          · intro c y hz; exact hz.elim
        · have p2 := h2
          try simp only [decide_eq_true_eq, decide_eq_false_iff_not, Int.not_lt, Int.not_le, Bool.not_eq_true', Bool.not_eq_false', Decidable.not_not, Bool.and_eq_true, Bool.or_eq_true, Bool.and_eq_false_iff, Bool.or_eq_false_iff] at p2
          refine T.exit ?_
          refine K.then_exit ?_
          refine K.then_exit ?_
          refine K.blk_exit_eq ?_
          refine K.seq ?_
          refine T.region ?_
          refine TL.yv (Wt.none rfl) rfl rfl (Yv.pur rfl) ?_
          refine TL.yv (Wt.none rfl) rfl rfl (Yv.fieldAddr rfl rfl) ?_
          first | refine TL.yv (Wt.none rfl) rfl rfl (Yv.loadAB rfl rfl hk rfl (fun h => h)) ?_ | refine TL.yv (Wt.none rfl) rfl rfl (Yv.loadAP 0 (m := [.bool false, .int .i64 (nth xs ws.length).tw]) rfl rfl rfl rfl rfl) ?_ | refine TL.yv (Wt.none rfl) rfl rfl (Yv.loadAP 0 (m := [.bool true, .int .i64 (nth xs ws.length).cr]) rfl rfl rfl rfl rfl) ?_ | refine TL.yv (Wt.none rfl) rfl rfl (Yv.loadO 0 rfl rfl rfl rfl) ?_ | refine TL.yv (Wt.none rfl) rfl rfl (Yv.loadO 1 rfl rfl rfl rfl) ?_ | refine TL.yv (Wt.none rfl) rfl rfl (Yv.loadO 2 rfl rfl rfl rfl) ?_ | refine TL.yv (Wt.none rfl) rfl rfl (Yv.loadO 3 rfl rfl rfl rfl) ?_ | refine TL.yv (Wt.none rfl) rfl rfl (Yv.loadO 4 rfl rfl rfl rfl) ?_ | refine TL.yv (Wt.none rfl) rfl rfl (Yv.loadO 5 rfl rfl rfl rfl) ?_ | refine TL.yv (Wt.none rfl) rfl rfl (Yv.loadO 6 rfl rfl rfl rfl) ?_ | refine TL.yv (Wt.none rfl) rfl rfl (Yv.loadO 7 rfl rfl rfl rfl) ?_ | refine TL.yv (Wt.none rfl) rfl rfl (Yv.loadB rfl rfl (by assumption) (fun h => h)) ?_ | refine TL.yv (Wt.none rfl) rfl rfl (Yv.loadS 0 rfl rfl rfl (by first | rfl | assumption)) ?_ | refine TL.yv (Wt.none rfl) rfl rfl (Yv.loadS 1 rfl rfl rfl (by first | rfl | assumption)) ?_ | refine TL.yv (Wt.none rfl) rfl rfl (Yv.loadS 2 rfl rfl rfl (by first | rfl | assumption)) ?_ | refine TL.yv (Wt.none rfl) rfl rfl (Yv.loadS 3 rfl rfl rfl (by first | rfl | assumption)) ?_ | refine TL.yv (Wt.none rfl) rfl rfl (Yv.loadS 4 rfl rfl rfl (by first | rfl | assumption)) ?_ | refine TL.yv (Wt.none rfl) rfl rfl (Yv.loadS 5 rfl rfl rfl (by first | rfl | assumption)) ?_ | refine TL.yv (Wt.none rfl) rfl rfl (Yv.loadS 6 rfl rfl rfl (by first | rfl | assumption)) ?_ | refine TL.yv (Wt.none rfl) rfl rfl (Yv.loadS 7 rfl rfl rfl (by first | rfl | assumption)) ?_
          refine TL.yv (Wt.none rfl) rfl rfl (Yv.pur rfl) ?_
          refine TL.yv (Wt.none rfl) rfl rfl (Yv.pur rfl) ?_
          refine TL.yv (Wt.none rfl) rfl rfl (Yv.fieldAddr rfl rfl) ?_
          first | refine TL.yv (Wt.none rfl) rfl rfl (Yv.loadAB rfl rfl hk rfl (fun h => h)) ?_ | refine TL.yv (Wt.none rfl) rfl rfl (Yv.loadAP 0 (m := [.bool false, .int .i64 (nth xs ws.length).tw]) rfl rfl rfl rfl rfl) ?_ | refine TL.yv (Wt.none rfl) rfl rfl (Yv.loadAP 0 (m := [.bool true, .int .i64 (nth xs ws.length).cr]) rfl rfl rfl rfl rfl) ?_ | refine TL.yv (Wt.none rfl) rfl rfl (Yv.loadO 0 rfl rfl rfl rfl) ?_ | refine TL.yv (Wt.none rfl) rfl rfl (Yv.loadO 1 rfl rfl rfl rfl) ?_ | refine TL.yv (Wt.none rfl) rfl rfl (Yv.loadO 2 rfl rfl rfl rfl) ?_ | refine TL.yv (Wt.none rfl) rfl rfl (Yv.loadO 3 rfl rfl rfl rfl) ?_ | refine TL.yv (Wt.none rfl) rfl rfl (Yv.loadO 4 rfl rfl rfl rfl) ?_ | refine TL.yv (Wt.none rfl) rfl rfl (Yv.loadO 5 rfl rfl rfl rfl) ?_ | refine TL.yv (Wt.none rfl) rfl rfl (Yv.loadO 6 rfl rfl rfl rfl) ?_ | refine TL.yv (Wt.none rfl) rfl rfl (Yv.loadO 7 rfl rfl rfl rfl) ?_ | refine TL.yv (Wt.none rfl) rfl rfl (Yv.loadB rfl rfl (by assumption) (fun h => h)) ?_ | refine TL.yv (Wt.none rfl) rfl rfl (Yv.loadS 0 rfl rfl rfl (by first | rfl | assumption)) ?_ | refine TL.yv (Wt.none rfl) rfl rfl (Yv.loadS 1 rfl rfl rfl (by first | rfl | assumption)) ?_ | refine TL.yv (Wt.none rfl) rfl rfl (Yv.loadS 2 rfl rfl rfl (by first | rfl | assumption)) ?_ | refine TL.yv (Wt.none rfl) rfl rfl (Yv.loadS 3 rfl rfl rfl (by first | rfl | assumption)) ?_ | refine TL.yv (Wt.none rfl) rfl rfl (Yv.loadS 4 rfl rfl rfl (by first | rfl | assumption)) ?_ | refine TL.yv (Wt.none rfl) rfl rfl (Yv.loadS 5 rfl rfl rfl (by first | rfl | assumption)) ?_ | refine TL.yv (Wt.none rfl) rfl rfl (Yv.loadS 6 rfl rfl rfl (by first | rfl | assumption)) ?_ | refine TL.yv (Wt.none rfl) rfl rfl (Yv.loadS 7 rfl rfl rfl (by first | rfl | assumption)) ?_
          first | refine TL.yv (Wt.none rfl) rfl rfl (Yv.addI rfl rfl rfl (by omega)) ?_ | refine TL.yv (Wt.none rfl) rfl rfl (Yv.pur rfl) ?_
          first | refine TL.yv (Wt.none rfl) rfl rfl (Yv.build rfl rfl) ?_ | refine TL.yv (Wt.none rfl) rfl rfl (Yv.buildAr rfl rfl) ?_
          (refine TL.ew (Wt.none rfl) rfl rfl (Ew.buildSlice rfl rfl rfl (by decide)) ?_; rintro _ _ ⟨g85, rfl, rfl⟩)
          first | (refine TL.ew (Wt.none rfl) rfl rfl (Ew.append 0 1 rfl rfl rfl rfl rfl rfl (by omega) (by omega)) ?_; rintro v86 _ ⟨hv86, rfl⟩) | (refine TL.ew (Wt.none rfl) rfl rfl (Ew.append 0 2 rfl rfl rfl rfl rfl rfl (by omega) (by omega)) ?_; rintro v86 _ ⟨hv86, rfl⟩) | (refine TL.ew (Wt.none rfl) rfl rfl (Ew.append 0 3 rfl rfl rfl rfl rfl rfl (by omega) (by omega)) ?_; rintro v86 _ ⟨hv86, rfl⟩) | (refine TL.ew (Wt.none rfl) rfl rfl (Ew.append 0 4 rfl rfl rfl rfl rfl rfl (by omega) (by omega)) ?_; rintro v86 _ ⟨hv86, rfl⟩) | (refine TL.ew (Wt.none rfl) rfl rfl (Ew.append 0 5 rfl rfl rfl rfl rfl rfl (by omega) (by omega)) ?_; rintro v86 _ ⟨hv86, rfl⟩) | (refine TL.ew (Wt.none rfl) rfl rfl (Ew.append 0 6 rfl rfl rfl rfl rfl rfl (by omega) (by omega)) ?_; rintro v86 _ ⟨hv86, rfl⟩) | (refine TL.ew (Wt.none rfl) rfl rfl (Ew.append 0 7 rfl rfl rfl rfl rfl rfl (by omega) (by omega)) ?_; rintro v86 _ ⟨hv86, rfl⟩) | (refine TL.ew (Wt.none rfl) rfl rfl (Ew.append 1 0 rfl rfl rfl rfl rfl rfl (by omega) (by omega)) ?_; rintro v86 _ ⟨hv86, rfl⟩) | (refine TL.ew (Wt.none rfl) rfl rfl (Ew.append 1 2 rfl rfl rfl rfl rfl rfl (by omega) (by omega)) ?_; rintro v86 _ ⟨hv86, rfl⟩) | (refine TL.ew (Wt.none rfl) rfl rfl (Ew.append 1 3 rfl rfl rfl rfl rfl rfl (by omega) (by omega)) ?_; rintro v86 _ ⟨hv86, rfl⟩) | (refine TL.ew (Wt.none rfl) rfl rfl (Ew.append 1 4 rfl rfl rfl rfl rfl rfl (by omega) (by omega)) ?_; rintro v86 _ ⟨hv86, rfl⟩) | (refine TL.ew (Wt.none rfl) rfl rfl (Ew.append 1 5 rfl rfl rfl rfl rfl rfl (by omega) (by omega)) ?_; rintro v86 _ ⟨hv86, rfl⟩) | (refine TL.ew (Wt.none rfl) rfl rfl (Ew.append 1 6 rfl rfl rfl rfl rfl rfl (by omega) (by omega)) ?_; rintro v86 _ ⟨hv86, rfl⟩) | (refine TL.ew (Wt.none rfl) rfl rfl (Ew.append 1 7 rfl rfl rfl rfl rfl rfl (by omega) (by omega)) ?_; rintro v86 _ ⟨hv86, rfl⟩) | (refine TL.ew (Wt.none rfl) rfl rfl (Ew.append 2 0 rfl rfl rfl rfl rfl rfl (by omega) (by omega)) ?_; rintro v86 _ ⟨hv86, rfl⟩) | (refine TL.ew (Wt.none rfl) rfl rfl (Ew.append 2 1 rfl rfl rfl rfl rfl rfl (by omega) (by omega)) ?_; rintro v86 _ ⟨hv86, rfl⟩) | (refine TL.ew (Wt.none rfl) rfl rfl (Ew.append 2 3 rfl rfl rfl rfl rfl rfl (by omega) (by omega)) ?_; rintro v86 _ ⟨hv86, rfl⟩) | (refine TL.ew (Wt.none rfl) rfl rfl (Ew.append 2 4 rfl rfl rfl rfl rfl rfl (by omega) (by omega)) ?_; rintro v86 _ ⟨hv86, rfl⟩) | (refine TL.ew (Wt.none rfl) rfl rfl (Ew.append 2 5 rfl rfl rfl rfl rfl rfl (by omega) (by omega)) ?_; rintro v86 _ ⟨hv86, rfl⟩) | (refine TL.ew (Wt.none rfl) rfl rfl (Ew.append 2 6 rfl rfl rfl rfl rfl rfl (by omega) (by omega)) ?_; rintro v86 _ ⟨hv86, rfl⟩) | (refine TL.ew (Wt.none rfl) rfl rfl (Ew.append 2 7 rfl rfl rfl rfl rfl rfl (by omega) (by omega)) ?_; rintro v86 _ ⟨hv86, rfl⟩) | (refine TL.ew (Wt.none rfl) rfl rfl (Ew.append 3 0 rfl rfl rfl rfl rfl rfl (by omega) (by omega)) ?_; rintro v86 _ ⟨hv86, rfl⟩) | (refine TL.ew (Wt.none rfl) rfl rfl (Ew.append 3 1 rfl rfl rfl rfl rfl rfl (by omega) (by omega)) ?_; rintro v86 _ ⟨hv86, rfl⟩) | (refine TL.ew (Wt.none rfl) rfl rfl (Ew.append 3 2 rfl rfl rfl rfl rfl rfl (by omega) (by omega)) ?_; rintro v86 _ ⟨hv86, rfl⟩) | (refine TL.ew (Wt.none rfl) rfl rfl (Ew.append 3 4 rfl rfl rfl rfl rfl rfl (by omega) (by omega)) ?_; rintro v86 _ ⟨hv86, rfl⟩) | (refine TL.ew (Wt.none rfl) rfl rfl (Ew.append 3 5 rfl rfl rfl rfl rfl rfl (by omega) (by omega)) ?_; rintro v86 _ ⟨hv86, rfl⟩) | (refine TL.ew (Wt.none rfl) rfl rfl (Ew.append 3 6 rfl rfl rfl rfl rfl rfl (by omega) (by omega)) ?_; rintro v86 _ ⟨hv86, rfl⟩) | (refine TL.ew (Wt.none rfl) rfl rfl (Ew.append 3 7 rfl rfl rfl rfl rfl rfl (by omega) (by omega)) ?_; rintro v86 _ ⟨hv86, rfl⟩) | (refine TL.ew (Wt.none rfl) rfl rfl (Ew.append 4 0 rfl rfl rfl rfl rfl rfl (by omega) (by omega)) ?_; rintro v86 _ ⟨hv86, rfl⟩) | (refine TL.ew (Wt.none rfl) rfl rfl (Ew.append 4 1 rfl rfl rfl rfl rfl rfl (by omega) (by omega)) ?_; rintro v86 _ ⟨hv86, rfl⟩) | (refine TL.ew (Wt.none rfl) rfl rfl (Ew.append 4 2 rfl rfl rfl rfl rfl rfl (by omega) (by omega)) ?_; rintro v86 _ ⟨hv86, rfl⟩) | (refine TL.ew (Wt.none rfl) rfl rfl (Ew.append 4 3 rfl rfl rfl rfl rfl rfl (by omega) (by omega)) ?_; rintro v86 _ ⟨hv86, rfl⟩) | (refine TL.ew (Wt.none rfl) rfl rfl (Ew.append 4 5 rfl rfl rfl rfl rfl rfl (by omega) (by omega)) ?_; rintro v86 _ ⟨hv86, rfl⟩) | (refine TL.ew (Wt.none rfl) rfl rfl (Ew.append 4 6 rfl rfl rfl rfl rfl rfl (by omega) (by omega)) ?_; rintro v86 _ ⟨hv86, rfl⟩) | (refine TL.ew (Wt.none rfl) rfl rfl (Ew.append 4 7 rfl rfl rfl rfl rfl rfl (by omega) (by omega)) ?_; rintro v86 _ ⟨hv86, rfl⟩) | (refine TL.ew (Wt.none rfl) rfl rfl (Ew.append 5 0 rfl rfl rfl rfl rfl rfl (by omega) (by omega)) ?_; rintro v86 _ ⟨hv86, rfl⟩) | (refine TL.ew (Wt.none rfl) rfl rfl (Ew.append 5 1 rfl rfl rfl rfl rfl rfl (by omega) (by omega)) ?_; rintro v86 _ ⟨hv86, rfl⟩) | (refine TL.ew (Wt.none rfl) rfl rfl (Ew.append 5 2 rfl rfl rfl rfl rfl rfl (by omega) (by omega)) ?_; rintro v86 _ ⟨hv86, rfl⟩) | (refine TL.ew (Wt.none rfl) rfl rfl (Ew.append 5 3 rfl rfl rfl rfl rfl rfl (by omega) (by omega)) ?_; rintro v86 _ ⟨hv86, rfl⟩) | (refine TL.ew (Wt.none rfl) rfl rfl (Ew.append 5 4 rfl rfl rfl rfl rfl rfl (by omega) (by omega)) ?_; rintro v86 _ ⟨hv86, rfl⟩) | (refine TL.ew (Wt.none rfl) rfl rfl (Ew.append 5 6 rfl rfl rfl rfl rfl rfl (by omega) (by omega)) ?_; rintro v86 _ ⟨hv86, rfl⟩) | (refine TL.ew (Wt.none rfl) rfl rfl (Ew.append 5 7 rfl rfl rfl rfl rfl rfl (by omega) (by omega)) ?_; rintro v86 _ ⟨hv86, rfl⟩) | (refine TL.ew (Wt.none rfl) rfl rfl (Ew.append 6 0 rfl rfl rfl rfl rfl rfl (by omega) (by omega)) ?_; rintro v86 _ ⟨hv86, rfl⟩) | (refine TL.ew (Wt.none rfl) rfl rfl (Ew.append 6 1 rfl rfl rfl rfl rfl rfl (by omega) (by omega)) ?_; rintro v86 _ ⟨hv86, rfl⟩) | (refine TL.ew (Wt.none rfl) rfl rfl (Ew.append 6 2 rfl rfl rfl rfl rfl rfl (by omega) (by omega)) ?_; rintro v86 _ ⟨hv86, rfl⟩) | (refine TL.ew (Wt.none rfl) rfl rfl (Ew.append 6 3 rfl rfl rfl rfl rfl rfl (by omega) (by omega)) ?_; rintro v86 _ ⟨hv86, rfl⟩) | (refine TL.ew (Wt.none rfl) rfl rfl (Ew.append 6 4 rfl rfl rfl rfl rfl rfl (by omega) (by omega)) ?_; rintro v86 _ ⟨hv86, rfl⟩) | (refine TL.ew (Wt.none rfl) rfl rfl (Ew.append 6 5 rfl rfl rfl rfl rfl rfl (by omega) (by omega)) ?_; rintro v86 _ ⟨hv86, rfl⟩) | (refine TL.ew (Wt.none rfl) rfl rfl (Ew.append 6 7 rfl rfl rfl rfl rfl rfl (by omega) (by omega)) ?_; rintro v86 _ ⟨hv86, rfl⟩) | (refine TL.ew (Wt.none rfl) rfl rfl (Ew.append 7 0 rfl rfl rfl rfl rfl rfl (by omega) (by omega)) ?_; rintro v86 _ ⟨hv86, rfl⟩) | (refine TL.ew (Wt.none rfl) rfl rfl (Ew.append 7 1 rfl rfl rfl rfl rfl rfl (by omega) (by omega)) ?_; rintro v86 _ ⟨hv86, rfl⟩) | (refine TL.ew (Wt.none rfl) rfl rfl (Ew.append 7 2 rfl rfl rfl rfl rfl rfl (by omega) (by omega)) ?_; rintro v86 _ ⟨hv86, rfl⟩) | (refine TL.ew (Wt.none rfl) rfl rfl (Ew.append 7 3 rfl rfl rfl rfl rfl rfl (by omega) (by omega)) ?_; rintro v86 _ ⟨hv86, rfl⟩) | (refine TL.ew (Wt.none rfl) rfl rfl (Ew.append 7 4 rfl rfl rfl rfl rfl rfl (by omega) (by omega)) ?_; rintro v86 _ ⟨hv86, rfl⟩) | (refine TL.ew (Wt.none rfl) rfl rfl (Ew.append 7 5 rfl rfl rfl rfl rfl rfl (by omega) (by omega)) ?_; rintro v86 _ ⟨hv86, rfl⟩) | (refine TL.ew (Wt.none rfl) rfl rfl (Ew.append 7 6 rfl rfl rfl rfl rfl rfl (by omega) (by omega)) ?_; rintro v86 _ ⟨hv86, rfl⟩)
          refine TL.yv (Wt.none rfl) rfl rfl (Yv.pur rfl) ?_
          refine TL.nil ?_
          refine K.blk_normal ?_
          refine K.seq ?_
          refine T.region ?_
          first | refine TL.yv (Wt.none rfl) rfl rfl (Yv.addI rfl rfl rfl (by omega)) ?_ | refine TL.yv (Wt.none rfl) rfl rfl (Yv.pur rfl) ?_
          refine TL.yv (Wt.none rfl) rfl rfl (Yv.pur rfl) ?_
          refine TL.nil ?_
          rw [show ([Value.int .i64 (nth xs ws.length).st, .int .i64 (s : Int), .int .i64 ((s : Int) + (nth xs ws.length).wk)] : List Value) = (Wk.mk (nth xs ws.length).st (s : Int) ((s : Int) + (nth xs ws.length).wk)).cells from rfl, wcells_snoc]
          exact K.next (rs3, v86, ws ++ [⟨(nth xs ws.length).st, (s : Int), (s : Int) + (nth xs ws.length).wk⟩]) ⟨by simp; omega, hwi.add (by have e := hfirst; rw [show nw = (nth xs ws.length).wk.toNat from by omega] at e; exact e) hwk1 (by omega), hcnt3.congr (fun q t => by have e := useN_add xs ws s (by omega) q t; rw [show (nth xs ws.length).wk.toNat = nw from by omega] at e; rw [← e, show b = 2 from by omega]; rfl), useN_le64 hle (by have e := hfirst.free; rw [show nw = (nth xs ws.length).wk.toNat from by omega] at e; exact e) (by omega) (by omega) (by omega)⟩ (by simp; omega) (by repeat (first | exact Sub.nil | refine Sub.cons rfl ?_ | (refine Sub.consI rfl (by simp) ?_))) (by simp only [List.length_append, List.length_cons, List.length_nil, Nat.zero_add]; exact (by repeat (first | exact List.Sublist.refl _ | exact List.nil_sublist _ | refine List.Sublist.cons_cons _ ?_ | refine List.Sublist.cons _ ?_)))
    · have p1 := h1
      try simp only [decide_eq_true_eq, decide_eq_false_iff_not, Int.not_lt, Int.not_le, Bool.not_eq_true', Bool.not_eq_false', Decidable.not_not, Bool.and_eq_true, Bool.or_eq_true, Bool.and_eq_false_iff, Bool.or_eq_false_iff] at p1
      refine T.exit ?_
      refine K.then_exit ?_
      refine K.then_exit ?_
      refine K.blk_exit_eq ?_
      refine K.seq ?_
      refine T.seq ?_
      refine T.region ?_
      refine TL.yv (Wt.none rfl) rfl rfl (Yv.pur rfl) ?_
      refine TL.yv (Wt.none rfl) rfl rfl (Yv.pur rfl) ?_
      refine TL.yv (Wt.none rfl) rfl rfl (Yv.pur rfl) ?_
      refine TL.nil ?_
      refine K.seq ?_
      refine T.ret ?_
      exact K.ret2 rfl rfl rfl (fun w' hw => ⟨(vw, ws), ⟨hwi, by show ws.length = xs.length; omega⟩, rfl, hw.sub (by repeat (first | exact List.Sublist.refl _ | exact List.nil_sublist _ | refine List.Sublist.cons_cons _ ?_ | refine List.Sublist.cons _ ?_))⟩)
end Go.Proofs.Ytphpmjnpjnmdmaa
