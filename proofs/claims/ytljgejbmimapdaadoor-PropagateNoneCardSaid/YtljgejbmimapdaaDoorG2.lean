/- The rule of loads. -/
import Derived.Test.YtljgejbmimapdaaDoorG
set_option maxRecDepth 100000
set_option maxHeartbeats 4000000
set_option linter.unusedSimpArgs false
set_option linter.unusedVariables false
set_option linter.unusedSectionVars false
namespace Go.Proofs.YtljgejbmimapdaaDoor
open Go.RowKit

theorem sum_take {L : Ws} {i d : Nat} {l : List Ld} {k : Nat} (h : k < l.length) : sumOf L i d (l.take (k + 1)) = sumStep L i d (sumOf L i d (l.take k)) (nth l k) := foldl_take _ _ h

theorem loadsOf_ret (sp : Nat) (Y : Tb) (L : Ws) (c : Bool) (i : Nat) (z : Int) (hz : z = (i : Int)) (hi : i < Y.n) (w : World) (h : StateAt w sp Y L c) (hok : Y.Ok) : Calls Tryd.prog 81 #[.pointer (some ⟨sp, 0, none⟩), .int .i64 z] w fun e w' => e = .returned (U (loadsF Y L i)) ∧ Below w.heap.size w w' := by
  subst hz
  obtain ⟨tp, hsp0, hT⟩ := h.tb
  obtain ⟨vL, hsp1, hL⟩ := h.left
  obtain ⟨AL, capL, rfl, hLs⟩ := hL.op
  have hLn := h.len
  obtain ⟨vO, hO0, hO⟩ := hT.out.at'
  obtain ⟨AO, capO, rfl, hOs⟩ := hO.op
  have hOn := hT.out.len
  obtain ⟨gO, oO, rfl, hOc⟩ := hOs (by omega)
  rw [hOn] at hO0
  have hOi := hOc i (by rw [hOn]; exact hi)
  obtain ⟨BO, cpO, hvO, hslO⟩ := (hT.out.each i hi).op
  simp only [hvO] at hOi
  obtain ⟨vI, hI0, hI⟩ := hT.inn.at'
  obtain ⟨AI, capI, rfl, hIs⟩ := hI.op
  have hIn := hT.inn.len
  obtain ⟨gI, oI, rfl, hIc⟩ := hIs (by omega)
  rw [hIn] at hI0
  obtain ⟨vC, hC0, hC⟩ := hT.cs.at'
  obtain ⟨AC, capC, rfl, hCs⟩ := hC.op
  have hCn := hT.cs.len
  obtain ⟨gC, oC, rfl, hCc⟩ := hCs (by omega)
  rw [hCn] at hC0
  obtain ⟨hlen, hrng⟩ := hok.out i hi
  have hn512 := hok.n
  refine calls_T (M := fun _ => False) (hs := []) Tryd.func81 rfl rfl rfl (Hp.refl _ _) ?_
  refine T.seq ?_
  refine T.region ?_
  refine TL.yv (Wt.none rfl) rfl rfl (Yv.pur rfl) ?_
  refine TL.nil ?_
  refine K.seq ?_
  refine T.seq ?_
  refine T.region ?_
  refine TL.yv (Wt.none rfl) rfl rfl (Yv.pur rfl) ?_
  refine TL.nil ?_
  refine K.seq ?_
  refine T.seq ?_
  refine T.seq ?_
  refine T.region ?_
  refine TL.yv (Wt.none rfl) rfl rfl (Yv.pur rfl) ?_
  refine TL.yv (Wt.none rfl) rfl rfl (Yv.pur rfl) ?_
  refine TL.yv (Wt.none rfl) rfl rfl (Yv.fieldAddr rfl rfl) ?_
  refine TL.yv (Wt.none rfl) rfl rfl (Yv.loadB rfl rfl hsp0 (fun h => h)) ?_
  refine TL.yv (Wt.none rfl) rfl rfl (Yv.pur rfl) ?_
  refine TL.yv (Wt.none rfl) rfl rfl (Yv.fieldAddr rfl rfl) ?_
  refine TL.yv (Wt.none rfl) rfl rfl (Yv.loadB rfl rfl hO0 (fun h => h)) ?_
  refine TL.yv (Wt.none rfl) rfl rfl (Yv.pur rfl) ?_
  refine TL.yv (Wt.none rfl) rfl rfl (Yv.indexSl rfl rfl rfl rfl (by omega)) ?_
  refine TL.yv (Wt.none rfl) rfl rfl (Yv.loadC (j := 0) rfl rfl hOi rfl rfl (fun h => h)) ?_
  refine TL.yv (Wt.none rfl) rfl rfl (Yv.lenSl rfl rfl) ?_
  refine TL.yv (Wt.none rfl) rfl rfl (Yv.pur rfl) ?_
  refine TL.nil ?_
  refine K.seq ?_
  refine T.block ?_
  refine T.loop (ι := Nat) (fun k => [(0, .pointer (some ⟨sp, 0, none⟩)), (1, .int .i64 (i : Int)), (23, .slice BO (Y.out i).length cpO), (24, .int .i64 ((Y.out i).length : Int)), (25, .int .i64 (k : Int)), (5, U (((Y.out i).take k).foldl (loadStep Y L i) 0#64))]) (fun k => []) (fun k => k ≤ (Y.out i).length) (fun k => (Y.out i).length - k) 0 ?_ ?_ ?_ ?_
  · omega
  · exact (by repeat (first | exact Sub.nil | refine Sub.cons rfl ?_))
  · exact (by repeat (first | exact List.Sublist.refl _ | exact List.nil_sublist _ | refine List.Sublist.cons_cons _ ?_ | refine List.Sublist.cons _ ?_))
  · intro k hphi
    refine T.seq ?_
    refine T.region ?_
    refine TL.yv (Wt.none rfl) rfl rfl (Yv.pur rfl) ?_
    refine TL.nil ?_
    refine K.seq ?_
    refine T.seq ?_
    refine T.cond rfl (fun h1 => ?_) (fun h1 => ?_)
    · have p1 := h1
      try simp only [decide_eq_true_eq, decide_eq_false_iff_not, Int.not_lt, Int.not_le, Bool.not_eq_true', Bool.not_eq_false', Decidable.not_not, Bool.and_eq_true, Bool.or_eq_true, Bool.and_eq_false_iff, Bool.or_eq_false_iff] at p1
      obtain ⟨g, off, rfl, hc⟩ := hslO (by omega)
      have hk := hc k (by omega)
      simp only [Ld.cells] at hk
      have hr := hrng _ (nth_mem (xs := Y.out i) (k := k) (by omega))
      have oa := only_lt L (nth (Y.out i) k).to.toNat
      have htn : (nth (Y.out i) k).to.toNat < Y.n := by omega
      obtain ⟨hlenI, hrngI⟩ := hok.inn _ htn
      obtain ⟨hlenC, hrngC⟩ := hok.cs _ htn
      have hwt : ∀ x ∈ Y.inn (nth (Y.out i) k).to.toNat, 1 ≤ x.wt ∧ x.wt ≤ 1073741824 := fun x hx => by have := hrngI x hx; omega
      have hIi := hIc (nth (Y.out i) k).to.toNat (by rw [hIn]; exact htn)
      obtain ⟨BI, cpI, hvI, hslI⟩ := (hT.inn.each (nth (Y.out i) k).to.toNat htn).op
      simp only [hvI] at hIi
      have hCi := hCc (nth (Y.out i) k).to.toNat (by rw [hCn]; exact htn)
      obtain ⟨BC, cpC, hvC, hslC⟩ := (hT.cs.each (nth (Y.out i) k).to.toNat htn).op
      simp only [hvC] at hCi
      refine T.skip ?_
      refine K.seq ?_
      refine T.cut (gs := [(0, .pointer (some ⟨sp, 0, none⟩)), (1, .int .i64 (i : Int)), (23, .slice (some ⟨g, off, none⟩) (Y.out i).length cpO), (24, .int .i64 ((Y.out i).length : Int)), (25, .int .i64 (k : Int)), (5, U (((Y.out i).take (k + 1)).foldl (loadStep Y L i) 0#64))]) (hs' := []) ?_ ?_
      · skip
        refine T.block ?_
        refine T.seq ?_
        refine T.region ?_
        refine TL.yv (Wt.none rfl) rfl rfl (Yv.indexSl rfl rfl rfl rfl (by omega)) ?_
        refine TL.yv (Wt.none rfl) rfl rfl (Yv.loadAB rfl rfl hk rfl (fun h => h)) ?_
        (refine TL.ew (Wt.none rfl) rfl rfl (Ew.alloc rfl) ?_; rintro _ _ ⟨g7, rfl, rfl⟩)
        (refine TL.ew0 (Wt.none rfl) rfl (Ew.storeAll 0 rfl rfl rfl rfl rfl rfl) ?_; rintro _ _ ⟨rfl, rfl⟩)
        refine TL.nil ?_
        refine K.seq ?_
        refine T.seq ?_
        refine T.region ?_
        refine TL.yv (Wt.none rfl) rfl rfl (Yv.pur rfl) ?_
        refine TL.yv (Wt.none rfl) rfl rfl (Yv.fieldAddr rfl rfl) ?_
        refine TL.yv (Wt.none rfl) rfl rfl (Yv.loadO 0 rfl rfl rfl rfl) ?_
        (refine TL.ew (Wt.none rfl) rfl rfl (Ew.callD rfl rfl rfl (fun w hw => only_ret sp Y L c ((nth (Y.out i) k).to.toNat) _ (by omega) (by omega) w (h.kept hw))) ?_; rintro _ _ ⟨rfl, rfl⟩)
        refine TL.yv (Wt.none rfl) rfl rfl (Yv.pur rfl) ?_
        refine TL.nil ?_
        refine K.seq ?_
        refine T.seq ?_
        refine T.seq ?_
        refine T.region ?_
        refine TL.yv (Wt.none rfl) rfl rfl (Yv.pur rfl) ?_
        refine TL.yv (Wt.none rfl) rfl rfl (Yv.fieldAddr rfl rfl) ?_
        refine TL.yv (Wt.none rfl) rfl rfl (Yv.loadO 0 rfl rfl rfl rfl) ?_
        refine TL.yv (Wt.none rfl) rfl rfl (Yv.pur rfl) ?_
        refine TL.yv (Wt.none rfl) rfl rfl (Yv.pur rfl) ?_
        refine TL.gsplit rfl rfl rfl (fun h2 => ?_) (fun h2 => ?_)
        · have p2 := h2
          try simp only [decide_eq_true_eq, decide_eq_false_iff_not, Int.not_lt, Int.not_le, Bool.not_eq_true', Bool.not_eq_false', Decidable.not_not, Bool.and_eq_true, Bool.or_eq_true, Bool.and_eq_false_iff, Bool.or_eq_false_iff] at p2
          refine TL.off (Wt.not rfl rfl rfl h2) rfl rfl ?_
          refine TL.off (Wt.not rfl rfl rfl h2) rfl rfl ?_
          refine TL.off (Wt.not rfl rfl rfl h2) rfl rfl ?_
          refine TL.off (Wt.not rfl rfl rfl h2) rfl rfl ?_
          refine TL.yv (Wt.none rfl) rfl rfl (Yv.pickT rfl rfl h2 rfl) ?_
          refine TL.yv (Wt.none rfl) rfl rfl (Yv.pur rfl) ?_
          refine TL.off (Wt.not rfl rfl rfl rfl) rfl rfl ?_
          refine TL.off (Wt.not rfl rfl rfl rfl) rfl rfl ?_
          refine TL.off (Wt.not rfl rfl rfl rfl) rfl rfl ?_
          refine TL.off (Wt.not rfl rfl rfl rfl) rfl rfl ?_
          refine TL.off (Wt.not rfl rfl rfl rfl) rfl rfl ?_
          refine TL.yv (Wt.none rfl) rfl rfl (Yv.pickT rfl rfl rfl rfl) ?_
          refine TL.nil ?_
          refine K.seq ?_
          refine T.condT rfl rfl ?_
          refine T.exit ?_
          refine K.then_exit ?_
          refine K.blk_exit_eq ?_
          (refine K.at ?_ (by repeat (first | exact List.Sublist.refl _ | exact List.nil_sublist _ | refine List.Sublist.cons_cons _ ?_ | refine List.Sublist.cons _ ?_)); rw [foldl_take _ _ (by omega), loadStep, if_pos (.inl (by omega))]; exact (by repeat (first | exact Sub.nil | refine Sub.cons rfl ?_)))
        · have p2 := h2
          try simp only [decide_eq_true_eq, decide_eq_false_iff_not, Int.not_lt, Int.not_le, Bool.not_eq_true', Bool.not_eq_false', Decidable.not_not, Bool.and_eq_true, Bool.or_eq_true, Bool.and_eq_false_iff, Bool.or_eq_false_iff] at p2
          refine TL.yv (Wt.some rfl rfl rfl h2) rfl rfl (Yv.pur rfl) ?_
          refine TL.yv (Wt.some rfl rfl rfl h2) rfl rfl (Yv.fieldAddr rfl rfl) ?_
          refine TL.yv (Wt.some rfl rfl rfl h2) rfl rfl (Yv.loadO 0 rfl rfl rfl rfl) ?_
          refine TL.yv (Wt.some rfl rfl rfl h2) rfl rfl (Yv.pur rfl) ?_
          refine TL.yv (Wt.none rfl) rfl rfl (Yv.pickF rfl rfl h2 rfl) ?_
          refine TL.yv (Wt.none rfl) rfl rfl (Yv.pur rfl) ?_
          refine TL.gsplit rfl rfl rfl (fun h3 => ?_) (fun h3 => ?_)
          · have p3 := h3
            try simp only [decide_eq_true_eq, decide_eq_false_iff_not, Int.not_lt, Int.not_le, Bool.not_eq_true', Bool.not_eq_false', Decidable.not_not, Bool.and_eq_true, Bool.or_eq_true, Bool.and_eq_false_iff, Bool.or_eq_false_iff] at p3
            refine TL.off (Wt.not rfl rfl rfl h3) rfl rfl ?_
            refine TL.off (Wt.not rfl rfl rfl h3) rfl rfl ?_
            refine TL.off (Wt.not rfl rfl rfl h3) rfl rfl ?_
            refine TL.off (Wt.not rfl rfl rfl h3) rfl rfl ?_
            refine TL.off (Wt.not rfl rfl rfl h3) rfl rfl ?_
            refine TL.yv (Wt.none rfl) rfl rfl (Yv.pickT rfl rfl h3 rfl) ?_
            refine TL.nil ?_
            refine K.seq ?_
            refine T.condT rfl rfl ?_
            refine T.exit ?_
            refine K.then_exit ?_
            refine K.blk_exit_eq ?_
            (refine K.at ?_ (by repeat (first | exact List.Sublist.refl _ | exact List.nil_sublist _ | refine List.Sublist.cons_cons _ ?_ | refine List.Sublist.cons _ ?_)); rw [foldl_take _ _ (by omega), loadStep, if_pos (.inl (by omega))]; exact (by repeat (first | exact Sub.nil | refine Sub.cons rfl ?_)))
          · have p3 := h3
            try simp only [decide_eq_true_eq, decide_eq_false_iff_not, Int.not_lt, Int.not_le, Bool.not_eq_true', Bool.not_eq_false', Decidable.not_not, Bool.and_eq_true, Bool.or_eq_true, Bool.and_eq_false_iff, Bool.or_eq_false_iff] at p3
            refine TL.yv (Wt.some rfl rfl rfl h3) rfl rfl (Yv.pur rfl) ?_
            refine TL.yv (Wt.some rfl rfl rfl h3) rfl rfl (Yv.pur rfl) ?_
            refine TL.yv (Wt.some rfl rfl rfl h3) rfl rfl (Yv.shrV (only L (nth (Y.out i) k).to.toNat) rfl rfl rfl rfl (by omega)) ?_
            refine TL.yv (Wt.some rfl rfl rfl h3) rfl rfl (Yv.andV (b := 1#64) rfl rfl rfl) ?_
            refine TL.yv (Wt.some rfl rfl rfl h3) rfl rfl (Yv.pur rfl) ?_
            refine TL.yv (Wt.none rfl) rfl rfl (Yv.pickF rfl rfl h3 rfl) ?_
            refine TL.nil ?_
            refine K.seq ?_
            refine T.cond rfl (fun h4 => ?_) (fun h4 => ?_)
            · have p4 := h4
              try simp only [decide_eq_true_eq, decide_eq_false_iff_not, Int.not_lt, Int.not_le, Bool.not_eq_true', Bool.not_eq_false', Decidable.not_not, Bool.and_eq_true, Bool.or_eq_true, Bool.and_eq_false_iff, Bool.or_eq_false_iff] at p4
              have hbit : ((((Y.out i).take k).foldl (loadStep Y L i) 0#64)).getLsbD (only L (nth (Y.out i) k).to.toNat) = true := by rw [← bit_is]; exact decide_eq_true (by assumption)
              refine T.exit ?_
              refine K.then_exit ?_
              refine K.blk_exit_eq ?_
              (have hb := hbit; refine K.at ?_ (by repeat (first | exact List.Sublist.refl _ | exact List.nil_sublist _ | refine List.Sublist.cons_cons _ ?_ | refine List.Sublist.cons _ ?_)); rw [foldl_take _ _ (by omega), loadStep, if_pos (.inr hb)]; exact (by repeat (first | exact Sub.nil | refine Sub.cons rfl ?_)))
            · have p4 := h4
              try simp only [decide_eq_true_eq, decide_eq_false_iff_not, Int.not_lt, Int.not_le, Bool.not_eq_true', Bool.not_eq_false', Decidable.not_not, Bool.and_eq_true, Bool.or_eq_true, Bool.and_eq_false_iff, Bool.or_eq_false_iff] at p4
              have hno : ¬ (((only L (nth (Y.out i) k).to.toNat : Int) < (nth (Y.out i) k).lo ∨ (nth (Y.out i) k).hi < (only L (nth (Y.out i) k).to.toNat : Int)) ∨ ((((Y.out i).take k).foldl (loadStep Y L i) 0#64)).getLsbD (only L (nth (Y.out i) k).to.toNat) = true) := by rintro ((hh | hh) | hh); omega; omega; rw [← bit_is] at hh; exact absurd (of_decide_eq_true hh) (by assumption)
              refine T.skip ?_
              refine K.seq ?_
              refine T.seq ?_
              refine T.region ?_
              refine TL.yv (Wt.none rfl) rfl rfl (Yv.pur rfl) ?_
              refine TL.nil ?_
              refine K.seq ?_
              refine T.cut (gs := [(0, .pointer (some ⟨sp, 0, none⟩)), (1, .int .i64 (i : Int)), (23, .slice (some ⟨g, off, none⟩) (Y.out i).length cpO), (24, .int .i64 ((Y.out i).length : Int)), (25, .int .i64 (k : Int)), (7, .pointer (some ⟨g7, 0, none⟩)), (8, .int .i64 (only L (nth (Y.out i) k).to.toNat : Int)), (5, U (((Y.out i).take k).foldl (loadStep Y L i) 0#64)), (9, .int .i64 (sumOf L i (only L (nth (Y.out i) k).to.toNat) (Y.inn (nth (Y.out i) k).to.toNat)))]) (hs' := [.row g7 86 [.int .i64 (nth (Y.out i) k).to, .int .i64 (nth (Y.out i) k).fr, .int .i64 (nth (Y.out i) k).wt, .int .i64 (nth (Y.out i) k).lo, .int .i64 (nth (Y.out i) k).hi]]) ?_ ?_
              · skip
                refine T.seq ?_
                refine T.draw (.still 0 (.still 1 (.still 2 (.still 3 (.still 4 (.still 5 (.still 6 (.still 7 (.still 8 (.still 9 (.still 10 (.still 11 (.still 12 .done))))))))))))) _ (by kernel_rfl) (List.Sublist.refl _) ?_
                refine TS.still rfl (Wt.none rfl) rfl rfl (Yv.pur rfl) ?_
                refine TS.still rfl (Wt.none rfl) rfl rfl (Yv.pur rfl) ?_
                refine TS.still rfl (Wt.none rfl) rfl rfl (Yv.fieldAddr rfl rfl) ?_
                refine TS.still rfl (Wt.none rfl) rfl rfl (Yv.loadB rfl rfl hsp0 (fun h => h)) ?_
                refine TS.still rfl (Wt.none rfl) rfl rfl (Yv.pur rfl) ?_
                refine TS.still rfl (Wt.none rfl) rfl rfl (Yv.fieldAddr rfl rfl) ?_
                refine TS.still rfl (Wt.none rfl) rfl rfl (Yv.loadB rfl rfl hI0 (fun h => h)) ?_
                refine TS.still rfl (Wt.none rfl) rfl rfl (Yv.fieldAddr rfl rfl) ?_
                refine TS.still rfl (Wt.none rfl) rfl rfl (Yv.loadO 0 rfl rfl rfl rfl) ?_
                refine TS.still rfl (Wt.none rfl) rfl rfl (Yv.indexSl rfl rfl rfl (show (nth (Y.out i) k).to = (((nth (Y.out i) k).to.toNat : Nat) : Int) from by omega) (by omega)) ?_
                refine TS.still rfl (Wt.none rfl) rfl rfl (Yv.loadC (j := 0) rfl rfl hIi rfl rfl (fun h => h)) ?_
                refine TS.still rfl (Wt.none rfl) rfl rfl (Yv.lenSl rfl rfl) ?_
                refine TS.still rfl (Wt.none rfl) rfl rfl (Yv.pur rfl) ?_
                refine TS.done ?_
                refine K.seq ?_
                refine T.block ?_
                refine T.loop (ι := Nat) (fun j => [(0, .pointer (some ⟨sp, 0, none⟩)), (1, .int .i64 (i : Int)), (23, .slice (some ⟨g, off, none⟩) (Y.out i).length cpO), (24, .int .i64 ((Y.out i).length : Int)), (25, .int .i64 (k : Int)), (7, .pointer (some ⟨g7, 0, none⟩)), (8, .int .i64 (only L (nth (Y.out i) k).to.toNat : Int)), (5, U (((Y.out i).take k).foldl (loadStep Y L i) 0#64)), (9, .int .i64 (sumOf L i (only L (nth (Y.out i) k).to.toNat) ((Y.inn (nth (Y.out i) k).to.toNat).take j))), (60, .slice BI (Y.inn (nth (Y.out i) k).to.toNat).length cpI), (61, .int .i64 ((Y.inn (nth (Y.out i) k).to.toNat).length : Int)), (62, .int .i64 (j : Int))]) (fun j => [.row g7 86 [.int .i64 (nth (Y.out i) k).to, .int .i64 (nth (Y.out i) k).fr, .int .i64 (nth (Y.out i) k).wt, .int .i64 (nth (Y.out i) k).lo, .int .i64 (nth (Y.out i) k).hi]]) (fun j => j ≤ (Y.inn (nth (Y.out i) k).to.toNat).length) (fun j => (Y.inn (nth (Y.out i) k).to.toNat).length - j) 0 ?_ ?_ ?_ ?_
                · omega
                · exact (by repeat (first | exact Sub.nil | refine Sub.cons rfl ?_))
                · exact (by repeat (first | exact List.Sublist.refl _ | exact List.nil_sublist _ | refine List.Sublist.cons_cons _ ?_ | refine List.Sublist.cons _ ?_))
                · intro j hphi
                  refine T.seq ?_
                  refine T.region ?_
                  refine TL.yv (Wt.none rfl) rfl rfl (Yv.pur rfl) ?_
                  refine TL.nil ?_
                  refine K.seq ?_
                  refine T.seq ?_
                  refine T.cond rfl (fun h5 => ?_) (fun h5 => ?_)
                  · have p5 := h5
                    try simp only [decide_eq_true_eq, decide_eq_false_iff_not, Int.not_lt, Int.not_le, Bool.not_eq_true', Bool.not_eq_false', Decidable.not_not, Bool.and_eq_true, Bool.or_eq_true, Bool.and_eq_false_iff, Bool.or_eq_false_iff] at p5
                    obtain ⟨gi, offi, rfl, hci⟩ := hslI (by omega)
                    have hj := hci j (by omega)
                    simp only [Ld.cells] at hj
                    have hri := hrngI _ (nth_mem (xs := Y.inn (nth (Y.out i) k).to.toNat) (k := j) (by omega))
                    have hbd := sum_bd (L := L) (i := i) (d := only L (nth (Y.out i) k).to.toNat) hlenI hwt j
                    refine T.skip ?_
                    refine K.seq ?_
                    refine T.seq ?_
                    refine T.block ?_
                    refine T.seq ?_
                    refine T.region ?_
                    refine TL.yv (Wt.none rfl) rfl rfl (Yv.indexSl rfl rfl rfl rfl (by omega)) ?_
                    refine TL.yv (Wt.none rfl) rfl rfl (Yv.loadAB rfl rfl hj rfl (fun h => h)) ?_
                    (refine TL.ew (Wt.none rfl) rfl rfl (Ew.alloc rfl) ?_; rintro _ _ ⟨g11, rfl, rfl⟩)
                    (refine TL.ew0 (Wt.none rfl) rfl (Ew.storeAll 0 rfl rfl rfl rfl rfl rfl) ?_; rintro _ _ ⟨rfl, rfl⟩)
                    refine TL.nil ?_
                    refine K.seq ?_
                    refine T.seq ?_
                    refine T.region ?_
                    refine TL.yv (Wt.none rfl) rfl rfl (Yv.fieldAddr rfl rfl) ?_
                    refine TL.yv (Wt.none rfl) rfl rfl (Yv.loadO 0 rfl rfl rfl rfl) ?_
                    refine TL.yv (Wt.none rfl) rfl rfl (Yv.pur rfl) ?_
                    refine TL.yv (Wt.none rfl) rfl rfl (Yv.pur rfl) ?_
                    refine TL.yv (Wt.none rfl) rfl rfl (Yv.pur rfl) ?_
                    refine TL.gsplit rfl rfl rfl (fun h6 => ?_) (fun h6 => ?_)
                    · have p6 := h6
                      try simp only [decide_eq_true_eq, decide_eq_false_iff_not, Int.not_lt, Int.not_le, Bool.not_eq_true', Bool.not_eq_false', Decidable.not_not, Bool.and_eq_true, Bool.or_eq_true, Bool.and_eq_false_iff, Bool.or_eq_false_iff] at p6
                      refine TL.yv (Wt.some rfl rfl rfl h6) rfl rfl (Yv.pur rfl) ?_
                      refine TL.yv (Wt.some rfl rfl rfl h6) rfl rfl (Yv.fieldAddr rfl rfl) ?_
                      refine TL.yv (Wt.some rfl rfl rfl h6) rfl rfl (Yv.loadO 0 rfl rfl rfl rfl) ?_
                      refine TL.yv (Wt.some rfl rfl rfl h6) rfl rfl (Yv.pur rfl) ?_
                      refine TL.yv (Wt.none rfl) rfl rfl (Yv.pickT rfl rfl h6 rfl) ?_
                      refine TL.yv (Wt.none rfl) rfl rfl (Yv.pur rfl) ?_
                      refine TL.gsplit rfl rfl rfl (fun h7 => ?_) (fun h7 => ?_)
                      · have p7 := h7
                        try simp only [decide_eq_true_eq, decide_eq_false_iff_not, Int.not_lt, Int.not_le, Bool.not_eq_true', Bool.not_eq_false', Decidable.not_not, Bool.and_eq_true, Bool.or_eq_true, Bool.and_eq_false_iff, Bool.or_eq_false_iff] at p7
                        refine TL.yv (Wt.some rfl rfl rfl h7) rfl rfl (Yv.fieldAddr rfl rfl) ?_
                        refine TL.yv (Wt.some rfl rfl rfl h7) rfl rfl (Yv.loadO 0 rfl rfl rfl rfl) ?_
                        refine TL.yv (Wt.some rfl rfl rfl h7) rfl rfl (Yv.pur rfl) ?_
                        refine TL.yv (Wt.some rfl rfl rfl h7) rfl rfl (Yv.pur rfl) ?_
                        refine TL.yv (Wt.some rfl rfl rfl h7) rfl rfl (Yv.pur rfl) ?_
                        refine TL.gsplit rfl rfl rfl (fun h8 => ?_) (fun h8 => ?_)
                        · have p8 := h8
                          try simp only [decide_eq_true_eq, decide_eq_false_iff_not, Int.not_lt, Int.not_le, Bool.not_eq_true', Bool.not_eq_false', Decidable.not_not, Bool.and_eq_true, Bool.or_eq_true, Bool.and_eq_false_iff, Bool.or_eq_false_iff] at p8
                          refine TL.off (Wt.not rfl rfl rfl h8) rfl rfl ?_
                          refine TL.off (Wt.not rfl rfl rfl h8) rfl rfl ?_
                          refine TL.off (Wt.not rfl rfl rfl h8) rfl rfl ?_
                          refine TL.off (Wt.not rfl rfl rfl h8) rfl rfl ?_
                          refine TL.off (Wt.not rfl rfl rfl h8) rfl rfl ?_
                          refine TL.off (Wt.not rfl rfl rfl h8) rfl rfl ?_
                          refine TL.yv (Wt.some rfl rfl rfl h7) rfl rfl (Yv.pickT rfl rfl h8 rfl) ?_
                          refine TL.yv (Wt.none rfl) rfl rfl (Yv.pickT rfl rfl h7 rfl) ?_
                          refine TL.nil ?_
                          refine K.seq ?_
                          refine T.condT rfl rfl ?_
                          refine T.region ?_
                          refine TL.yv (Wt.none rfl) rfl rfl (Yv.pur rfl) ?_
                          refine TL.yv (Wt.none rfl) rfl rfl (Yv.fieldAddr rfl rfl) ?_
                          refine TL.yv (Wt.none rfl) rfl rfl (Yv.loadO 0 rfl rfl rfl rfl) ?_
                          refine TL.yv (Wt.none rfl) rfl rfl (Yv.addI rfl rfl rfl (by omega)) ?_
                          refine TL.yv (Wt.none rfl) rfl rfl (Yv.pur rfl) ?_
                          refine TL.nil ?_
                          refine K.blk_normal ?_
                          refine K.seq ?_
                          refine T.region ?_
                          refine TL.yv (Wt.none rfl) rfl rfl (Yv.addI rfl rfl rfl (by omega)) ?_
                          refine TL.yv (Wt.none rfl) rfl rfl (Yv.pur rfl) ?_
                          refine TL.nil ?_
                          exact K.next (j + 1) (by omega) (by omega) (by rw [sum_take (by omega), sumStep]; split <;> first | (exfalso; omega) | exact (by repeat (first | exact Sub.nil | refine Sub.cons rfl ?_))) (by repeat (first | exact List.Sublist.refl _ | exact List.nil_sublist _ | refine List.Sublist.cons_cons _ ?_ | refine List.Sublist.cons _ ?_))
                        · have p8 := h8
                          try simp only [decide_eq_true_eq, decide_eq_false_iff_not, Int.not_lt, Int.not_le, Bool.not_eq_true', Bool.not_eq_false', Decidable.not_not, Bool.and_eq_true, Bool.or_eq_true, Bool.and_eq_false_iff, Bool.or_eq_false_iff] at p8
                          refine TL.yv (Wt.some rfl rfl rfl h8) rfl rfl (Yv.pur rfl) ?_
                          refine TL.yv (Wt.some rfl rfl rfl h8) rfl rfl (Yv.fieldAddr rfl rfl) ?_
                          refine TL.yv (Wt.some rfl rfl rfl h8) rfl rfl (Yv.loadO 0 rfl rfl rfl rfl) ?_
                          (refine TL.ew (Wt.some rfl rfl rfl h8) rfl rfl (Ew.callD rfl rfl rfl (fun w hw => only_ret sp Y L c (nth (Y.inn (nth (Y.out i) k).to.toNat) j).fr.toNat _ (by omega) (by omega) w (h.kept hw))) ?_; rintro _ _ ⟨rfl, rfl⟩)
                          refine TL.yv (Wt.some rfl rfl rfl h8) rfl rfl (Yv.pur rfl) ?_
                          refine TL.yv (Wt.some rfl rfl rfl h8) rfl rfl (Yv.pur rfl) ?_
                          refine TL.yv (Wt.some rfl rfl rfl h7) rfl rfl (Yv.pickF rfl rfl h8 rfl) ?_
                          refine TL.yv (Wt.none rfl) rfl rfl (Yv.pickT rfl rfl h7 rfl) ?_
                          refine TL.nil ?_
                          refine K.seq ?_
                          refine T.cond rfl (fun h9 => ?_) (fun h9 => ?_)
                          · have p9 := h9
                            try simp only [decide_eq_true_eq, decide_eq_false_iff_not, Int.not_lt, Int.not_le, Bool.not_eq_true', Bool.not_eq_false', Decidable.not_not, Bool.and_eq_true, Bool.or_eq_true, Bool.and_eq_false_iff, Bool.or_eq_false_iff] at p9
                            refine T.region ?_
                            refine TL.yv (Wt.none rfl) rfl rfl (Yv.pur rfl) ?_
                            refine TL.yv (Wt.none rfl) rfl rfl (Yv.fieldAddr rfl rfl) ?_
                            refine TL.yv (Wt.none rfl) rfl rfl (Yv.loadO 0 rfl rfl rfl rfl) ?_
                            refine TL.yv (Wt.none rfl) rfl rfl (Yv.addI rfl rfl rfl (by omega)) ?_
                            refine TL.yv (Wt.none rfl) rfl rfl (Yv.pur rfl) ?_
                            refine TL.nil ?_
                            refine K.blk_normal ?_
                            refine K.seq ?_
                            refine T.region ?_
                            refine TL.yv (Wt.none rfl) rfl rfl (Yv.addI rfl rfl rfl (by omega)) ?_
                            refine TL.yv (Wt.none rfl) rfl rfl (Yv.pur rfl) ?_
                            refine TL.nil ?_
                            exact K.next (j + 1) (by omega) (by omega) (by rw [sum_take (by omega), sumStep]; split <;> first | (exfalso; omega) | exact (by repeat (first | exact Sub.nil | refine Sub.cons rfl ?_))) (by repeat (first | exact List.Sublist.refl _ | exact List.nil_sublist _ | refine List.Sublist.cons_cons _ ?_ | refine List.Sublist.cons _ ?_))
                          · have p9 := h9
                            try simp only [decide_eq_true_eq, decide_eq_false_iff_not, Int.not_lt, Int.not_le, Bool.not_eq_true', Bool.not_eq_false', Decidable.not_not, Bool.and_eq_true, Bool.or_eq_true, Bool.and_eq_false_iff, Bool.or_eq_false_iff] at p9
                            refine T.skip ?_
                            refine K.blk_normal ?_
                            refine K.seq ?_
                            refine T.region ?_
                            refine TL.yv (Wt.none rfl) rfl rfl (Yv.addI rfl rfl rfl (by omega)) ?_
                            refine TL.yv (Wt.none rfl) rfl rfl (Yv.pur rfl) ?_
                            refine TL.nil ?_
                            exact K.next (j + 1) (by omega) (by omega) (by rw [sum_take (by omega), sumStep]; split <;> first | (exfalso; omega) | exact (by repeat (first | exact Sub.nil | refine Sub.cons rfl ?_))) (by repeat (first | exact List.Sublist.refl _ | exact List.nil_sublist _ | refine List.Sublist.cons_cons _ ?_ | refine List.Sublist.cons _ ?_))
                      · have p7 := h7
                        try simp only [decide_eq_true_eq, decide_eq_false_iff_not, Int.not_lt, Int.not_le, Bool.not_eq_true', Bool.not_eq_false', Decidable.not_not, Bool.and_eq_true, Bool.or_eq_true, Bool.and_eq_false_iff, Bool.or_eq_false_iff] at p7
                        refine TL.off (Wt.not rfl rfl rfl h7) rfl rfl ?_
                        refine TL.off (Wt.not rfl rfl rfl h7) rfl rfl ?_
                        refine TL.off (Wt.not rfl rfl rfl h7) rfl rfl ?_
                        refine TL.off (Wt.not rfl rfl rfl h7) rfl rfl ?_
                        refine TL.off (Wt.not rfl rfl rfl h7) rfl rfl ?_
                        refine TL.off (Wt.undef rfl rfl rfl) rfl rfl ?_
                        refine TL.off (Wt.undef rfl rfl rfl) rfl rfl ?_
                        refine TL.off (Wt.undef rfl rfl rfl) rfl rfl ?_
                        refine TL.off (Wt.undef rfl rfl rfl) rfl rfl ?_
                        refine TL.off (Wt.undef rfl rfl rfl) rfl rfl ?_
                        refine TL.off (Wt.undef rfl rfl rfl) rfl rfl ?_
                        refine TL.off (Wt.not rfl rfl rfl h7) rfl rfl ?_
                        refine TL.yv (Wt.none rfl) rfl rfl (Yv.pickF rfl rfl h7 rfl) ?_
                        refine TL.nil ?_
                        refine K.seq ?_
                        refine T.condF rfl rfl ?_
                        refine T.skip ?_
                        refine K.blk_normal ?_
                        refine K.seq ?_
                        refine T.region ?_
                        refine TL.yv (Wt.none rfl) rfl rfl (Yv.addI rfl rfl rfl (by omega)) ?_
                        refine TL.yv (Wt.none rfl) rfl rfl (Yv.pur rfl) ?_
                        refine TL.nil ?_
                        exact K.next (j + 1) (by omega) (by omega) (by rw [sum_take (by omega), sumStep]; split <;> first | (exfalso; omega) | exact (by repeat (first | exact Sub.nil | refine Sub.cons rfl ?_))) (by repeat (first | exact List.Sublist.refl _ | exact List.nil_sublist _ | refine List.Sublist.cons_cons _ ?_ | refine List.Sublist.cons _ ?_))
                    · have p6 := h6
                      try simp only [decide_eq_true_eq, decide_eq_false_iff_not, Int.not_lt, Int.not_le, Bool.not_eq_true', Bool.not_eq_false', Decidable.not_not, Bool.and_eq_true, Bool.or_eq_true, Bool.and_eq_false_iff, Bool.or_eq_false_iff] at p6
                      refine TL.off (Wt.not rfl rfl rfl h6) rfl rfl ?_
                      refine TL.off (Wt.not rfl rfl rfl h6) rfl rfl ?_
                      refine TL.off (Wt.not rfl rfl rfl h6) rfl rfl ?_
                      refine TL.off (Wt.not rfl rfl rfl h6) rfl rfl ?_
                      refine TL.yv (Wt.none rfl) rfl rfl (Yv.pickF rfl rfl h6 rfl) ?_
                      refine TL.yv (Wt.none rfl) rfl rfl (Yv.pur rfl) ?_
                      refine TL.off (Wt.not rfl rfl rfl rfl) rfl rfl ?_
                      refine TL.off (Wt.not rfl rfl rfl rfl) rfl rfl ?_
                      refine TL.off (Wt.not rfl rfl rfl rfl) rfl rfl ?_
                      refine TL.off (Wt.not rfl rfl rfl rfl) rfl rfl ?_
                      refine TL.off (Wt.not rfl rfl rfl rfl) rfl rfl ?_
                      refine TL.off (Wt.undef rfl rfl rfl) rfl rfl ?_
                      refine TL.off (Wt.undef rfl rfl rfl) rfl rfl ?_
                      refine TL.off (Wt.undef rfl rfl rfl) rfl rfl ?_
                      refine TL.off (Wt.undef rfl rfl rfl) rfl rfl ?_
                      refine TL.off (Wt.undef rfl rfl rfl) rfl rfl ?_
                      refine TL.off (Wt.undef rfl rfl rfl) rfl rfl ?_
                      refine TL.off (Wt.not rfl rfl rfl rfl) rfl rfl ?_
                      refine TL.yv (Wt.none rfl) rfl rfl (Yv.pickF rfl rfl rfl rfl) ?_
                      refine TL.nil ?_
                      refine K.seq ?_
                      refine T.condF rfl rfl ?_
                      refine T.skip ?_
                      refine K.blk_normal ?_
                      refine K.seq ?_
                      refine T.region ?_
                      refine TL.yv (Wt.none rfl) rfl rfl (Yv.addI rfl rfl rfl (by omega)) ?_
                      refine TL.yv (Wt.none rfl) rfl rfl (Yv.pur rfl) ?_
                      refine TL.nil ?_
                      exact K.next (j + 1) (by omega) (by omega) (by rw [sum_take (by omega), sumStep]; split <;> first | (exfalso; omega) | exact (by repeat (first | exact Sub.nil | refine Sub.cons rfl ?_))) (by repeat (first | exact List.Sublist.refl _ | exact List.nil_sublist _ | refine List.Sublist.cons_cons _ ?_ | refine List.Sublist.cons _ ?_))
                  · have p5 := h5
                    try simp only [decide_eq_true_eq, decide_eq_false_iff_not, Int.not_lt, Int.not_le, Bool.not_eq_true', Bool.not_eq_false', Decidable.not_not, Bool.and_eq_true, Bool.or_eq_true, Bool.and_eq_false_iff, Bool.or_eq_false_iff] at p5
                    refine T.exit ?_
                    refine K.then_exit ?_
                    refine K.then_exit ?_
                    refine K.blk_exit_eq ?_
                    exact K.at (by rw [show (Y.inn (nth (Y.out i) k).to.toNat).take j = Y.inn (nth (Y.out i) k).to.toNat from List.take_of_length_le (by omega)] at *; exact (by repeat (first | exact Sub.nil | refine Sub.cons rfl ?_))) (by repeat (first | exact List.Sublist.refl _ | exact List.nil_sublist _ | refine List.Sublist.cons_cons _ ?_ | refine List.Sublist.cons _ ?_))
              · skip
                refine T.seq ?_
                refine T.draw (.still 0 (.still 1 (.still 2 (.still 3 (.still 4 (.still 5 (.still 6 (.still 7 (.still 8 (.still 9 (.still 10 (.still 11 (.still 12 .done))))))))))))) _ (by kernel_rfl) (List.Sublist.refl _) ?_
                refine TS.still rfl (Wt.none rfl) rfl rfl (Yv.pur rfl) ?_
                refine TS.still rfl (Wt.none rfl) rfl rfl (Yv.pur rfl) ?_
                refine TS.still rfl (Wt.none rfl) rfl rfl (Yv.fieldAddr rfl rfl) ?_
                refine TS.still rfl (Wt.none rfl) rfl rfl (Yv.loadB rfl rfl hsp0 (fun h => h)) ?_
                refine TS.still rfl (Wt.none rfl) rfl rfl (Yv.pur rfl) ?_
                refine TS.still rfl (Wt.none rfl) rfl rfl (Yv.fieldAddr rfl rfl) ?_
                refine TS.still rfl (Wt.none rfl) rfl rfl (Yv.loadB rfl rfl hC0 (fun h => h)) ?_
                refine TS.still rfl (Wt.none rfl) rfl rfl (Yv.fieldAddr rfl rfl) ?_
                refine TS.still rfl (Wt.none rfl) rfl rfl (Yv.loadO 0 rfl rfl rfl rfl) ?_
                refine TS.still rfl (Wt.none rfl) rfl rfl (Yv.indexSl rfl rfl rfl (show (nth (Y.out i) k).to = (((nth (Y.out i) k).to.toNat : Nat) : Int) from by omega) (by omega)) ?_
                refine TS.still rfl (Wt.none rfl) rfl rfl (Yv.loadC (j := 0) rfl rfl hCi rfl rfl (fun h => h)) ?_
                refine TS.still rfl (Wt.none rfl) rfl rfl (Yv.lenSl rfl rfl) ?_
                refine TS.still rfl (Wt.none rfl) rfl rfl (Yv.pur rfl) ?_
                refine TS.done ?_
                refine K.seq ?_
                refine T.block ?_
                refine T.loop (ι := Nat) (fun j => [(0, .pointer (some ⟨sp, 0, none⟩)), (1, .int .i64 (i : Int)), (23, .slice (some ⟨g, off, none⟩) (Y.out i).length cpO), (24, .int .i64 ((Y.out i).length : Int)), (25, .int .i64 (k : Int)), (7, .pointer (some ⟨g7, 0, none⟩)), (8, .int .i64 (only L (nth (Y.out i) k).to.toNat : Int)), (9, .int .i64 (sumOf L i (only L (nth (Y.out i) k).to.toNat) (Y.inn (nth (Y.out i) k).to.toNat))), (5, U (((Y.cs (nth (Y.out i) k).to.toNat).take j).foldl (limStep (sumOf L i (only L (nth (Y.out i) k).to.toNat) (Y.inn (nth (Y.out i) k).to.toNat)) (only L (nth (Y.out i) k).to.toNat)) (((Y.out i).take k).foldl (loadStep Y L i) 0#64))), (105, .slice BC (Y.cs (nth (Y.out i) k).to.toNat).length cpC), (106, .int .i64 ((Y.cs (nth (Y.out i) k).to.toNat).length : Int)), (107, .int .i64 (j : Int))]) (fun j => [.row g7 86 [.int .i64 (nth (Y.out i) k).to, .int .i64 (nth (Y.out i) k).fr, .int .i64 (nth (Y.out i) k).wt, .int .i64 (nth (Y.out i) k).lo, .int .i64 (nth (Y.out i) k).hi]]) (fun j => j ≤ (Y.cs (nth (Y.out i) k).to.toNat).length) (fun j => (Y.cs (nth (Y.out i) k).to.toNat).length - j) 0 ?_ ?_ ?_ ?_
                · omega
                · exact (by repeat (first | exact Sub.nil | refine Sub.cons rfl ?_))
                · exact (by repeat (first | exact List.Sublist.refl _ | exact List.nil_sublist _ | refine List.Sublist.cons_cons _ ?_ | refine List.Sublist.cons _ ?_))
                · intro j hphi
                  refine T.seq ?_
                  refine T.region ?_
                  refine TL.yv (Wt.none rfl) rfl rfl (Yv.pur rfl) ?_
                  refine TL.nil ?_
                  refine K.seq ?_
                  refine T.seq ?_
                  refine T.cond rfl (fun h10 => ?_) (fun h10 => ?_)
                  · have p10 := h10
                    try simp only [decide_eq_true_eq, decide_eq_false_iff_not, Int.not_lt, Int.not_le, Bool.not_eq_true', Bool.not_eq_false', Decidable.not_not, Bool.and_eq_true, Bool.or_eq_true, Bool.and_eq_false_iff, Bool.or_eq_false_iff] at p10
                    obtain ⟨gc, offc, rfl, hcc⟩ := hslC (by omega)
                    have hj := hcc j (by omega)
                    simp only [Cp.cells] at hj
                    refine T.skip ?_
                    refine K.seq ?_
                    refine T.seq ?_
                    refine T.block ?_
                    refine T.seq ?_
                    refine T.region ?_
                    refine TL.yv (Wt.none rfl) rfl rfl (Yv.indexSl rfl rfl rfl rfl (by omega)) ?_
                    refine TL.yv (Wt.none rfl) rfl rfl (Yv.loadAB rfl rfl hj rfl (fun h => h)) ?_
                    (refine TL.ew (Wt.none rfl) rfl rfl (Ew.alloc rfl) ?_; rintro _ _ ⟨g13, rfl, rfl⟩)
                    (refine TL.ew0 (Wt.none rfl) rfl (Ew.storeAll 0 rfl rfl rfl rfl rfl rfl) ?_; rintro _ _ ⟨rfl, rfl⟩)
                    refine TL.nil ?_
                    refine K.seq ?_
                    refine T.seq ?_
                    refine T.region ?_
                    refine TL.yv (Wt.none rfl) rfl rfl (Yv.fieldAddr rfl rfl) ?_
                    refine TL.yv (Wt.none rfl) rfl rfl (Yv.loadO 0 rfl rfl rfl rfl) ?_
                    refine TL.yv (Wt.none rfl) rfl rfl (Yv.pur rfl) ?_
                    refine TL.yv (Wt.none rfl) rfl rfl (Yv.pur rfl) ?_
                    refine TL.yv (Wt.none rfl) rfl rfl (Yv.pur rfl) ?_
                    refine TL.gsplit rfl rfl rfl (fun h11 => ?_) (fun h11 => ?_)
                    · have p11 := h11
                      try simp only [decide_eq_true_eq, decide_eq_false_iff_not, Int.not_lt, Int.not_le, Bool.not_eq_true', Bool.not_eq_false', Decidable.not_not, Bool.and_eq_true, Bool.or_eq_true, Bool.and_eq_false_iff, Bool.or_eq_false_iff] at p11
                      refine TL.yv (Wt.some rfl rfl rfl h11) rfl rfl (Yv.pur rfl) ?_
                      refine TL.yv (Wt.some rfl rfl rfl h11) rfl rfl (Yv.fieldAddr rfl rfl) ?_
                      refine TL.yv (Wt.some rfl rfl rfl h11) rfl rfl (Yv.loadO 0 rfl rfl rfl rfl) ?_
                      refine TL.yv (Wt.some rfl rfl rfl h11) rfl rfl (Yv.pur rfl) ?_
                      refine TL.yv (Wt.none rfl) rfl rfl (Yv.pickT rfl rfl h11 rfl) ?_
                      refine TL.yv (Wt.none rfl) rfl rfl (Yv.pur rfl) ?_
                      refine TL.gsplit rfl rfl rfl (fun h12 => ?_) (fun h12 => ?_)
                      · have p12 := h12
                        try simp only [decide_eq_true_eq, decide_eq_false_iff_not, Int.not_lt, Int.not_le, Bool.not_eq_true', Bool.not_eq_false', Decidable.not_not, Bool.and_eq_true, Bool.or_eq_true, Bool.and_eq_false_iff, Bool.or_eq_false_iff] at p12
                        refine TL.yv (Wt.some rfl rfl rfl h12) rfl rfl (Yv.pur rfl) ?_
                        refine TL.yv (Wt.some rfl rfl rfl h12) rfl rfl (Yv.fieldAddr rfl rfl) ?_
                        refine TL.yv (Wt.some rfl rfl rfl h12) rfl rfl (Yv.loadO 0 rfl rfl rfl rfl) ?_
                        refine TL.yv (Wt.some rfl rfl rfl h12) rfl rfl (Yv.pur rfl) ?_
                        refine TL.yv (Wt.none rfl) rfl rfl (Yv.pickT rfl rfl h12 rfl) ?_
                        refine TL.nil ?_
                        refine K.seq ?_
                        refine T.cond rfl (fun h13 => ?_) (fun h13 => ?_)
                        · have p13 := h13
                          try simp only [decide_eq_true_eq, decide_eq_false_iff_not, Int.not_lt, Int.not_le, Bool.not_eq_true', Bool.not_eq_false', Decidable.not_not, Bool.and_eq_true, Bool.or_eq_true, Bool.and_eq_false_iff, Bool.or_eq_false_iff] at p13
                          refine T.region ?_
                          refine TL.yv (Wt.none rfl) rfl rfl (Yv.pur rfl) ?_
                          refine TL.yv (Wt.none rfl) rfl rfl (Yv.pur rfl) ?_
                          refine TL.yv (Wt.none rfl) rfl rfl (Yv.shlV (a := 1#64) (only L (nth (Y.out i) k).to.toNat) rfl rfl rfl rfl (by omega)) ?_
                          refine TL.yv (Wt.none rfl) rfl rfl (Yv.orV rfl rfl rfl) ?_
                          refine TL.yv (Wt.none rfl) rfl rfl (Yv.pur rfl) ?_
                          refine TL.nil ?_
                          refine K.blk_normal ?_
                          refine K.seq ?_
                          refine T.region ?_
                          refine TL.yv (Wt.none rfl) rfl rfl (Yv.addI rfl rfl rfl (by omega)) ?_
                          refine TL.yv (Wt.none rfl) rfl rfl (Yv.pur rfl) ?_
                          refine TL.nil ?_
                          exact K.next (j + 1) (by omega) (by omega) (by rw [foldl_take _ _ (by omega), limStep]; split <;> first | (exfalso; omega) | exact (by repeat (first | exact Sub.nil | refine Sub.cons rfl ?_))) (by repeat (first | exact List.Sublist.refl _ | exact List.nil_sublist _ | refine List.Sublist.cons_cons _ ?_ | refine List.Sublist.cons _ ?_))
                        · have p13 := h13
                          try simp only [decide_eq_true_eq, decide_eq_false_iff_not, Int.not_lt, Int.not_le, Bool.not_eq_true', Bool.not_eq_false', Decidable.not_not, Bool.and_eq_true, Bool.or_eq_true, Bool.and_eq_false_iff, Bool.or_eq_false_iff] at p13
                          refine T.skip ?_
                          refine K.blk_normal ?_
                          refine K.seq ?_
                          refine T.region ?_
                          refine TL.yv (Wt.none rfl) rfl rfl (Yv.addI rfl rfl rfl (by omega)) ?_
                          refine TL.yv (Wt.none rfl) rfl rfl (Yv.pur rfl) ?_
                          refine TL.nil ?_
                          exact K.next (j + 1) (by omega) (by omega) (by rw [foldl_take _ _ (by omega), limStep]; split <;> first | (exfalso; omega) | exact (by repeat (first | exact Sub.nil | refine Sub.cons rfl ?_))) (by repeat (first | exact List.Sublist.refl _ | exact List.nil_sublist _ | refine List.Sublist.cons_cons _ ?_ | refine List.Sublist.cons _ ?_))
                      · have p12 := h12
                        try simp only [decide_eq_true_eq, decide_eq_false_iff_not, Int.not_lt, Int.not_le, Bool.not_eq_true', Bool.not_eq_false', Decidable.not_not, Bool.and_eq_true, Bool.or_eq_true, Bool.and_eq_false_iff, Bool.or_eq_false_iff] at p12
                        refine TL.off (Wt.not rfl rfl rfl h12) rfl rfl ?_
                        refine TL.off (Wt.not rfl rfl rfl h12) rfl rfl ?_
                        refine TL.off (Wt.not rfl rfl rfl h12) rfl rfl ?_
                        refine TL.off (Wt.not rfl rfl rfl h12) rfl rfl ?_
                        refine TL.yv (Wt.none rfl) rfl rfl (Yv.pickF rfl rfl h12 rfl) ?_
                        refine TL.nil ?_
                        refine K.seq ?_
                        refine T.condF rfl rfl ?_
                        refine T.skip ?_
                        refine K.blk_normal ?_
                        refine K.seq ?_
                        refine T.region ?_
                        refine TL.yv (Wt.none rfl) rfl rfl (Yv.addI rfl rfl rfl (by omega)) ?_
                        refine TL.yv (Wt.none rfl) rfl rfl (Yv.pur rfl) ?_
                        refine TL.nil ?_
                        exact K.next (j + 1) (by omega) (by omega) (by rw [foldl_take _ _ (by omega), limStep]; split <;> first | (exfalso; omega) | exact (by repeat (first | exact Sub.nil | refine Sub.cons rfl ?_))) (by repeat (first | exact List.Sublist.refl _ | exact List.nil_sublist _ | refine List.Sublist.cons_cons _ ?_ | refine List.Sublist.cons _ ?_))
                    · have p11 := h11
                      try simp only [decide_eq_true_eq, decide_eq_false_iff_not, Int.not_lt, Int.not_le, Bool.not_eq_true', Bool.not_eq_false', Decidable.not_not, Bool.and_eq_true, Bool.or_eq_true, Bool.and_eq_false_iff, Bool.or_eq_false_iff] at p11
                      refine TL.off (Wt.not rfl rfl rfl h11) rfl rfl ?_
                      refine TL.off (Wt.not rfl rfl rfl h11) rfl rfl ?_
                      refine TL.off (Wt.not rfl rfl rfl h11) rfl rfl ?_
                      refine TL.off (Wt.not rfl rfl rfl h11) rfl rfl ?_
                      refine TL.yv (Wt.none rfl) rfl rfl (Yv.pickF rfl rfl h11 rfl) ?_
                      refine TL.yv (Wt.none rfl) rfl rfl (Yv.pur rfl) ?_
                      refine TL.off (Wt.not rfl rfl rfl rfl) rfl rfl ?_
                      refine TL.off (Wt.not rfl rfl rfl rfl) rfl rfl ?_
                      refine TL.off (Wt.not rfl rfl rfl rfl) rfl rfl ?_
                      refine TL.off (Wt.not rfl rfl rfl rfl) rfl rfl ?_
                      refine TL.yv (Wt.none rfl) rfl rfl (Yv.pickF rfl rfl rfl rfl) ?_
                      refine TL.nil ?_
                      refine K.seq ?_
                      refine T.condF rfl rfl ?_
                      refine T.skip ?_
                      refine K.blk_normal ?_
                      refine K.seq ?_
                      refine T.region ?_
                      refine TL.yv (Wt.none rfl) rfl rfl (Yv.addI rfl rfl rfl (by omega)) ?_
                      refine TL.yv (Wt.none rfl) rfl rfl (Yv.pur rfl) ?_
                      refine TL.nil ?_
                      exact K.next (j + 1) (by omega) (by omega) (by rw [foldl_take _ _ (by omega), limStep]; split <;> first | (exfalso; omega) | exact (by repeat (first | exact Sub.nil | refine Sub.cons rfl ?_))) (by repeat (first | exact List.Sublist.refl _ | exact List.nil_sublist _ | refine List.Sublist.cons_cons _ ?_ | refine List.Sublist.cons _ ?_))
                  · have p10 := h10
                    try simp only [decide_eq_true_eq, decide_eq_false_iff_not, Int.not_lt, Int.not_le, Bool.not_eq_true', Bool.not_eq_false', Decidable.not_not, Bool.and_eq_true, Bool.or_eq_true, Bool.and_eq_false_iff, Bool.or_eq_false_iff] at p10
                    refine T.exit ?_
                    refine K.then_exit ?_
                    refine K.then_exit ?_
                    refine K.blk_exit_eq ?_
                    refine K.blk_normal ?_
                    (have hn := hno; have e : (Y.cs (nth (Y.out i) k).to.toNat).take j = Y.cs (nth (Y.out i) k).to.toNat := List.take_of_length_le (by omega); refine K.at ?_ (by repeat (first | exact List.Sublist.refl _ | exact List.nil_sublist _ | refine List.Sublist.cons_cons _ ?_ | refine List.Sublist.cons _ ?_)); rw [foldl_take _ _ (by omega), loadStep, if_neg hn, e]; exact (by repeat (first | exact Sub.nil | refine Sub.cons rfl ?_)))
      · skip
        refine T.region ?_
        refine TL.yv (Wt.none rfl) rfl rfl (Yv.addI rfl rfl rfl (by omega)) ?_
        refine TL.yv (Wt.none rfl) rfl rfl (Yv.pur rfl) ?_
        refine TL.nil ?_
        exact K.next (k + 1) (by omega) (by omega) (by repeat (first | exact Sub.nil | refine Sub.cons rfl ?_)) (by repeat (first | exact List.Sublist.refl _ | exact List.nil_sublist _ | refine List.Sublist.cons_cons _ ?_ | refine List.Sublist.cons _ ?_))
    · have p1 := h1
      try simp only [decide_eq_true_eq, decide_eq_false_iff_not, Int.not_lt, Int.not_le, Bool.not_eq_true', Bool.not_eq_false', Decidable.not_not, Bool.and_eq_true, Bool.or_eq_true, Bool.and_eq_false_iff, Bool.or_eq_false_iff] at p1
      refine T.exit ?_
      refine K.then_exit ?_
      refine K.then_exit ?_
      refine K.blk_exit_eq ?_
      refine K.seq ?_
      refine T.seq ?_
      refine T.region ?_
      refine TL.yv (Wt.none rfl) rfl rfl (Yv.pur rfl) ?_
      refine TL.yv (Wt.none rfl) rfl rfl (Yv.pur rfl) ?_
      refine TL.nil ?_
      refine K.seq ?_
      refine T.ret ?_
      exact K.ret1 rfl rfl (fun w' hw => ⟨by rw [loadsF, List.take_of_length_le (by omega)], hw.isBelow⟩)
end Go.Proofs.YtljgejbmimapdaaDoor
