/- Yl Ca Da Db Dc Dd Ko Di Dj Dk Dl: shortened and put together by squeeze.py. -/
import Derived.Test.YtlaafmiejkebgaaGreatQ07
set_option maxRecDepth 100000
set_option maxHeartbeats 4000000
set_option linter.unusedVariables false
set_option linter.unusedSectionVars false
set_option linter.unusedSimpArgs false
namespace Go.Proofs.YtlaafmiejkebgaaGreat
open Go.RowKit
def zbw (p : GBidderPlan) (l : List GProduct) : Bool :=
  zao (fun (_ : Unit) =>
    ((decide ((p.Values.length : Int) ≤ 8)) && (decide ((l.length : Int) ≤ 8))))
  (fun k1 =>
    zak (fun (i_3 : Nat) (next2 : Unit → Bool) (_ : Unit) =>
      (bif decide (16 < ((nth p.Values i_3).length : Int)) then
        false
        else
        next2 ()))
    (fun (_ : Unit) =>
      k1 ()) (p.Values.length - 0) 0 ())
theorem zeW (F0 : Frz) (w : World) (hF0 : F0.At w) (p : GBidderPlan) (vp_2 : Value) (cp_2 : List (List Value)) (hp_2 : SlD R_List_Int.rep F0 vp_2 1 cp_2 p.Values) (l : List GProduct) (vl : Value) (hl : SlC F0 vl 5 (l.map GProduct.enc)) : Calls Tryz.prog 6 #[.agg [.int .i64 p.Bidder, .int .i64 p.Budget, vp_2].toArray, vl] w fun e w' => e = .returned (.bool (zbw p l)) ∧ Below w.heap.size w w' := by
  obtain ⟨r, hk⟩ : ∃ r, zbw p l = r := ⟨_, rfl⟩; rw [hk]; unfold zbw at hk; haveI := hp_2.1.oneC; haveI := hl.oneC; obtain ⟨S0, F1, rfl, hS0, hp0⟩ := zag hF0; refine zaj Tryz.func6 rfl rfl rfl hp0 ?_; refine T.sr ?_; refine TL.e (Ew.ax rfl rfl) ?_; rintro _ _ ⟨g2, rfl, rfl⟩; refine TL.run 1 rfl ?_; refine TL.ns (T.seq (T.sr ?_)); refine TL.run 1 rfl ?_; refine TL.ns ?_; have hq := zae hk; clear hk; obtain ⟨k1, hk1, hk⟩ := hq; (try dsimp only at hk); refine T.ae (ι := Unit) (fun z => [(1, vl), (2, .pointer (some ⟨g2, 0, none⟩))]) (fun z => [.row g2 24 [.int .i64 p.Bidder, .int .i64 p.Budget, vp_2], .fr F1]) (fun z => k1 () = r) ?_ ?_
  · have hq := zan hk; clear hk; obtain ⟨f2, kk2, hf2, hkk2, hk⟩ := hq; refine T.block ?_; refine T.loop (ι := Nat) (fun z => [(1, vl), (2, .pointer (some ⟨g2, 0, none⟩)), (5, .int .i64 (z : Int))]) (fun z => [.row g2 24 [.int .i64 p.Bidder, .int .i64 p.Budget, vp_2], .fr F1]) (fun z => zak f2 kk2 (p.Values.length - z) z () = r) (fun z => p.Values.length - z) 0 ?_ ?_ ?_ ?_
    · exact hk
    · exact (.c (.c (.c .nil)))
    · exact List.Sublist.refl _
    · rintro i_3 hk; refine T.seq (T.sr ?_); refine TL.run 1 rfl ?_; refine TL.y (Yv.fieldAddr rfl rfl) ?_; refine TL.y (Yv.af 0 rfl rfl rfl rfl) ?_; refine TL.y (Yv.am rfl rfl hp_2.1 hp_2.2.1) ?_; have hm9 : p.Values.length ≤ 9223372036854775807 := hp_2.2.1 ▸ hp_2.1.max; refine TL.run 1 rfl ?_; refine TL.ns ?_; refine T.cond rfl (fun h4 => ?_) (fun h4 => ?_)
      · have p4 := of_decide_eq_true h4; rw [zaC (by omega)] at hk; generalize hn2 : zak f2 kk2 (p.Values.length - (i_3 + 1)) (i_3 + 1) = next2 at hk; rw [← hf2] at hk; (try dsimp only at hk); refine T.skip (K.seq (T.seq (T.block (T.sr ?_)))); refine TL.y (Yv.fieldAddr rfl rfl) ?_; refine TL.y (Yv.af 0 rfl rfl rfl rfl) ?_; refine TL.run 1 rfl ?_; refine TL.y (Yv.an (i := i_3) rfl rfl rfl hp_2.1 hp_2.2.1 rfl (by omega)) ?_; refine TL.y (Yv.aI 1 (i := i_3) (j := 0) rfl rfl rfl hp_2.1 hp_2.2.1 (by omega) rfl (R_List_Int.c0 (hp_2.2.2 i_3 (by omega))).1) ?_; have hd17_0 := (R_List_Int.c0 (hp_2.2.2 i_3 (by omega))).2; haveI := hd17_0.oneC; refine TL.y (Yv.am rfl rfl hd17_0 (List.length_map _)) ?_; have hm18 : (nth p.Values i_3).length ≤ 9223372036854775807 := (List.length_map _) ▸ hd17_0.max; refine TL.run 1 rfl ?_; refine TL.ns ?_; refine T.cond rfl (fun h5 => ?_) (fun h5 => ?_)
        · have p5 := of_decide_eq_true h5; replace hk := zab hk h5; refine T.sr ?_; refine TL.run 1 rfl ?_; refine TL.ns (T.ret (K.ah (K.a (K.a (K.ah (K.a ?_)))))); subst hk; exact K.ak rfl rfl (fun w' hw => ⟨rfl, hw.isBelow⟩)
        · have p5 := of_decide_eq_false h5; replace hk := zaa hk h5; refine T.skip (K.ab (K.seq (T.region ?_))); refine TL.run 1 rfl ?_; refine TL.y (Yv.av rfl rfl rfl (by omega)) ?_; refine TL.run 1 rfl ?_; refine TL.nil ?_; rw [← hn2] at hk; exact K.next (i_3 + 1) hk (by omega) (.c (.c (.c .nil))) (List.Sublist.refl _)
      · have p4 := of_decide_eq_false h4; rw [zaB (by omega), ← hkk2] at hk; (try dsimp only at hk); refine T.exit (K.aa (K.aa (K.ac ?_))); exact K.ad () hk (.c (.c .nil)) (List.Sublist.refl _)
  · rintro _ hk; rw [← hk1] at hk; (try dsimp only at hk); refine T.seq ?_; refine T.ae (ι := Unit) (fun z => [(4, .bool ((decide ((p.Values.length : Int) ≤ 8)) && (decide ((l.length : Int) ≤ 8))))]) (fun z => [.row g2 24 [.int .i64 p.Bidder, .int .i64 p.Budget, vp_2], .fr F1]) (fun z => True) ?_ ?_
    · refine T.region ?_; refine TL.y (Yv.fieldAddr rfl rfl) ?_; refine TL.y (Yv.af 0 rfl rfl rfl rfl) ?_; refine TL.y (Yv.am rfl rfl hp_2.1 hp_2.2.1) ?_; have hm22 : p.Values.length ≤ 9223372036854775807 := hp_2.2.1 ▸ hp_2.1.max; refine TL.run 2 rfl ?_; refine TL.gs rfl rfl rfl (fun h6 => ?_) (fun h6 => ?_)
      · have p6 := of_decide_eq_true h6; refine TL.run 1 rfl ?_; refine TL.y (Yv.am rfl rfl hl (List.length_map _)) ?_; have hm26 : l.length ≤ 9223372036854775807 := (List.length_map _) ▸ hl.max; refine TL.run 3 rfl ?_; refine TL.nil ?_; exact K.ad () trivial (.b (zcp h6) .nil) (List.Sublist.refl _)
      · have p6 := of_decide_eq_false h6; refine TL.run 5 rfl ?_; refine TL.nil ?_; exact K.ad () trivial (.b (zaZ h6).symm .nil) (List.Sublist.refl _)
    · rintro _ _; have hm22 : p.Values.length ≤ 9223372036854775807 := hp_2.2.1 ▸ hp_2.1.max; have hm26 : l.length ≤ 9223372036854775807 := (List.length_map _) ▸ hl.max; refine T.ret ?_; subst hk; exact K.ak rfl rfl (fun w' hw => ⟨rfl, hw.isBelow⟩)
def zbM (fuel : Nat) (l : List GBid) (id : Int) (want : List GRow) : Option Bool :=
  (bif decide (¬ (l.length : Int) = (want.length : Int)) then
    some false
    else
    zao (fun (_ : Unit) =>
      some true)
    (fun k2 =>
      zak (fun (i_4 : Nat) (next3 : Unit → Option Bool) (_ : Unit) =>
        (zby fuel ((nth want i_4).Point) 1000).bind fun r27 =>
        zao (fun (x_6 : Bool) =>
          (bif x_6 then
            some false
            else
            next3 ()))
        (fun k7 =>
          (bif decide (¬ r27.2 = 0) then
            k7 true
            else
            (bif decide (¬ (nth l i_4).Bidder = id) then
              k7 true
              else
              (bif decide (¬ (nth l i_4).Product = (nth want i_4).Product) then
                k7 true
                else
                (bif decide (¬ (nth l i_4).Change = (nth want i_4).Change) then
                  k7 true
                  else
                  (za3 fuel ((nth l i_4).Point)).bind fun r73 =>
                  (bif !r73 then
                    k7 true
                    else
                    (za8 fuel ((nth l i_4).Point) r27.1).bind fun r83 =>
                    k7 (decide (¬ r83 = 0)))))))))
      (fun (_ : Unit) =>
        k2 ()) (l.length - 0) 0 ()))
theorem zdA (F0 : Frz) (w : World) (hF0 : F0.At w) (l : List GBid) (vl : Value) (cl : List (List Value)) (hl : SlD GBid.rep F0 vl 7 cl l) (id : Int) (want : List GRow) (vwant : Value) (hwant : SlC F0 vwant 3 (want.map GRow.enc)) (fuel : Nat) (r : Bool) (hr : zbM fuel l id want = some r) : Calls Tryz.prog 10 #[vl, .int .i64 id, vwant] w fun e w' => e = .returned (.bool r) ∧ Below w.heap.size w w' := by
  have hk := hr; unfold zbM at hk; haveI := hl.1.oneC; haveI := hwant.oneC; obtain ⟨S0, F1, rfl, hS0, hp0⟩ := zag hF0; refine zaj Tryz.func10 rfl rfl rfl hp0 ?_; refine T.sr ?_; refine TL.run 1 rfl ?_; refine TL.ns (T.seq (T.sr ?_)); refine TL.run 1 rfl ?_; refine TL.y (Yv.am rfl rfl hl.1 hl.2.1) ?_; have hm11 : l.length ≤ 9223372036854775807 := hl.2.1 ▸ hl.1.max; refine TL.run 1 rfl ?_; refine TL.y (Yv.am rfl rfl hwant (List.length_map _)) ?_; have hm13 : want.length ≤ 9223372036854775807 := (List.length_map _) ▸ hwant.max; refine TL.run 1 rfl ?_; refine TL.ns ?_; refine T.cond rfl (fun h1 => ?_) (fun h1 => ?_)
  · have p1 := of_decide_eq_true h1; replace hk := zab hk h1; refine T.sr ?_; refine TL.run 1 rfl ?_; refine TL.ns (T.ret (K.a ?_)); obtain rfl := Option.some.inj hk; exact K.ak rfl rfl (fun w' hw => ⟨rfl, hw.isBelow⟩)
  · have p1 := of_decide_eq_false h1; replace hk := zaa hk h1; refine T.skip (K.seq (T.seq (T.sr ?_))); refine TL.run 1 rfl ?_; refine TL.ns ?_; have hq := zae hk; clear hk; obtain ⟨k2, hk2, hk⟩ := hq; (try dsimp only at hk); refine T.ae (ι := FzB w (fun _ => False) S0) (fun z => []) (fun z => [.fr z]) (fun z => k2 () = some r ∧ F1.toFrz.Le z.toFrz) ?_ ?_
    · have hq := zan hk; clear hk; obtain ⟨f3, kk3, hf3, hkk3, hk⟩ := hq; refine T.block ?_; refine T.loop (ι := Nat × FzB w (fun _ => False) S0) (fun z => [(0, vl), (1, .int .i64 id), (2, vwant), (7, .int .i64 (z.1 : Int))]) (fun z => [.fr z.2]) (fun z => zak f3 kk3 (l.length - z.1) z.1 () = some r ∧ F1.toFrz.Le z.2.toFrz) (fun z => l.length - z.1) (0, F1) ?_ ?_ ?_ ?_
      · exact ⟨hk, (Frz.Le.refl _)⟩
      · exact (.c (.c (.c (.c .nil))))
      · exact List.Sublist.refl _
      · rintro ⟨i_4, F3⟩ ⟨hk, le1_3⟩; (try dsimp only at *); refine T.seq (T.sr ?_); refine TL.run 2 rfl ?_; refine TL.y (Yv.am rfl rfl (SlD.mono (rep := GBid.rep) (fun _ _ _ _ => GBid.mono) hl le1_3).1 (SlD.mono (rep := GBid.rep) (fun _ _ _ _ => GBid.mono) hl le1_3).2.1) ?_; refine TL.run 1 rfl ?_; refine TL.ns ?_; refine T.cond rfl (fun h5 => ?_) (fun h5 => ?_)
        · have p5 := of_decide_eq_true h5; rw [zaC (by omega)] at hk; generalize hn3 : zak f3 kk3 (l.length - (i_4 + 1)) (i_4 + 1) = next3 at hk; rw [← hf3] at hk; (try dsimp only at hk); refine T.skip (K.seq (T.seq (T.block (T.seq ?_)))); have hq := zad hk; clear hk; obtain ⟨r27, hr27, hk⟩ := hq; (try dsimp only at hk); refine T.region ?_; refine TL.run 2 rfl ?_; refine TL.y (Yv.an (i := i_4) rfl rfl rfl (SlC.mono hwant le1_3) (List.length_map _) rfl (by omega)) ?_; refine TL.y (Yv.aP rfl rfl (SlC.mono hwant le1_3) (List.length_map _) (by omega)) ?_; refine TL.y (Yv.ai 0 (i := i_4) (j := 2) rfl rfl rfl (SlC.mono hwant le1_3) (by omega) rfl rfl) ?_; refine TL.e (Ew.ao 0 rfl rfl rfl rfl (fun w hw hF => zei _ w hF ((nth want i_4).Point) 1000 fuel r27 hr27)) ?_; rintro _ _ ⟨⟨v27_0_1, v27_0_3⟩, F4, le3_4, ⟨hf27_0_1, hf27_0_3⟩, rfl, rfl⟩; dsimp only at hf27_0_1 hf27_0_3 ⊢; have le1_4 := le1_3.trans le3_4; haveI := hf27_0_1.oneC; haveI := hf27_0_3.oneC; refine TL.run 3 rfl ?_; refine TL.e (Ew.alloc rfl) ?_; rintro _ _ ⟨g8, rfl, rfl⟩; refine TL.e0 (Ew.ag 0 rfl rfl rfl rfl rfl rfl) ?_; rintro _ _ ⟨rfl, rfl⟩; refine TL.run 1 rfl ?_; refine TL.ns (T.seq ?_); (try dsimp only at hk); have hq := zae hk; clear hk; obtain ⟨k7, hk7, hk⟩ := hq; (try dsimp only at hk); refine T.ae (ι := Bool) (fun z => [(0, vl), (1, .int .i64 id), (2, vwant), (7, .int .i64 (i_4 : Int)), (85, .bool z)]) (fun z => [.fr F4]) (fun z => k7 z = some r) ?_ ?_
          · refine T.aw (.still 0 (.still 1 (.still 2 (.still 3 (.still 4 (.still 5 (.still 6 (.still 7 (.still 8 (.still 9 (.still 10 (.still 11 (.still 12 (.still 13 (.still 14 (.still 15 (.still 16 (.still 17 (.still 18 (.still 19 (.still 20 (.still 21 (.still 22 (.still 23 (.still 24 (.still 25 (.still 26 (.still 27 (.still 28 (.still 29 (.still 30 (.still 31 (.still 32 (.still 33 (.still 34 (.still 35 (.still 36 (.still 37 (.still 38 (.still 39 (.still 40 (.still 41 (.still 42 (.eff 43 (.still 44 (.still 45 (.still 46 (.still 47 (.still 48 (.still 49 (.still 50 (.still 51 (.still 52 (.eff 53 (.still 54 (.still 55 .done)))))))))))))))))))))))))))))))))))))))))))))))))))))))) _ (by kernel_rfl) (List.Sublist.refl _) ?_; refine TS.run 3 rfl ?_; refine TS.gs rfl rfl rfl rfl (fun h8 => ?_) (fun h8 => ?_)
            · have p8 := of_decide_eq_true h8; replace hk := zab hk h8; refine TS.run 40 rfl ?_; refine TS.eff ?_; refine TSo.off rfl (Wt.not rfl rfl rfl rfl) rfl rfl ?_; refine TS.run 9 rfl ?_; refine TS.eff ?_; refine TSo.off rfl (Wt.not rfl rfl rfl rfl) rfl rfl ?_; refine TS.run 2 rfl ?_; refine TS.done ?_; refine K.pick [1] rfl (by decide) ?_; exact K.ad true hk (.c (.c (.c (.c (.c .nil))))) (List.Sublist.refl _)
            · have p8 := of_decide_eq_false h8; replace hk := zaa hk h8; refine TS.run 2 rfl ?_; refine TS.y rfl (Yv.an (i := i_4) rfl rfl rfl (SlD.mono (rep := GBid.rep) (fun _ _ _ _ => GBid.mono) hl le1_4).1 (SlD.mono (rep := GBid.rep) (fun _ _ _ _ => GBid.mono) hl le1_4).2.1 rfl (by omega)) ?_; refine TS.y rfl (Yv.aP rfl rfl (SlD.mono (rep := GBid.rep) (fun _ _ _ _ => GBid.mono) hl le1_4).1 (SlD.mono (rep := GBid.rep) (fun _ _ _ _ => GBid.mono) hl le1_4).2.1 (by omega)) ?_; refine TS.y rfl (Yv.aI 1 (i := i_4) (j := 0) rfl rfl rfl (SlD.mono (rep := GBid.rep) (fun _ _ _ _ => GBid.mono) hl le1_4).1 (SlD.mono (rep := GBid.rep) (fun _ _ _ _ => GBid.mono) hl le1_4).2.1 (by omega) rfl (GBid.c0 ((SlD.mono (rep := GBid.rep) (fun _ _ _ _ => GBid.mono) hl le1_4).2.2 i_4 (by omega)))) ?_; refine TS.run 4 rfl ?_; refine TS.gs rfl rfl rfl rfl (fun h9 => ?_) (fun h9 => ?_)
              · have p9 := of_decide_eq_true h9; replace hk := zab hk h9; refine TS.run 31 rfl ?_; refine TS.eff ?_; refine TSo.off rfl (Wt.not rfl rfl rfl rfl) rfl rfl ?_; refine TS.run 9 rfl ?_; refine TS.eff ?_; refine TSo.off rfl (Wt.not rfl rfl rfl rfl) rfl rfl ?_; refine TS.run 2 rfl ?_; refine TS.done ?_; refine K.pick [1] rfl (by decide) ?_; exact K.ad true hk (.c (.c (.c (.c (.c .nil))))) (List.Sublist.refl _)
              · have p9 := of_decide_eq_false h9; replace hk := zaa hk h9; refine TS.run 2 rfl ?_; refine TS.y rfl (Yv.an (i := i_4) rfl rfl rfl (SlD.mono (rep := GBid.rep) (fun _ _ _ _ => GBid.mono) hl le1_4).1 (SlD.mono (rep := GBid.rep) (fun _ _ _ _ => GBid.mono) hl le1_4).2.1 rfl (by omega)) ?_; refine TS.y rfl (Yv.aP rfl rfl (SlD.mono (rep := GBid.rep) (fun _ _ _ _ => GBid.mono) hl le1_4).1 (SlD.mono (rep := GBid.rep) (fun _ _ _ _ => GBid.mono) hl le1_4).2.1 (by omega)) ?_; refine TS.y rfl (Yv.aI 1 (i := i_4) (j := 1) rfl rfl rfl (SlD.mono (rep := GBid.rep) (fun _ _ _ _ => GBid.mono) hl le1_4).1 (SlD.mono (rep := GBid.rep) (fun _ _ _ _ => GBid.mono) hl le1_4).2.1 (by omega) rfl (GBid.c1 ((SlD.mono (rep := GBid.rep) (fun _ _ _ _ => GBid.mono) hl le1_4).2.2 i_4 (by omega)))) ?_; refine TS.run 2 rfl ?_; refine TS.y rfl (Yv.an (i := i_4) rfl rfl rfl (SlC.mono hwant le1_4) (List.length_map _) rfl (by omega)) ?_; refine TS.y rfl (Yv.aP rfl rfl (SlC.mono hwant le1_4) (List.length_map _) (by omega)) ?_; refine TS.y rfl (Yv.ai 1 (i := i_4) (j := 0) rfl rfl rfl (SlC.mono hwant le1_4) (by omega) rfl rfl) ?_; refine TS.run 3 rfl ?_; refine TS.gs rfl rfl rfl rfl (fun h10 => ?_) (fun h10 => ?_)
                · have p10 := of_decide_eq_true h10; replace hk := zab hk h10; refine TS.run 18 rfl ?_; refine TS.eff ?_; refine TSo.off rfl (Wt.not rfl rfl rfl rfl) rfl rfl ?_; refine TS.run 9 rfl ?_; refine TS.eff ?_; refine TSo.off rfl (Wt.not rfl rfl rfl rfl) rfl rfl ?_; refine TS.run 2 rfl ?_; refine TS.done ?_; refine K.pick [1] rfl (by decide) ?_; exact K.ad true hk (.c (.c (.c (.c (.c .nil))))) (List.Sublist.refl _)
                · have p10 := of_decide_eq_false h10; replace hk := zaa hk h10; refine TS.run 2 rfl ?_; refine TS.y rfl (Yv.an (i := i_4) rfl rfl rfl (SlD.mono (rep := GBid.rep) (fun _ _ _ _ => GBid.mono) hl le1_4).1 (SlD.mono (rep := GBid.rep) (fun _ _ _ _ => GBid.mono) hl le1_4).2.1 rfl (by omega)) ?_; refine TS.y rfl (Yv.aP rfl rfl (SlD.mono (rep := GBid.rep) (fun _ _ _ _ => GBid.mono) hl le1_4).1 (SlD.mono (rep := GBid.rep) (fun _ _ _ _ => GBid.mono) hl le1_4).2.1 (by omega)) ?_; refine TS.y rfl (Yv.aI 1 (i := i_4) (j := 2) rfl rfl rfl (SlD.mono (rep := GBid.rep) (fun _ _ _ _ => GBid.mono) hl le1_4).1 (SlD.mono (rep := GBid.rep) (fun _ _ _ _ => GBid.mono) hl le1_4).2.1 (by omega) rfl (GBid.c2 ((SlD.mono (rep := GBid.rep) (fun _ _ _ _ => GBid.mono) hl le1_4).2.2 i_4 (by omega)))) ?_; refine TS.run 2 rfl ?_; refine TS.y rfl (Yv.an (i := i_4) rfl rfl rfl (SlC.mono hwant le1_4) (List.length_map _) rfl (by omega)) ?_; refine TS.y rfl (Yv.aP rfl rfl (SlC.mono hwant le1_4) (List.length_map _) (by omega)) ?_; refine TS.y rfl (Yv.ai 1 (i := i_4) (j := 1) rfl rfl rfl (SlC.mono hwant le1_4) (by omega) rfl rfl) ?_; refine TS.run 3 rfl ?_; refine TS.gs rfl rfl rfl rfl (fun h11 => ?_) (fun h11 => ?_)
                  · have p11 := of_decide_eq_true h11; replace hk := zab hk h11; refine TS.run 5 rfl ?_; refine TS.eff ?_; refine TSo.off rfl (Wt.not rfl rfl rfl rfl) rfl rfl ?_; refine TS.run 9 rfl ?_; refine TS.eff ?_; refine TSo.off rfl (Wt.not rfl rfl rfl rfl) rfl rfl ?_; refine TS.run 2 rfl ?_; refine TS.done ?_; refine K.pick [1] rfl (by decide) ?_; exact K.ad true hk (.c (.c (.c (.c (.c .nil))))) (List.Sublist.refl _)
                  · have p11 := of_decide_eq_false h11; replace hk := zaa hk h11; refine TS.run 2 rfl ?_; refine TS.y rfl (Yv.an (i := i_4) rfl rfl rfl (SlD.mono (rep := GBid.rep) (fun _ _ _ _ => GBid.mono) hl le1_4).1 (SlD.mono (rep := GBid.rep) (fun _ _ _ _ => GBid.mono) hl le1_4).2.1 rfl (by omega)) ?_; refine TS.y rfl (Yv.aP rfl rfl (SlD.mono (rep := GBid.rep) (fun _ _ _ _ => GBid.mono) hl le1_4).1 (SlD.mono (rep := GBid.rep) (fun _ _ _ _ => GBid.mono) hl le1_4).2.1 (by omega)) ?_; refine TS.y rfl (Yv.bg 1 (i := i_4) (j := 3) rfl rfl rfl (SlD.mono (rep := GBid.rep) (fun _ _ _ _ => GBid.mono) hl le1_4).1 (SlD.mono (rep := GBid.rep) (fun _ _ _ _ => GBid.mono) hl le1_4).2.1 (by omega) rfl ((zez (GBid.form ((SlD.mono (rep := GBid.rep) (fun _ _ _ _ => GBid.mono) hl le1_4).2.2 i_4 (by omega))) (j := 3) (q := 4) (by decide)).trans rfl) rfl) ?_; have hd72_4 := (GBid.c4 ((SlD.mono (rep := GBid.rep) (fun _ _ _ _ => GBid.mono) hl le1_4).2.2 i_4 (by omega))).2; haveI := hd72_4.oneC; have hd72_6 := (GBid.c6 ((SlD.mono (rep := GBid.rep) (fun _ _ _ _ => GBid.mono) hl le1_4).2.2 i_4 (by omega))).2; haveI := hd72_6.oneC; refine TS.eff ?_; have hq := zad hk; clear hk; obtain ⟨r73, hr73, hk⟩ := hq; refine TSo.ay rfl (Wt.some rfl rfl rfl rfl) rfl rfl (Ew.aj rfl rfl rfl (fun w hw => zcz _ w (hw.fr (i := 1) rfl) ((nth l i_4).Point) (nth (nth cl i_4) 4) hd72_4 (nth (nth cl i_4) 6) hd72_6 fuel r73 hr73)) ?_; rintro _ _ ⟨rfl, rfl⟩; refine ⟨(fun w hw => hw.sub Sx), ?_⟩; refine TS.run 3 rfl ?_; refine TS.gs rfl rfl rfl rfl (fun h12 => ?_) (fun h12 => ?_)
                    · replace hk := zab hk h12; refine TS.run 6 rfl ?_; refine TS.eff ?_; refine TSo.off rfl (Wt.not rfl rfl rfl rfl) rfl rfl ?_; refine TS.run 2 rfl ?_; refine TS.done ?_; refine K.pick [1] rfl (by decide) ?_; exact K.ad true hk (.c (.c (.c (.c (.c .nil))))) (List.Sublist.refl _)
                    · replace hk := zaa hk h12; refine TS.run 2 rfl ?_; refine TS.y rfl (Yv.an (i := i_4) rfl rfl rfl (SlD.mono (rep := GBid.rep) (fun _ _ _ _ => GBid.mono) hl le1_4).1 (SlD.mono (rep := GBid.rep) (fun _ _ _ _ => GBid.mono) hl le1_4).2.1 rfl (by omega)) ?_; refine TS.y rfl (Yv.aP rfl rfl (SlD.mono (rep := GBid.rep) (fun _ _ _ _ => GBid.mono) hl le1_4).1 (SlD.mono (rep := GBid.rep) (fun _ _ _ _ => GBid.mono) hl le1_4).2.1 (by omega)) ?_; refine TS.y rfl (Yv.bg 1 (i := i_4) (j := 3) rfl rfl rfl (SlD.mono (rep := GBid.rep) (fun _ _ _ _ => GBid.mono) hl le1_4).1 (SlD.mono (rep := GBid.rep) (fun _ _ _ _ => GBid.mono) hl le1_4).2.1 (by omega) rfl ((zez (GBid.form ((SlD.mono (rep := GBid.rep) (fun _ _ _ _ => GBid.mono) hl le1_4).2.2 i_4 (by omega))) (j := 3) (q := 4) (by decide)).trans rfl) rfl) ?_; refine TS.y rfl (Yv.al 0 rfl rfl rfl rfl) ?_; refine TS.eff ?_; have hq := zad hk; clear hk; obtain ⟨r83, hr83, hk⟩ := hq; refine TSo.ay rfl (Wt.some rfl rfl rfl rfl) rfl rfl (Ew.aj rfl rfl rfl (fun w hw => zd2 _ w (hw.fr (i := 1) rfl) ((nth l i_4).Point) (nth (nth cl i_4) 4) hd72_4 (nth (nth cl i_4) 6) hd72_6 r27.1 v27_0_1 hf27_0_1 v27_0_3 hf27_0_3 fuel r83 hr83)) ?_; rintro _ _ ⟨rfl, rfl⟩; refine ⟨(fun w hw => hw.sub Sx), ?_⟩; refine TS.run 2 rfl ?_; refine TS.done ?_; refine K.pick [1] rfl (by decide) ?_; exact K.ad (decide (¬ r83 = 0)) hk (.c (.c (.c (.c (.c .nil))))) (List.Sublist.refl _)
          · rintro x_6 hk; rw [← hk7] at hk; (try dsimp only at hk); refine T.cond rfl (fun h13 => ?_) (fun h13 => ?_)
            · replace hk := zab hk h13; refine T.sr ?_; refine TL.run 1 rfl ?_; refine TL.ns (T.ret (K.ah (K.a (K.a (K.ah (K.a ?_)))))); obtain rfl := Option.some.inj hk; exact K.ak rfl rfl (fun w' hw => ⟨rfl, hw.isBelow⟩)
            · replace hk := zaa hk h13; refine T.skip (K.ab (K.seq (T.region ?_))); refine TL.run 1 rfl ?_; refine TL.y (Yv.av rfl rfl rfl (by omega)) ?_; refine TL.run 1 rfl ?_; refine TL.nil ?_; rw [← hn3] at hk; exact K.next ((i_4 + 1), F4) ⟨hk, le1_4⟩ (by dsimp only; omega) (.c (.c (.c (.c .nil)))) (List.Sublist.refl _)
        · have p5 := of_decide_eq_false h5; rw [zaB (by omega), ← hkk3] at hk; (try dsimp only at hk); refine T.exit (K.aa (K.aa (K.ac ?_))); exact K.ad F3 ⟨hk, le1_3⟩ .nil (List.Sublist.refl _)
    · rintro F2 ⟨hk, le1_2⟩; rw [← hk2] at hk; (try dsimp only at hk); refine T.sr ?_; refine TL.run 1 rfl ?_; refine TL.ns (T.ret ?_); obtain rfl := Option.some.inj hk; exact K.ak rfl rfl (fun w' hw => ⟨rfl, hw.isBelow⟩)
def zbz (fuel : Nat)  : Option Bool :=
  (zb8 (GStationPlan.mk 7 3 [0, 10, 20, 100]) 0 [90, 70, 85, 0]).bind fun r23 =>
  (zbH fuel (GStationPlan.mk 7 3 [0, 10, 20, 100]) 0 [90, 70, 85, 0]).bind fun r29 =>
  (bif ((((((decide (¬ r23.1 = 90)) || (decide (¬ r23.2 = 0))) || (decide (¬ r29.2 = 0))) || (decide (¬ r29.1.Station = 7))) || (decide (¬ r29.1.Preferred = 2))) || (!(zbg r29.1.Fallbacks [3, 0, 1]))) then
    some false
    else
    zao (fun (_ : Unit) =>
      (zbc fuel (GBidderPlan.mk 2 1000 [[9, 7, 2]]) [(GProduct.mk 1 1 3 1 0)] [2] [5] [10]).bind fun r98 =>
      zao (fun (x_13 : Bool) =>
        (bif x_13 then
          some false
          else
          (zaI fuel (GBidderPlan.mk 2 9 [[9, 7, 2]]) [(GProduct.mk 1 1 3 1 0)] [5]).bind fun r116 =>
          some ((decide (r116.2 = 0)) && (zbg r116.1 [1]))))
      (fun k14 =>
        (bif decide (¬ r98.2 = 0) then
          k14 true
          else
          (zbM fuel r98.1 2 [(GRow.mk 0 (-1) 400), (GRow.mk 0 (-1) 800)]).bind fun r108 =>
          k14 (!r108))))
    (fun k7 =>
      zak (fun (i_9 : Nat) (next8 : Unit → Option Bool) (_ : Unit) =>
        grd (0 ≤ (i_9 : Int) ∧ (i_9 : Int) < ([2, 2, 0].length : Int)) <|
        grd (0 ≤ (i_9 : Int) ∧ (i_9 : Int) < ([5, 7, 10].length : Int)) <|
        (zaI fuel (GBidderPlan.mk 2 1000 [[9, 7, 2]]) [(GProduct.mk 1 1 3 1 0)] [(nth [5, 7, 10] i_9)]).bind fun r79 =>
        (bif ((decide (¬ r79.2 = 0)) || (!(zbg r79.1 [(nth [2, 2, 0] i_9)]))) then
          some false
          else
          next8 ()))
      (fun (_ : Unit) =>
        k7 ()) (3 - 0) 0 ()))
theorem zda (F0 : Frz) (w : World) (hF0 : F0.At w)  (fuel : Nat) (r : Bool) (hr : zbz fuel = some r) : Calls Tryz.prog 7 #[] w fun e w' => e = .returned (.bool r) ∧ Below w.heap.size w w' := by
  have hk := hr; unfold zbz at hk; obtain ⟨S0, F1, rfl, hS0, hp0⟩ := zag hF0; refine zaj Tryz.func7 rfl rfl rfl hp0 ?_; refine T.sr ?_; refine TL.run 1 rfl ?_; refine TL.nx ?_; refine TL.e (Ew.buildSlice rfl rfl rfl (by decide)) ?_; rintro _ _ ⟨g17, rfl, rfl⟩; refine TL.y (Yv.build rfl rfl) ?_; refine TL.e (Ew.alloc rfl) ?_; rintro _ _ ⟨g1, rfl, rfl⟩; refine TL.e0 (Ew.ag 0 rfl rfl rfl rfl rfl rfl) ?_; rintro _ _ ⟨rfl, rfl⟩; refine TL.nx ?_; refine TL.e (Ew.buildSlice rfl rfl rfl (by decide)) ?_; rintro _ _ ⟨g19, rfl, rfl⟩; refine TL.run 1 rfl ?_; refine TL.ns (T.seq ?_); refine T.az (fun w hw => hw.freezeR (i := 3) (j := 2) (by decide) rfl rfl) ?_; rintro F2 ⟨le1_2, hz2⟩; dsimp only [List.set, List.eraseIdx]; have hfF2 : SlC F2.toFrz (.slice (some ⟨g17, 0, none⟩) 4 4) 1 ([0, 10, 20, 100].map eI) := (SlK.lit hz2 rfl (Nat.le_refl _) (by decide)).toF (xs := [0, 10, 20, 100]) rfl (fun _ => rfl); refine T.az (fun w hw => hw.freezeR (i := 2) (j := 0) (by decide) rfl rfl) ?_; rintro F3 ⟨le2_3, hz3⟩; dsimp only [List.set, List.eraseIdx]; have hfF3 : SlC F3.toFrz (.slice (some ⟨g19, 0, none⟩) 4 4) 1 ([90, 70, 85, 0].map eI) := (SlK.lit hz3 rfl (Nat.le_refl _) (by decide)).toF (xs := [90, 70, 85, 0]) rfl (fun _ => rfl); have hq := zad hk; clear hk; obtain ⟨r23, hr23, hk⟩ := hq; (try dsimp only at hk); refine T.region ?_; refine TL.y (Yv.al 0 rfl rfl rfl rfl) ?_; refine TL.run 1 rfl ?_; refine TL.e (Ew.aj rfl rfl rfl (fun w hw => zdC _ w (hw.fr (i := 1) rfl) (GStationPlan.mk 7 3 [0, 10, 20, 100]) (.slice (some ⟨g17, 0, none⟩) 4 4) (SlC.mono hfF2 le2_3) 0 [90, 70, 85, 0] (.slice (some ⟨g19, 0, none⟩) 4 4) hfF3 r23 hr23)) ?_; rintro _ _ ⟨rfl, rfl⟩; refine TL.run 5 rfl ?_; refine TL.ns (T.seq ?_); have hq := zad hk; clear hk; obtain ⟨r29, hr29, hk⟩ := hq; (try dsimp only at hk); refine T.region ?_; refine TL.y (Yv.al 0 rfl rfl rfl rfl) ?_; refine TL.run 1 rfl ?_; refine TL.e (Ew.ao 1 rfl rfl rfl rfl (fun w hw hF => zcX _ w hF (GStationPlan.mk 7 3 [0, 10, 20, 100]) (.slice (some ⟨g17, 0, none⟩) 4 4) (SlC.mono hfF2 le2_3) 0 [90, 70, 85, 0] (.slice (some ⟨g19, 0, none⟩) 4 4) hfF3 fuel r29 hr29)) ?_; rintro _ _ ⟨v29_0_2, F4, le3_4, hf29_0_2, rfl, rfl⟩; haveI := hf29_0_2.oneC; refine TL.run 3 rfl ?_; refine TL.e (Ew.alloc rfl) ?_; rintro _ _ ⟨g5, rfl, rfl⟩; refine TL.e0 (Ew.ag 0 rfl rfl rfl rfl rfl rfl) ?_; rintro _ _ ⟨rfl, rfl⟩; refine TL.run 1 rfl ?_; refine TL.ns (T.seq (T.seq ?_)); refine T.ae (ι := FzB w (fun _ => False) S0) (fun z => [(58, .bool ((((((decide (¬ r23.1 = 90)) || (decide (¬ r23.2 = 0))) || (decide (¬ r29.2 = 0))) || (decide (¬ r29.1.Station = 7))) || (decide (¬ r29.1.Preferred = 2))) || (!(zbg r29.1.Fallbacks [3, 0, 1]))))]) (fun z => [.row g5 52 [.int .i64 r29.1.Station, .int .i64 r29.1.Preferred, v29_0_2], .row g1 39 [.int .i64 7, .int .i64 3, (.slice (some ⟨g17, 0, none⟩) 4 4)], .fr z]) (fun z => F4.toFrz.Le z.toFrz) ?_ ?_
  · refine T.region ?_; refine TL.run 3 rfl ?_; refine TL.gs rfl rfl rfl (fun h1 => ?_) (fun h1 => ?_)
    · have p1 := of_decide_eq_true h1; refine TL.run 24 rfl ?_; refine TL.nil ?_; exact K.ad F4 (Frz.Le.refl _) (.b (zal (zal (zal (zal (zal h1))))).symm .nil) (List.Sublist.refl _)
    · have p1 := of_decide_eq_false h1; refine TL.run 4 rfl ?_; refine TL.gs rfl rfl rfl (fun h2 => ?_) (fun h2 => ?_)
      · have p2 := of_decide_eq_true h2; refine TL.run 20 rfl ?_; refine TL.nil ?_; exact K.ad F4 (Frz.Le.refl _) (.b (zal (zal (zal (zal (zau h1 h2))))).symm .nil) (List.Sublist.refl _)
      · have p2 := of_decide_eq_false h2; refine TL.run 4 rfl ?_; refine TL.gs rfl rfl rfl (fun h3 => ?_) (fun h3 => ?_)
        · have p3 := of_decide_eq_true h3; refine TL.run 16 rfl ?_; refine TL.nil ?_; exact K.ad F4 (Frz.Le.refl _) (.b (zal (zal (zal (zau (zau h1 h2) h3)))).symm .nil) (List.Sublist.refl _)
        · have p3 := of_decide_eq_false h3; refine TL.y (Yv.fieldAddr rfl rfl) ?_; refine TL.y (Yv.af 0 rfl rfl rfl rfl) ?_; refine TL.run 3 rfl ?_; refine TL.gs rfl rfl rfl (fun h4 => ?_) (fun h4 => ?_)
          · have p4 := of_decide_eq_true h4; refine TL.run 11 rfl ?_; refine TL.nil ?_; exact K.ad F4 (Frz.Le.refl _) (.b (zal (zal (zau (zau (zau h1 h2) h3) h4))).symm .nil) (List.Sublist.refl _)
          · have p4 := of_decide_eq_false h4; refine TL.y (Yv.fieldAddr rfl rfl) ?_; refine TL.y (Yv.af 0 rfl rfl rfl rfl) ?_; refine TL.run 3 rfl ?_; refine TL.gs rfl rfl rfl (fun h5 => ?_) (fun h5 => ?_)
            · have p5 := of_decide_eq_true h5; refine TL.run 6 rfl ?_; refine TL.nil ?_; exact K.ad F4 (Frz.Le.refl _) (.b (zal (zau (zau (zau (zau h1 h2) h3) h4) h5)).symm .nil) (List.Sublist.refl _)
            · have p5 := of_decide_eq_false h5; refine TL.y (Yv.fieldAddr rfl rfl) ?_; refine TL.y (Yv.af 0 rfl rfl rfl rfl) ?_; refine TL.e (Ew.buildSlice rfl rfl rfl (by decide)) ?_; rintro _ _ ⟨g55, rfl, rfl⟩; refine TL.az (fun w hw => hw.freezeR (i := 3) (j := 0) (by decide) rfl rfl) ?_; rintro F6 ⟨le4_6, hz6⟩; dsimp only [List.set, List.eraseIdx]; have hfF6 : SlC F6.toFrz (.slice (some ⟨g55, 0, none⟩) 3 3) 1 ([3, 0, 1].map eI) := (SlK.lit hz6 rfl (Nat.le_refl _) (by decide)).toF (xs := [3, 0, 1]) rfl (fun _ => rfl); refine TL.e (Ew.aj rfl rfl rfl (fun w hw => zcL _ w (hw.fr (i := 2) rfl) r29.1.Fallbacks v29_0_2 (SlC.mono hf29_0_2 le4_6) [3, 0, 1] (.slice (some ⟨g55, 0, none⟩) 3 3) hfF6)) ?_; rintro _ _ ⟨rfl, rfl⟩; refine TL.run 2 rfl ?_; refine TL.nil ?_; exact K.ad F6 le4_6 (.b (or_f (zau (zau (zau (zau h1 h2) h3) h4) h5)) .nil) (List.Sublist.refl _)
  · rintro F5 le4_5; (try dsimp only at *); refine T.cond rfl (fun h6 => ?_) (fun h6 => ?_)
    · replace hk := zab hk h6; refine T.sr ?_; refine TL.run 1 rfl ?_; refine TL.ns (T.ret (K.a ?_)); obtain rfl := Option.some.inj hk; exact K.ak rfl rfl (fun w' hw => ⟨rfl, hw.isBelow⟩)
    · have p6 := h6; (try simp only [nfB] at p6); replace hk := zaa hk h6; refine T.skip (K.seq (T.sr ?_)); refine TL.y (Yv.build rfl rfl) ?_; refine TL.e (Ew.buildSlice rfl rfl rfl (by decide)) ?_; rintro _ _ ⟨g60, rfl, rfl⟩; refine TL.run 1 rfl ?_; refine TL.nx ?_; refine TL.e (Ew.buildSlice rfl rfl rfl (by decide)) ?_; rintro _ _ ⟨g61, rfl, rfl⟩; refine TL.az (fun w hw => hw.freezeR (i := 4) (j := 0) (by decide) rfl rfl) ?_; rintro F7 ⟨le5_7, hz7⟩; dsimp only [List.set, List.eraseIdx]; have hfF7 : SlC F7.toFrz (.slice (some ⟨g61, 0, none⟩) 3 3) 1 ([9, 7, 2].map eI) := (SlK.lit hz7 rfl (Nat.le_refl _) (by decide)).toF (xs := [9, 7, 2]) rfl (fun _ => rfl); refine TL.e (Ew.buildSlice rfl rfl rfl (by decide)) ?_; rintro _ _ ⟨g62, rfl, rfl⟩; have hl62 : OwnD R_List_Int.rep F7.toFrz 1 [[(.slice (some ⟨g61, 0, none⟩) 3 3)]] [[9, 7, 2]] := (OwnD.snoc (OwnD.nil _ _ 1) ⟨_, rfl, hfF7⟩ rfl); refine TL.y (Yv.build rfl rfl) ?_; refine TL.e (Ew.alloc rfl) ?_; rintro _ _ ⟨g8, rfl, rfl⟩; refine TL.e0 (Ew.ag 0 rfl rfl rfl rfl rfl rfl) ?_; rintro _ _ ⟨rfl, rfl⟩; refine TL.ns (T.seq (T.sr ?_)); refine TL.e (Ew.buildSlice rfl rfl rfl (by decide)) ?_; rintro _ _ ⟨g64, rfl, rfl⟩; refine TL.y (Yv.be rfl rfl) ?_; refine TL.run 1 rfl ?_; refine TL.ns ?_; refine T.az (fun w hw => hw.freezeR (i := 6) (j := 3) (by decide) rfl rfl) ?_; rintro F8 ⟨le7_8, hz8⟩; dsimp only [List.set, List.eraseIdx]; have hfF8 : SlC F8.toFrz (.slice (some ⟨g60, 0, none⟩) 1 1) 5 ([(GProduct.mk 1 1 3 1 0)].map GProduct.enc) := (SlK.lit hz8 rfl (Nat.le_refl _) (by decide)).toF (xs := [(GProduct.mk 1 1 3 1 0)]) rfl GProduct.len; refine T.az (fun w hw => hw.freezeR (i := 5) (j := 2) (by decide) rfl rfl) ?_; rintro F9 ⟨le8_9, hz9⟩; dsimp only [List.set, List.eraseIdx]; have le7_9 := le7_8.trans le8_9; have hfF9 : SlD R_List_Int.rep F9.toFrz (.slice (some ⟨g62, 0, none⟩) 1 1) 1 [[(.slice (some ⟨g61, 0, none⟩) 3 3)]] [[9, 7, 2]] := (SlK.lit hz9 rfl (Nat.le_refl _) (by decide)).toD (OwnD.mono (rep := R_List_Int.rep) (fun _ _ _ _ => R_List_Int.mono) hl62 le7_9) rfl; refine T.az (fun w hw => hw.freezeR (i := 4) (j := 0) (by decide) rfl rfl) ?_; rintro F10 ⟨le9_10, hz10⟩; dsimp only [List.set, List.eraseIdx]; have le8_10 := le8_9.trans le9_10; have hfF10 : SlC F10.toFrz (.slice (some ⟨g64, 0, none⟩) 3 3) 1 ([2, 2, 0].map eI) := (SlK.lit hz10 rfl (Nat.le_refl _) (by decide)).toF (xs := [2, 2, 0]) rfl (fun _ => rfl); have hq := zae hk; clear hk; obtain ⟨k7, hk7, hk⟩ := hq; (try dsimp only at hk); refine T.ae (ι := FzB w (fun _ => False) S0) (fun z => [(7, (.slice (some ⟨g60, 0, none⟩) 1 1)), (8, .pointer (some ⟨g8, 0, none⟩))]) (fun z => [.row g8 24 [.int .i64 2, .int .i64 1000, (.slice (some ⟨g62, 0, none⟩) 1 1)], .fr z]) (fun z => k7 () = some r ∧ F10.toFrz.Le z.toFrz) ?_ ?_
      · have hq := zan hk; clear hk; obtain ⟨f8, kk8, hf8, hkk8, hk⟩ := hq; refine T.block ?_; refine T.pick [0, 3] rfl (by decide) ?_; refine T.loop (ι := Nat × FzB w (fun _ => False) S0) (fun z => [(7, (.slice (some ⟨g60, 0, none⟩) 1 1)), (8, .pointer (some ⟨g8, 0, none⟩)), (64, (.slice (some ⟨g64, 0, none⟩) 3 3)), (65, .int .i64 3), (66, .int .i64 (z.1 : Int))]) (fun z => [.row g8 24 [.int .i64 2, .int .i64 1000, (.slice (some ⟨g62, 0, none⟩) 1 1)], .fr z.2]) (fun z => zak f8 kk8 (3 - z.1) z.1 () = some r ∧ F10.toFrz.Le z.2.toFrz) (fun z => 3 - z.1) (0, F10) ?_ ?_ ?_ ?_
        · exact ⟨hk, (Frz.Le.refl _)⟩
        · exact (.c (.c (.c (.c (.c .nil)))))
        · exact List.Sublist.refl _
        · rintro ⟨i_9, F12⟩ ⟨hk, le10_12⟩; (try dsimp only at *); have le8_12 := le8_10.trans le10_12; have le9_12 := le9_10.trans le10_12; refine T.sr ?_; refine TL.run 1 rfl ?_; refine TL.ns (T.seq ?_); refine T.cond rfl (fun h10 => ?_) (fun h10 => ?_)
          · have p10 := of_decide_eq_true h10; rw [zaC (by omega)] at hk; generalize hn8 : zak f8 kk8 (3 - (i_9 + 1)) (i_9 + 1) = next8 at hk; rw [← hf8] at hk; (try dsimp only at hk); refine T.skip (K.seq (T.seq (T.block (T.seq ?_)))); have hq : (0 ≤ (i_9 : Int) ∧ (i_9 : Int) < ([2, 2, 0].length : Int)) ∧ _ := zaf hk; clear hk; obtain ⟨g69, hk⟩ := hq; (try dsimp only at hk); refine T.region ?_; refine TL.run 1 rfl ?_; refine TL.y (Yv.an (i := i_9) rfl rfl rfl (SlC.mono hfF10 le10_12) (List.length_map _) rfl (by omega)) ?_; refine TL.y (Yv.ai 1 (i := i_9) (j := 0) rfl rfl rfl (SlC.mono hfF10 le10_12) (by omega) rfl rfl) ?_; refine TL.run 2 rfl ?_; refine TL.ns (T.seq ?_); have hq : (0 ≤ (i_9 : Int) ∧ (i_9 : Int) < ([5, 7, 10].length : Int)) ∧ _ := zaf hk; clear hk; obtain ⟨g76, hk⟩ := hq; have hq := zad hk; clear hk; obtain ⟨r79, hr79, hk⟩ := hq; (try dsimp only at hk); refine T.aw (.still 0 (.still 1 (.still 3 (.eff 2 (.still 4 (.eff 5 (.eff 6 (.eff 7 (.still 8 (.still 9 (.still 10 (.still 11 (.still 12 .done))))))))))))) _ (by kernel_rfl) (List.Sublist.refl _) ?_; refine TS.y rfl (Yv.al 0 rfl rfl rfl rfl) ?_; refine TS.run 2 rfl ?_; refine TS.eff ?_; refine TSo.ay rfl (Wt.none rfl) rfl rfl (Ew.buildSlice rfl rfl rfl (by decide)) ?_; rintro _ _ ⟨g74, rfl, rfl⟩; refine ⟨(fun w hw => hw.sub Sx), ?_⟩; refine TS.az (fun w hw => hw.freezeR (i := 2) (j := 0) (by decide) rfl rfl) ?_; rintro F13 ⟨le12_13, hz13⟩; dsimp only [List.set, List.eraseIdx]; have le8_13 := le8_12.trans le12_13; have le9_13 := le9_12.trans le12_13; have le10_13 := le10_12.trans le12_13; have hfF13 : SlC F13.toFrz (.slice (some ⟨g74, 0, none⟩) 3 3) 1 ([5, 7, 10].map eI) := (SlK.lit hz13 rfl (Nat.le_refl _) (by decide)).toF (xs := [5, 7, 10]) rfl (fun _ => rfl); refine TS.y rfl (Yv.an (i := i_9) rfl rfl rfl hfF13 (List.length_map _) rfl (by omega)) ?_; refine TS.eff ?_; refine TSo.aA rfl (Wt.none rfl) rfl rfl (Yv.ai 1 (i := i_9) (j := 0) rfl rfl rfl hfF13 (by omega) rfl rfl) (fun w hw => (hw.frLe (i := 1) rfl le12_13).sub Sx) ?_; refine TS.eff ?_; refine TSo.ay rfl (Wt.none rfl) rfl rfl (Ew.buildSlice rfl rfl rfl (by decide)) ?_; rintro _ _ ⟨g78, rfl, rfl⟩; refine ⟨(fun w hw => (hw.frLe (i := 2) rfl le12_13).sub Sx), ?_⟩; refine TS.az (fun w hw => hw.freezeR (i := 2) (j := 0) (by decide) rfl rfl) ?_; rintro F14 ⟨le13_14, hz14⟩; dsimp only [List.set, List.eraseIdx]; have le8_14 := le8_13.trans le13_14; have le9_14 := le9_13.trans le13_14; have le10_14 := le10_13.trans le13_14; have le12_14 := le12_13.trans le13_14; have hfF14 : SlC F14.toFrz (.slice (some ⟨g78, 0, none⟩) 1 1) 1 ([(nth [5, 7, 10] i_9)].map eI) := (SlK.lit hz14 rfl (Nat.le_refl _) (by decide)).toF (xs := [(nth [5, 7, 10] i_9)]) rfl (fun _ => rfl); refine TS.eff ?_; refine TSo.ay rfl (Wt.none rfl) rfl rfl (Ew.ao 1 rfl rfl rfl rfl (fun w hw hF => zcO _ w hF (GBidderPlan.mk 2 1000 [[9, 7, 2]]) (.slice (some ⟨g62, 0, none⟩) 1 1) [[(.slice (some ⟨g61, 0, none⟩) 3 3)]] (SlD.mono (rep := R_List_Int.rep) (fun _ _ _ _ => R_List_Int.mono) hfF9 le9_14) [(GProduct.mk 1 1 3 1 0)] (.slice (some ⟨g60, 0, none⟩) 1 1) (SlC.mono hfF8 le8_14) [(nth [5, 7, 10] i_9)] (.slice (some ⟨g78, 0, none⟩) 1 1) hfF14 fuel r79 hr79)) ?_; rintro _ _ ⟨v79_0_0, F15, le14_15, hf79_0_0, rfl, rfl⟩; have le10_15 := le10_14.trans le14_15; have le12_15 := le12_14.trans le14_15; haveI := hf79_0_0.oneC; refine ⟨(fun w hw => (hw.frLe (i := 1) rfl le12_15).sub Sx), ?_⟩; refine TS.run 5 rfl ?_; refine TS.done ?_; refine K.seq (T.seq ?_); refine T.ae (ι := FzB w (fun _ => False) S0) (fun z => [(7, (.slice (some ⟨g60, 0, none⟩) 1 1)), (8, .pointer (some ⟨g8, 0, none⟩)), (64, (.slice (some ⟨g64, 0, none⟩) 3 3)), (65, .int .i64 3), (66, .int .i64 (i_9 : Int)), (90, .bool ((decide (¬ r79.2 = 0)) || (!(zbg r79.1 [(nth [2, 2, 0] i_9)]))))]) (fun z => [.row g8 24 [.int .i64 2, .int .i64 1000, (.slice (some ⟨g62, 0, none⟩) 1 1)], .fr z]) (fun z => F15.toFrz.Le z.toFrz) ?_ ?_
            · refine T.region ?_; refine TL.run 3 rfl ?_; refine TL.gs rfl rfl rfl (fun h11 => ?_) (fun h11 => ?_)
              · have p11 := of_decide_eq_true h11; refine TL.run 6 rfl ?_; refine TL.nil ?_; exact K.ad F15 (Frz.Le.refl _) (.c (.c (.c (.c (.c (.b (zal h11).symm .nil)))))) (List.Sublist.refl _)
              · have p11 := of_decide_eq_false h11; refine TL.run 2 rfl ?_; refine TL.e (Ew.buildSlice rfl rfl rfl (by decide)) ?_; rintro _ _ ⟨g87, rfl, rfl⟩; refine TL.az (fun w hw => hw.freezeR (i := 2) (j := 0) (by decide) rfl rfl) ?_; rintro F17 ⟨le15_17, hz17⟩; dsimp only [List.set, List.eraseIdx]; have hfF17 : SlC F17.toFrz (.slice (some ⟨g87, 0, none⟩) 1 1) 1 ([(nth [2, 2, 0] i_9)].map eI) := (SlK.lit hz17 rfl (Nat.le_refl _) (by decide)).toF (xs := [(nth [2, 2, 0] i_9)]) rfl (fun _ => rfl); refine TL.e (Ew.aj rfl rfl rfl (fun w hw => zcL _ w (hw.fr (i := 1) rfl) r79.1 v79_0_0 (SlC.mono hf79_0_0 le15_17) [(nth [2, 2, 0] i_9)] (.slice (some ⟨g87, 0, none⟩) 1 1) hfF17)) ?_; rintro _ _ ⟨rfl, rfl⟩; refine TL.run 2 rfl ?_; refine TL.nil ?_; exact K.ad F17 le15_17 (.c (.c (.c (.c (.c (.b (or_f h11) .nil)))))) (List.Sublist.refl _)
            · rintro F16 le15_16; (try dsimp only at *); have le10_16 := le10_15.trans le15_16; refine T.cond rfl (fun h12 => ?_) (fun h12 => ?_)
              · replace hk := zab hk h12; refine T.sr ?_; refine TL.run 1 rfl ?_; refine TL.ns (T.ret (K.ah (K.a (K.a (K.ah (K.a ?_)))))); obtain rfl := Option.some.inj hk; exact K.ak rfl rfl (fun w' hw => ⟨rfl, hw.isBelow⟩)
              · have p12 := h12; (try simp only [nfB] at p12); replace hk := zaa hk h12; refine T.skip (K.ab (K.seq (T.region ?_))); refine TL.y (Yv.av rfl rfl rfl (by omega)) ?_; refine TL.run 1 rfl ?_; refine TL.nil ?_; rw [← hn8] at hk; exact K.next ((i_9 + 1), F16) ⟨hk, le10_16⟩ (by dsimp only; omega) (.c (.c (.c (.c (.c .nil))))) (List.Sublist.refl _)
          · have p10 := of_decide_eq_false h10; rw [zaB (by omega), ← hkk8] at hk; (try dsimp only at hk); refine T.exit (K.aa (K.aa (K.ac ?_))); exact K.ad F12 ⟨hk, le10_12⟩ (.c (.c .nil)) (List.Sublist.refl _)
      · rintro F11 ⟨hk, le10_11⟩; rw [← hk7] at hk; (try dsimp only at hk); have le8_11 := le8_10.trans le10_11; have le9_11 := le9_10.trans le10_11; refine T.seq ?_; have hq := zad hk; clear hk; obtain ⟨r98, hr98, hk⟩ := hq; (try dsimp only at hk); refine T.region ?_; refine TL.y (Yv.al 0 rfl rfl rfl rfl) ?_; refine TL.run 1 rfl ?_; refine TL.e (Ew.buildSlice rfl rfl rfl (by decide)) ?_; rintro _ _ ⟨g95, rfl, rfl⟩; refine TL.az (fun w hw => hw.freezeR (i := 2) (j := 0) (by decide) rfl rfl) ?_; rintro F18 ⟨le11_18, hz18⟩; dsimp only [List.set, List.eraseIdx]; have le8_18 := le8_11.trans le11_18; have le9_18 := le9_11.trans le11_18; have hfF18 : SlC F18.toFrz (.slice (some ⟨g95, 0, none⟩) 1 1) 1 ([2].map eI) := (SlK.lit hz18 rfl (Nat.le_refl _) (by decide)).toF (xs := [2]) rfl (fun _ => rfl); refine TL.e (Ew.buildSlice rfl rfl rfl (by decide)) ?_; rintro _ _ ⟨g96, rfl, rfl⟩; refine TL.az (fun w hw => hw.freezeR (i := 2) (j := 0) (by decide) rfl rfl) ?_; rintro F19 ⟨le18_19, hz19⟩; dsimp only [List.set, List.eraseIdx]; have le8_19 := le8_18.trans le18_19; have le9_19 := le9_18.trans le18_19; have hfF19 : SlC F19.toFrz (.slice (some ⟨g96, 0, none⟩) 1 1) 1 ([5].map eI) := (SlK.lit hz19 rfl (Nat.le_refl _) (by decide)).toF (xs := [5]) rfl (fun _ => rfl); refine TL.e (Ew.buildSlice rfl rfl rfl (by decide)) ?_; rintro _ _ ⟨g97, rfl, rfl⟩; refine TL.az (fun w hw => hw.freezeR (i := 2) (j := 0) (by decide) rfl rfl) ?_; rintro F20 ⟨le19_20, hz20⟩; dsimp only [List.set, List.eraseIdx]; have le8_20 := le8_19.trans le19_20; have le9_20 := le9_19.trans le19_20; have le18_20 := le18_19.trans le19_20; have hfF20 : SlC F20.toFrz (.slice (some ⟨g97, 0, none⟩) 1 1) 1 ([10].map eI) := (SlK.lit hz20 rfl (Nat.le_refl _) (by decide)).toF (xs := [10]) rfl (fun _ => rfl); refine TL.e (Ew.ao 1 rfl rfl rfl rfl (fun w hw hF => zc7 _ w hF (GBidderPlan.mk 2 1000 [[9, 7, 2]]) (.slice (some ⟨g62, 0, none⟩) 1 1) [[(.slice (some ⟨g61, 0, none⟩) 3 3)]] (SlD.mono (rep := R_List_Int.rep) (fun _ _ _ _ => R_List_Int.mono) hfF9 le9_20) [(GProduct.mk 1 1 3 1 0)] (.slice (some ⟨g60, 0, none⟩) 1 1) (SlC.mono hfF8 le8_20) [2] (.slice (some ⟨g95, 0, none⟩) 1 1) (SlC.mono hfF18 le18_20) [5] (.slice (some ⟨g96, 0, none⟩) 1 1) (SlC.mono hfF19 le19_20) [10] (.slice (some ⟨g97, 0, none⟩) 1 1) hfF20 fuel r98 hr98)) ?_; rintro _ _ ⟨⟨v98_0_0, cs98_0_0⟩, F21, le20_21, hf98_0_0, rfl, rfl⟩; dsimp only at hf98_0_0 ⊢; have le8_21 := le8_20.trans le20_21; have le9_21 := le9_20.trans le20_21; haveI := hf98_0_0.1.oneC; refine TL.run 5 rfl ?_; refine TL.ns (T.seq (T.seq ?_)); (try dsimp only at hk); have hq := zae hk; clear hk; obtain ⟨k14, hk14, hk⟩ := hq; (try dsimp only at hk); refine T.ae (ι := Bool × FzB w (fun _ => False) S0) (fun z => [(7, (.slice (some ⟨g60, 0, none⟩) 1 1)), (8, .pointer (some ⟨g8, 0, none⟩)), (110, .bool z.1)]) (fun z => [.row g8 24 [.int .i64 2, .int .i64 1000, (.slice (some ⟨g62, 0, none⟩) 1 1)], .fr z.2]) (fun z => k14 z.1 = some r ∧ F21.toFrz.Le z.2.toFrz) ?_ ?_
        · refine T.region ?_; refine TL.run 3 rfl ?_; refine TL.gs rfl rfl rfl (fun h15 => ?_) (fun h15 => ?_)
          · have p15 := of_decide_eq_true h15; replace hk := zab hk h15; refine TL.run 7 rfl ?_; refine TL.nil ?_; exact K.ad (true, F21) ⟨hk, (Frz.Le.refl _)⟩ (.c (.c (.c .nil))) (List.Sublist.refl _)
          · have p15 := of_decide_eq_false h15; replace hk := zaa hk h15; refine TL.run 1 rfl ?_; refine TL.y (Yv.build rfl rfl) ?_; refine TL.y (Yv.build rfl rfl) ?_; refine TL.e (Ew.buildSlice rfl rfl rfl (by decide)) ?_; rintro _ _ ⟨g107, rfl, rfl⟩; refine TL.az (fun w hw => hw.freezeR (i := 2) (j := 0) (by decide) rfl rfl) ?_; rintro F23 ⟨le21_23, hz23⟩; dsimp only [List.set, List.eraseIdx]; have hfF23 : SlC F23.toFrz (.slice (some ⟨g107, 0, none⟩) 2 2) 3 ([(GRow.mk 0 (-1) 400), (GRow.mk 0 (-1) 800)].map GRow.enc) := (SlK.lit hz23 rfl (Nat.le_refl _) (by decide)).toF (xs := [(GRow.mk 0 (-1) 400), (GRow.mk 0 (-1) 800)]) rfl GRow.len; have hq := zad hk; clear hk; obtain ⟨r108, hr108, hk⟩ := hq; refine TL.e (Ew.aj rfl rfl rfl (fun w hw => zdA _ w (hw.fr (i := 1) rfl) r98.1 v98_0_0 cs98_0_0 (SlD.mono (rep := GBid.rep) (fun _ _ _ _ => GBid.mono) hf98_0_0 le21_23) 2 [(GRow.mk 0 (-1) 400), (GRow.mk 0 (-1) 800)] (.slice (some ⟨g107, 0, none⟩) 2 2) hfF23 fuel r108 hr108)) ?_; rintro _ _ ⟨rfl, rfl⟩; refine TL.run 2 rfl ?_; refine TL.nil ?_; exact K.ad (!r108, F23) ⟨hk, le21_23⟩ (.c (.c (.c .nil))) (List.Sublist.refl _)
        · rintro ⟨x_13, F22⟩ ⟨hk, le21_22⟩; (try dsimp only at *); rw [← hk14] at hk; (try dsimp only at hk); have le8_22 := le8_21.trans le21_22; have le9_22 := le9_21.trans le21_22; refine T.cond rfl (fun h16 => ?_) (fun h16 => ?_)
          · replace hk := zab hk h16; refine T.sr ?_; refine TL.run 1 rfl ?_; refine TL.ns (T.ret (K.a ?_)); obtain rfl := Option.some.inj hk; exact K.ak rfl rfl (fun w' hw => ⟨rfl, hw.isBelow⟩)
          · replace hk := zaa hk h16; refine T.skip (K.seq (T.sr ?_)); refine TL.y (Yv.fieldAddr rfl rfl) ?_; refine TL.e0 (Ew.bf 0 rfl rfl rfl rfl (by simp)) ?_; rintro _ _ ⟨rfl, rfl⟩; refine TL.ns (T.seq ?_); have hq := zad hk; clear hk; obtain ⟨r116, hr116, hk⟩ := hq; (try dsimp only at hk); refine T.region ?_; refine TL.y (Yv.al 0 rfl rfl rfl rfl) ?_; refine TL.run 1 rfl ?_; refine TL.e (Ew.buildSlice rfl rfl rfl (by decide)) ?_; rintro _ _ ⟨g115, rfl, rfl⟩; refine TL.az (fun w hw => hw.freezeR (i := 2) (j := 0) (by decide) rfl rfl) ?_; rintro F24 ⟨le22_24, hz24⟩; dsimp only [List.set, List.eraseIdx]; have le8_24 := le8_22.trans le22_24; have le9_24 := le9_22.trans le22_24; have hfF24 : SlC F24.toFrz (.slice (some ⟨g115, 0, none⟩) 1 1) 1 ([5].map eI) := (SlK.lit hz24 rfl (Nat.le_refl _) (by decide)).toF (xs := [5]) rfl (fun _ => rfl); refine TL.e (Ew.ao 1 rfl rfl rfl rfl (fun w hw hF => zcO _ w hF (GBidderPlan.mk 2 9 [[9, 7, 2]]) (.slice (some ⟨g62, 0, none⟩) 1 1) [[(.slice (some ⟨g61, 0, none⟩) 3 3)]] (SlD.mono (rep := R_List_Int.rep) (fun _ _ _ _ => R_List_Int.mono) hfF9 le9_24) [(GProduct.mk 1 1 3 1 0)] (.slice (some ⟨g60, 0, none⟩) 1 1) (SlC.mono hfF8 le8_24) [5] (.slice (some ⟨g115, 0, none⟩) 1 1) hfF24 fuel r116 hr116)) ?_; rintro _ _ ⟨v116_0_0, F25, le24_25, hf116_0_0, rfl, rfl⟩; haveI := hf116_0_0.oneC; refine TL.run 5 rfl ?_; refine TL.ns (T.seq ?_); refine T.ae (ι := FzB w (fun _ => False) S0) (fun z => [(0, .bool ((decide (r116.2 = 0)) && (zbg r116.1 [1])))]) (fun z => [.row g8 24 [.int .i64 2, .int .i64 9, (.slice (some ⟨g62, 0, none⟩) 1 1)], .fr z]) (fun z => F25.toFrz.Le z.toFrz) ?_ ?_
            · refine T.region ?_; refine TL.run 3 rfl ?_; refine TL.gs rfl rfl rfl (fun h17 => ?_) (fun h17 => ?_)
              · have p17 := of_decide_eq_true h17; refine TL.run 1 rfl ?_; refine TL.e (Ew.buildSlice rfl rfl rfl (by decide)) ?_; rintro _ _ ⟨g123, rfl, rfl⟩; refine TL.az (fun w hw => hw.freezeR (i := 2) (j := 0) (by decide) rfl rfl) ?_; rintro F27 ⟨le25_27, hz27⟩; dsimp only [List.set, List.eraseIdx]; have hfF27 : SlC F27.toFrz (.slice (some ⟨g123, 0, none⟩) 1 1) 1 ([1].map eI) := (SlK.lit hz27 rfl (Nat.le_refl _) (by decide)).toF (xs := [1]) rfl (fun _ => rfl); refine TL.e (Ew.aj rfl rfl rfl (fun w hw => zcL _ w (hw.fr (i := 1) rfl) r116.1 v116_0_0 (SlC.mono hf116_0_0 le25_27) [1] (.slice (some ⟨g123, 0, none⟩) 1 1) hfF27)) ?_; rintro _ _ ⟨rfl, rfl⟩; refine TL.run 2 rfl ?_; refine TL.nil ?_; exact K.ad F27 le25_27 (.b (zcp h17) .nil) (List.Sublist.refl _)
              · have p17 := of_decide_eq_false h17; refine TL.run 5 rfl ?_; refine TL.nil ?_; exact K.ad F25 (Frz.Le.refl _) (.b (zaZ h17).symm .nil) (List.Sublist.refl _)
            · rintro F26 le25_26; (try dsimp only at *); refine T.ret ?_; obtain rfl := Option.some.inj hk; exact K.ak rfl rfl (fun w' hw => ⟨rfl, hw.isBelow⟩)
def zbv (fuel : Nat) (p : GBidderPlan) (l : List GProduct) (blocks : List Int) (starts : List Int) (clocks : List Int) : Option Bool :=
  (bif ((((!(zbw p l)) || (decide (10 < (blocks.length : Int)))) || (decide (10 < (starts.length : Int)))) || (decide (10 < (clocks.length : Int)))) then
    (zbz fuel).bind fun r34 =>
    some r34
    else
    (zbc fuel p l blocks starts clocks).bind fun r41 =>
    (zbO fuel p l blocks starts clocks).bind fun r50 =>
    zao (fun (x_5 : Bool) =>
      some x_5)
    (fun k6 =>
      (bif decide (r41.2 = r50.2) then
        (zbM fuel r41.1 p.Bidder r50.1).bind fun r61 =>
        (bif r61 then
          (zbz fuel).bind fun r64 =>
          k6 r64
          else
          k6 false)
        else
        k6 false)))
theorem zdf (F0 : Frz) (w : World) (hF0 : F0.At w) (p : GBidderPlan) (vp_2 : Value) (cp_2 : List (List Value)) (hp_2 : SlD R_List_Int.rep F0 vp_2 1 cp_2 p.Values) (l : List GProduct) (vl : Value) (hl : SlC F0 vl 5 (l.map GProduct.enc)) (blocks : List Int) (vblocks : Value) (hblocks : SlC F0 vblocks 1 (blocks.map eI)) (starts : List Int) (vstarts : Value) (hstarts : SlC F0 vstarts 1 (starts.map eI)) (clocks : List Int) (vclocks : Value) (hclocks : SlC F0 vclocks 1 (clocks.map eI)) (fuel : Nat) (r : Bool) (hr : zbv fuel p l blocks starts clocks = some r) : Calls Tryz.prog 3 #[.agg [.int .i64 p.Bidder, .int .i64 p.Budget, vp_2].toArray, vl, vblocks, vstarts, vclocks] w fun e w' => e = .returned (.bool r) ∧ Below w.heap.size w w' := by
  have hk := hr; unfold zbv at hk; haveI := hp_2.1.oneC; haveI := hl.oneC; haveI := hblocks.oneC; haveI := hstarts.oneC; haveI := hclocks.oneC; obtain ⟨S0, F1, rfl, hS0, hp0⟩ := zag hF0; refine zaj Tryz.func3 rfl rfl rfl hp0 ?_; refine T.sr ?_; refine TL.e (Ew.ax rfl rfl) ?_; rintro _ _ ⟨g5, rfl, rfl⟩; refine TL.run 1 rfl ?_; refine TL.ns (T.seq (T.seq ?_)); refine T.ae (ι := Unit) (fun z => [(1, vl), (2, vblocks), (3, vstarts), (4, vclocks), (5, .pointer (some ⟨g5, 0, none⟩)), (33, .bool ((((!(zbw p l)) || (decide (10 < (blocks.length : Int)))) || (decide (10 < (starts.length : Int)))) || (decide (10 < (clocks.length : Int)))))]) (fun z => [.row g5 24 [.int .i64 p.Bidder, .int .i64 p.Budget, vp_2], .fr F1]) (fun z => True) ?_ ?_
  · refine T.region ?_; refine TL.y (Yv.al 0 rfl rfl rfl rfl) ?_; refine TL.run 1 rfl ?_; refine TL.e (Ew.aj rfl rfl rfl (fun w hw => zeW _ w (hw.fr (i := 1) rfl) p vp_2 cp_2 hp_2 l vl hl)) ?_; rintro _ _ ⟨rfl, rfl⟩; refine TL.run 2 rfl ?_; refine TL.gs rfl rfl rfl (fun h1 => ?_) (fun h1 => ?_)
    · refine TL.run 14 rfl ?_; refine TL.nil ?_; exact K.ad () trivial (.c (.c (.c (.c (.c (.b (zal (zal (zal h1))).symm .nil)))))) (List.Sublist.refl _)
    · refine TL.run 1 rfl ?_; refine TL.y (Yv.am rfl rfl hblocks (List.length_map _)) ?_; have hm21 : blocks.length ≤ 9223372036854775807 := (List.length_map _) ▸ hblocks.max; refine TL.run 3 rfl ?_; refine TL.gs rfl rfl rfl (fun h2 => ?_) (fun h2 => ?_)
      · have p2 := of_decide_eq_true h2; refine TL.run 9 rfl ?_; refine TL.nil ?_; exact K.ad () trivial (.c (.c (.c (.c (.c (.b (zal (zal (zau h1 h2))).symm .nil)))))) (List.Sublist.refl _)
      · have p2 := of_decide_eq_false h2; refine TL.run 1 rfl ?_; refine TL.y (Yv.am rfl rfl hstarts (List.length_map _)) ?_; have hm26 : starts.length ≤ 9223372036854775807 := (List.length_map _) ▸ hstarts.max; refine TL.run 3 rfl ?_; refine TL.gs rfl rfl rfl (fun h3 => ?_) (fun h3 => ?_)
        · have p3 := of_decide_eq_true h3; refine TL.run 4 rfl ?_; refine TL.nil ?_; exact K.ad () trivial (.c (.c (.c (.c (.c (.b (zal (zau (zau h1 h2) h3)).symm .nil)))))) (List.Sublist.refl _)
        · have p3 := of_decide_eq_false h3; refine TL.run 1 rfl ?_; refine TL.y (Yv.am rfl rfl hclocks (List.length_map _)) ?_; have hm31 : clocks.length ≤ 9223372036854775807 := (List.length_map _) ▸ hclocks.max; refine TL.run 2 rfl ?_; refine TL.nil ?_; exact K.ad () trivial (.c (.c (.c (.c (.c (.b (or_f (zau (zau h1 h2) h3)) .nil)))))) (List.Sublist.refl _)
  · rintro _ _; have hm21 : blocks.length ≤ 9223372036854775807 := (List.length_map _) ▸ hblocks.max; have hm26 : starts.length ≤ 9223372036854775807 := (List.length_map _) ▸ hstarts.max; have hm31 : clocks.length ≤ 9223372036854775807 := (List.length_map _) ▸ hclocks.max; refine T.cond rfl (fun h4 => ?_) (fun h4 => ?_)
    · replace hk := zab hk h4; refine T.seq ?_; have hq := zad hk; clear hk; obtain ⟨r34, hr34, hk⟩ := hq; (try dsimp only at hk); refine T.region ?_; refine TL.e (Ew.aj rfl rfl rfl (fun w hw => zda _ w (hw.fr (i := 1) rfl)  fuel r34 hr34)) ?_; rintro _ _ ⟨rfl, rfl⟩; refine TL.run 1 rfl ?_; refine TL.ns (T.ret (K.a ?_)); obtain rfl := Option.some.inj hk; exact K.ak rfl rfl (fun w' hw => ⟨rfl, hw.isBelow⟩)
    · have p4 := h4; (try simp only [nfB] at p4); replace hk := zaa hk h4; refine T.skip (K.seq (T.seq ?_)); have hq := zad hk; clear hk; obtain ⟨r41, hr41, hk⟩ := hq; (try dsimp only at hk); refine T.region ?_; refine TL.y (Yv.al 0 rfl rfl rfl rfl) ?_; refine TL.run 4 rfl ?_; refine TL.e (Ew.ao 1 rfl rfl rfl rfl (fun w hw hF => zc7 _ w hF p vp_2 cp_2 hp_2 l vl hl blocks vblocks hblocks starts vstarts hstarts clocks vclocks hclocks fuel r41 hr41)) ?_; rintro _ _ ⟨⟨v41_0_0, cs41_0_0⟩, F2, le1_2, hf41_0_0, rfl, rfl⟩; dsimp only at hf41_0_0 ⊢; haveI := hf41_0_0.1.oneC; refine TL.run 5 rfl ?_; refine TL.ns (T.seq ?_); have hq := zad hk; clear hk; obtain ⟨r50, hr50, hk⟩ := hq; (try dsimp only at hk); refine T.region ?_; refine TL.y (Yv.al 0 rfl rfl rfl rfl) ?_; refine TL.run 4 rfl ?_; refine TL.e (Ew.ao 1 rfl rfl rfl rfl (fun w hw hF => zeH _ w hF p vp_2 cp_2 (SlD.mono (rep := R_List_Int.rep) (fun _ _ _ _ => R_List_Int.mono) hp_2 le1_2) l vl (SlC.mono hl le1_2) blocks vblocks (SlC.mono hblocks le1_2) starts vstarts (SlC.mono hstarts le1_2) clocks vclocks (SlC.mono hclocks le1_2) fuel r50 hr50)) ?_; rintro _ _ ⟨v50_0_0, F3, le2_3, hf50_0_0, rfl, rfl⟩; haveI := hf50_0_0.oneC; refine TL.run 5 rfl ?_; refine TL.ns (T.seq ?_); (try dsimp only at hk); have hq := zae hk; clear hk; obtain ⟨k6, hk6, hk⟩ := hq; (try dsimp only at hk); refine T.ae (ι := Bool) (fun z => [(10, .bool z)]) (fun z => [.fr F3]) (fun z => k6 z = some r) ?_ ?_
      · refine T.region ?_; refine TL.run 4 rfl ?_; refine TL.gs rfl rfl rfl (fun h7 => ?_) (fun h7 => ?_)
        · have p7 := of_decide_eq_true h7; replace hk := zab hk h7; refine TL.run 1 rfl ?_; refine TL.y (Yv.fieldAddr rfl rfl) ?_; refine TL.y (Yv.af 0 rfl rfl rfl rfl) ?_; refine TL.run 1 rfl ?_; have hq := zad hk; clear hk; obtain ⟨r61, hr61, hk⟩ := hq; refine TL.e (Ew.aj rfl rfl rfl (fun w hw => zdA _ w (hw.fr (i := 1) rfl) r41.1 v41_0_0 cs41_0_0 (SlD.mono (rep := GBid.rep) (fun _ _ _ _ => GBid.mono) hf41_0_0 le2_3) p.Bidder r50.1 v50_0_0 hf50_0_0 fuel r61 hr61)) ?_; rintro _ _ ⟨rfl, rfl⟩; refine TL.run 2 rfl ?_; refine TL.gs rfl rfl rfl (fun h8 => ?_) (fun h8 => ?_)
          · replace hk := zab hk h8; have hq := zad hk; clear hk; obtain ⟨r64, hr64, hk⟩ := hq; refine TL.e (Ew.aj rfl rfl rfl (fun w hw => zda _ w (hw.fr (i := 1) rfl)  fuel r64 hr64)) ?_; rintro _ _ ⟨rfl, rfl⟩; refine TL.run 2 rfl ?_; refine TL.nil ?_; refine K.pick [1] rfl (by decide) ?_; exact K.ad r64 hk (.c .nil) (List.Sublist.refl _)
          · replace hk := zaa hk h8; refine TL.run 3 rfl ?_; refine TL.nil ?_; refine K.pick [1] rfl (by decide) ?_; exact K.ad false hk (.c .nil) (List.Sublist.refl _)
        · have p7 := of_decide_eq_false h7; replace hk := zaa hk h7; refine TL.run 10 rfl ?_; refine TL.nil ?_; refine K.pick [1] rfl (by decide) ?_; exact K.ad false hk (.c .nil) (List.Sublist.refl _)
      · rintro x_5 hk; rw [← hk6] at hk; (try dsimp only at hk); refine T.ret ?_; obtain rfl := Option.some.inj hk; exact K.ak rfl rfl (fun w' hw => ⟨rfl, hw.isBelow⟩)
section
variable {σ ρ α : Type}
theorem zdV {f : Nat → (Unit → Bool) → Unit → Bool} {k : Unit → Bool} {n : Nat} (q : Nat → Bool) (hf : ∀ i next, i < n → f i next () = (q i && next ())) : zak f k n 0 () = ((List.range n).all q && k ()) := by
  have key : ∀ m i, i + m = n → zak f k m i () = ((List.range' i m).all q && k ()) := by
    intro m
    induction m with
    | zero => intro i _; simp [zak]
    | succ m ih =>
      intro i e
      show f i (zak f k m (i + 1)) () = _
      rw [hf i _ (by omega), ih (i + 1) (by omega), List.range'_succ, List.all_cons, Bool.and_assoc]
  rw [key n 0 (by omega), List.range_eq_range']
theorem zbW {x : Int} (h : -9223372036854775808 ≤ x ∧ x ≤ 9223372036854775807) : wI x = x := IntWalk.i64_in _ h
end
theorem zdS {σ τ ρ ρ' : Type} {f : Nat → (σ → ρ) → σ → ρ} {k : σ → ρ} {g : Nat → (τ → ρ') → τ → ρ'} {k' : τ → ρ'} {n : Nat} (R : Nat → σ → τ → Prop) (post : ρ → ρ' → Prop) (hk : ∀ s t, R n s t → post (k s) (k' t)) (hf : ∀ i s t next next', i < n → R i s t → (∀ s t, R (i + 1) s t → post (next s) (next' t)) → post (f i next s) (g i next' t)) : ∀ m i s t, i + m = n → R i s t → post (zak f k m i s) (zak g k' m i t)
  | 0, i, s, t, h, hR => hk s t (by rw [← h]; exact hR)
  | m + 1, i, s, t, h, hR => hf i s t _ _ (by omega) hR fun s t hR => zdS R post hk hf m (i + 1) s t (by omega) hR
theorem zcc {σ τ ρ ρ' : Type} {f : Nat → (σ → ρ) → σ → ρ} {k : σ → ρ} {g : Nat → (τ → ρ') → τ → ρ'} {k' : τ → ρ'} {n : Nat} {s : σ} {t : τ} (R : Nat → σ → τ → Prop) (post : ρ → ρ' → Prop) (h0 : R 0 s t) (hk : ∀ s t, R n s t → post (k s) (k' t)) (hf : ∀ i s t next next', i < n → R i s t → (∀ s t, R (i + 1) s t → post (next s) (next' t)) → post (f i next s) (g i next' t)) : post (zak f k (n - 0) 0 s) (zak g k' (n - 0) 0 t) := zdS R post hk hf _ _ _ _ (by omega) h0
theorem zgp (a b : Int) : zah a b = if a < b then -1 else if b < a then 1 else 0 := by
  unfold zah za2; rw [decide_eq_false (show ¬ ¬ a = a by simp), cond_false, decide_eq_false (show ¬ ¬ b = b by simp), cond_false]; by_cases h : a < b
  · rw [decide_eq_true h, cond_true, if_pos h]
  · rw [decide_eq_false h, cond_false, if_neg h]; by_cases h2 : b < a
    · rw [decide_eq_true h2, cond_true, if_pos h2]
    · rw [decide_eq_false h2, cond_false, if_neg h2]
theorem zgI (a b : Int) : zbC [a, b] = if a = 0 then b else a := by
  show (bif decide (¬ a = 0) then a else bif decide (¬ b = 0) then b else 0) = _
  by_cases h : a = 0
  · rw [decide_eq_false (by simp [h]), cond_false, if_pos h]; by_cases h2 : b = 0
    · rw [decide_eq_false (by simp [h2]), cond_false, h2]
    · rw [decide_eq_true h2, cond_true]
  · rw [decide_eq_true h, cond_true, if_neg h]
theorem zkE (q p : GProduct) : decide (0 ≤ zaz q p) = (decide (p.Area < q.Area) || (decide (p.Area = q.Area) && decide (p.Category ≤ q.Category))) := by
  unfold zaz; rw [zgI, zgp, zgp]; rw [Bool.eq_iff_iff]; simp only [decide_eq_true_eq, Bool.or_eq_true, Bool.and_eq_true]
  repeat' split
  all_goals omega
def okR (p : GProduct) : Bool := !((((((((((decide (p.Area < 0)) || (decide (63 < p.Area))) || (decide (p.Category < 1))) || (decide (2 < p.Category))) || (decide (p.Supply < 1))) || (decide (12 < p.Supply))) || (decide (p.Units < 1))) || (decide (100000 < p.Units))) || (decide (p.Reserve < 0))) || (decide (549755813888 < p.Reserve)))
theorem zcE {p : GProduct} : okR p = true ↔ (0 ≤ p.Area ∧ p.Area ≤ 63 ∧ 1 ≤ p.Category ∧ p.Category ≤ 2 ∧ 1 ≤ p.Supply ∧ p.Supply ≤ 12 ∧ 1 ≤ p.Units ∧ p.Units ≤ 100000 ∧ 0 ≤ p.Reserve ∧ p.Reserve ≤ 549755813888) := by
  unfold okR; simp only [Bool.not_eq_true', Bool.or_eq_false_iff, decide_eq_false_iff_not]; omega
structure InvP (l : List GProduct) (i : Nat) (v : Vec 64 Int) : Prop where
  zero : ∀ a : Nat, a < 64 → (0 < i → (nth l (i - 1)).Area < (a : Int)) → v.get a = 0
  last : 0 < i → okR (nth l (i - 1)) = true ∧ ((nth l (i - 1)).Category = 1 → v.get (nth l (i - 1)).Area.toNat = (nth l (i - 1)).Supply)
def okN (q p : GProduct) : Bool := !((decide (p.Area < q.Area)) || ((decide (p.Area = q.Area)) && ((decide (p.Category ≤ q.Category)) || (decide (12 < wI (p.Supply + q.Supply))))))
theorem zeZ {l : List GProduct} {i : Nat} {v : Vec 64 Int} (h : InvP l i v) :
    ∃ r, za6 (nth l i) v = some r ∧ ((okR (nth l i) = true ∧ (0 < i → okN (nth l (i - 1)) (nth l i) = true) ∧ r.1 = true ∧ (0 < i → decide (0 ≤ zaz (nth l (i - 1)) (nth l i)) = false) ∧ InvP l (i + 1) r.2) ∨ ((okR (nth l i) = false ∨ 0 < i ∧ okN (nth l (i - 1)) (nth l i) = false) ∧ (r.1 = false ∨ 0 < i ∧ decide (0 ≤ zaz (nth l (i - 1)) (nth l i)) = true))) := by
  obtain ⟨hz, hl⟩ := h; generalize nth l (i - 1) = q at *; generalize hp : nth l i = p; unfold za6 zas; by_cases h1 : 0 ≤ p.Area ∧ p.Area ≤ 63 ∧ 1 ≤ p.Category ∧ p.Category ≤ 2 ∧ 1 ≤ p.Supply ∧ p.Supply ≤ 12
  · obtain ⟨a1, a2, a3, a4, a5, a6⟩ := h1; rw [decide_eq_true a1, decide_eq_true a2, decide_eq_true a3, decide_eq_true a4, decide_eq_true a5, decide_eq_true a6]; simp only [Bool.and_self, Bool.not_true, Bool.or_self, cond_false]; (have ha : p.Area.toNat < 64 := by omega); rw [zax (by omega), Vec.get_put ha, if_pos rfl]; refine ⟨_, rfl, ?_⟩; dsimp only; rw [zkE]
    -- the sum of the area
    have hsum : (0 < i → okR q = true ∧ q.Area ≤ p.Area ∧ (q.Area = p.Area → q.Category < p.Category)) → wI (v.get p.Area.toNat + p.Supply) = if 0 < i ∧ q.Area = p.Area then q.Supply + p.Supply else p.Supply := by
      intro hh; by_cases hi : 0 < i ∧ q.Area = p.Area
      · obtain ⟨b1, b2, b3⟩ := hh hi.1; rw [zcE] at b1; have b4 := (hl hi.1).2 (by have := b3 hi.2; omega); rw [if_pos hi, ← hi.2, b4, zbW (by omega)]
      · rw [if_neg hi, hz p.Area.toNat ha (fun hi0 => by have := (hh hi0).2.1; have : q.Area ≠ p.Area := fun e => hi ⟨hi0, e⟩; omega), zbW (by omega)]; omega
    by_cases hgood : okR p = true ∧ (0 < i → okN q p = true)
    · obtain ⟨g1, g2⟩ := hgood
      have hord : 0 < i → okR q = true ∧ q.Area ≤ p.Area ∧ (q.Area = p.Area → q.Category < p.Category ∧ p.Supply + q.Supply ≤ 12) := by
        intro hi; have := g2 hi; have hq := (hl hi).1; unfold okN at this; simp only [Bool.not_eq_true', Bool.or_eq_false_iff, Bool.and_eq_false_iff, decide_eq_false_iff_not] at this; rw [zcE] at hq; rw [zbW (by omega)] at this; refine ⟨(hl hi).1, by omega, fun e => ?_⟩; omega
      have hs := hsum fun hi => ⟨(hord hi).1, (hord hi).2.1, fun e => ((hord hi).2.2 e).1⟩; refine .inl ⟨g1, g2, ?_, fun hi => ?_, ⟨fun a ha2 h0 => ?_, fun _ => ?_⟩⟩
      · rw [hs]; rw [zcE] at g1; simp only [Bool.and_eq_true, decide_eq_true_eq]
        split
        · rename_i hc; have := (hord hc.1).2.2 hc.2; omega
        · omega
      · have := hord hi; simp only [Bool.or_eq_false_iff, Bool.and_eq_false_iff, decide_eq_false_iff_not]; omega
      · have h9 := h0 (by omega); rw [show i + 1 - 1 = i by omega, hp] at h9; rw [Vec.get_put ha, if_neg (by omega)]; (exact hz a ha2 fun hi => by have := (hord hi).2.1; omega)
      · rw [show i + 1 - 1 = i by omega, hp]; refine ⟨g1, fun hc => ?_⟩; rw [Vec.get_put ha, if_pos rfl, hs, if_neg]; rintro ⟨hi, he⟩; have := (hord hi).2.2 he; have hq := (hord hi).1; rw [zcE] at hq; omega
    · right
      have hbad : okR p = false ∨ 0 < i ∧ okN q p = false := by
        cases h3 : okR p with
        | false => exact .inl rfl
        | true =>
          refine .inr ?_; by_cases hi : 0 < i
          · refine ⟨hi, ?_⟩
            cases h4 : okN q p with
            | false => rfl
            | true => exact absurd ⟨h3, fun _ => h4⟩ hgood
          · exact absurd ⟨h3, fun h => absurd h hi⟩ hgood
      refine ⟨hbad, ?_⟩; by_cases hcmp : 0 < i ∧ ((decide (p.Area < q.Area)) || ((decide (p.Area = q.Area)) && (decide (p.Category ≤ q.Category)))) = true
      · exact .inr hcmp
      · left
        have hord : 0 < i → okR q = true ∧ q.Area ≤ p.Area ∧ (q.Area = p.Area → q.Category < p.Category) := by
          intro hi; have h5 : ¬ ((decide (p.Area < q.Area)) || ((decide (p.Area = q.Area)) && (decide (p.Category ≤ q.Category)))) = true := fun h => hcmp ⟨hi, h⟩; simp only [Bool.or_eq_true, Bool.and_eq_true, decide_eq_true_eq] at h5; exact ⟨(hl hi).1, by omega, fun e => by omega⟩
        rw [hsum hord]; rcases hbad with hb | ⟨hi, hb⟩
        · rw [← Bool.not_eq_true, zcE] at hb; rw [← Bool.not_eq_true]; simp only [Bool.and_eq_true, decide_eq_true_eq]; omega
        · have h6 := hord hi; have hq := h6.1; rw [zcE] at hq; unfold okN at hb; rw [zbW (by omega)] at hb; simp only [Bool.not_eq_false', Bool.or_eq_true, Bool.and_eq_true, decide_eq_true_eq] at hb; rw [← Bool.not_eq_true]; simp only [Bool.and_eq_true, decide_eq_true_eq]; (have he : q.Area = p.Area := by omega); rw [if_pos ⟨hi, he⟩]; have := h6.2.2 he; omega
  · refine ⟨(false, v), ?_, .inr ⟨.inl ?_, .inl rfl⟩⟩
    · rw [show ((((!(decide (0 ≤ p.Area) && decide (p.Area ≤ 63))) || (!(decide (1 ≤ p.Category) && decide (p.Category ≤ 2)))) || (!(decide (1 ≤ p.Supply) && decide (p.Supply ≤ 12))))) = true from ?_, cond_true]; rw [← Bool.not_eq_false]; simp only [Bool.or_eq_false_iff, Bool.not_eq_false', Bool.and_eq_true, decide_eq_true_eq]; omega
    · rw [← Bool.not_eq_true, zcE]; omega
theorem pvalid (l : List GProduct) : zbm l = some (zaq l) := by
  unfold zbm zap zaq; simp only [zao]
  have h := zcc (n := l.length) (s := Vec.fill 64 (0 : Int)) (t := ())
    (f := fun (i_5 : Nat) (next4 : Vec 64 Int → Option (Bool × Vec 64 Int)) (c_3 : Vec 64 Int) =>
      (za6 (nth l i_5) c_3).bind fun r18 =>
      (bif ((!r18.1) || ((decide (0 < (i_5 : Int))) && (decide (0 ≤ (zaz (nth l (((i_5 : Int) - 1).toNat)) (nth l i_5)))))) then
        some (false, r18.2)
        else
        next4 r18.2)) (k := fun c_3 => some (true, c_3))
    (g := fun (i_3 : Nat) (next2 : Unit → Bool) (_ : Unit) =>
      (bif ((((((((((decide ((nth l i_3).Area < 0)) || (decide (63 < (nth l i_3).Area))) || (decide ((nth l i_3).Category < 1))) || (decide (2 < (nth l i_3).Category))) || (decide ((nth l i_3).Supply < 1))) || (decide (12 < (nth l i_3).Supply))) || (decide ((nth l i_3).Units < 1))) || (decide (100000 < (nth l i_3).Units))) || (decide ((nth l i_3).Reserve < 0))) || (decide (549755813888 < (nth l i_3).Reserve))) then
        false
        else
        (bif decide (0 < (i_3 : Int)) then
          (bif ((decide ((nth l i_3).Area < (nth l (((i_3 : Int) - 1).toNat)).Area)) || ((decide ((nth l i_3).Area = (nth l (((i_3 : Int) - 1).toNat)).Area)) && ((decide ((nth l i_3).Category ≤ (nth l (((i_3 : Int) - 1).toNat)).Category)) || (decide (12 < wI (((nth l i_3).Supply) + ((nth l (((i_3 : Int) - 1).toNat)).Supply))))))) then
            false
            else
            next2 ())
          else
          next2 ()))) (k' := fun _ => true)
    (fun i v _ => InvP l i v) (fun x y => x.map (·.1) = some y)
    ⟨fun a ha _ => Vec.get_fill ha, fun h => absurd h (by omega)⟩ (fun _ _ _ => rfl) (fun i v t next next' hi hR hn => by
      obtain ⟨r, hr, hc⟩ := zeZ hR; (try dsimp only); rw [hr, Option.bind_some, show ((i : Int) - 1).toNat = i - 1 by omega]; (have e1 : decide (0 < (i : Int)) = decide (0 < i) := by rw [Bool.eq_iff_iff]; simp); rw [e1]; rcases hc with ⟨h1, h2, h3, h4, h5⟩ | ⟨h1, h2⟩
      · unfold okR at h1; rw [Bool.not_eq_true'] at h1; rw [h1, cond_false, h3, Bool.not_true, Bool.false_or]; by_cases hi0 : 0 < i
        · have h6 := h2 hi0; unfold okN at h6; rw [Bool.not_eq_true'] at h6; rw [h6, h4 hi0, Bool.and_false, cond_false, cond_false, decide_eq_true hi0, cond_true]; exact hn _ _ h5
        · rw [decide_eq_false hi0, Bool.false_and, cond_false, cond_false]; exact hn _ _ h5
      · have e2 : ((!r.1) || ((decide (0 < i)) && (decide (0 ≤ (zaz (nth l (i - 1)) (nth l i)))))) = true := by
          rcases h2 with h2 | ⟨h2, h3⟩
          · rw [h2]; rfl
          · rw [h3, decide_eq_true h2]; simp
        rw [e2, cond_true]; rcases h1 with h1 | ⟨h0, h1⟩
        · unfold okR at h1; rw [Bool.not_eq_false'] at h1; rw [h1, cond_true]; rfl
        · unfold okN at h1; rw [Bool.not_eq_false'] at h1; rw [h1, decide_eq_true h0]
          cases (decide ((nth l i).Area < 0) || decide (63 < (nth l i).Area) || decide ((nth l i).Category < 1) || decide (2 < (nth l i).Category) || decide ((nth l i).Supply < 1) || decide (12 < (nth l i).Supply) || decide ((nth l i).Units < 1) || decide (100000 < (nth l i).Units) || decide ((nth l i).Reserve < 0) || decide (549755813888 < (nth l i).Reserve)) <;> rfl)
  generalize zak _ _ (l.length - 0) 0 (Vec.fill 64 (0 : Int)) = x at h ⊢; generalize zak _ _ (l.length - 0) 0 () = y at h ⊢
  cases x with
  | none => cases h
  | some x => exact h
theorem all_iff {l : List Int} {m : Int} : zaE l m = true ↔ ∀ i, i < l.length → 0 ≤ nth l i ∧ nth l i ≤ m := by
  unfold zaE; simp only [zao]
  rw [show l.length - 0 = l.length from rfl, zdV (fun i => decide (0 ≤ nth l i) && decide (nth l i ≤ m)) (fun i next hi => by
    rw [Bool.eq_iff_iff]
    cases h : ((decide ((nth l i) < 0)) || (decide (m < (nth l i)))) with
    | true =>
      simp only [Bool.or_eq_true, decide_eq_true_eq] at h; simp only [cond_true, Bool.and_eq_true, decide_eq_true_eq]; constructor
      · intro h2; cases h2
      · rintro ⟨h2, _⟩; omega
    | false =>
      simp only [Bool.or_eq_false_iff, decide_eq_false_iff_not] at h; simp only [cond_false, Bool.and_eq_true, decide_eq_true_eq]; constructor
      · intro h2; exact ⟨by omega, h2⟩
      · rintro ⟨_, h2⟩; exact h2)]
  rw [Bool.and_eq_true, List.all_eq_true]; constructor
  · intro h i hi; have := h.1 i (List.mem_range.2 hi); simpa using this
  · intro h; exact ⟨fun i hi => by simpa using h i (List.mem_range.1 hi), rfl⟩
theorem zfg (l : List Int) (m : Int) : zav l m = zaE l m := by
  unfold zav zat zaw zaE; simp only [zao]
  have h := zcc (n := l.length) (s := ()) (t := ())
    (f := fun (i_3 : Nat) (next2 : Unit → Int) (_ : Unit) => (bif (za5 (nth l i_3) m) then (i_3 : Int) else next2 ())) (k := fun _ => -1)
    (g := fun (i_3 : Nat) (next2 : Unit → Bool) (_ : Unit) => (bif ((decide ((nth l i_3) < 0)) || (decide (m < (nth l i_3)))) then false else next2 ())) (k' := fun _ => true)
    (fun _ _ _ => True) (fun x y => (!decide (0 ≤ x)) = y) trivial (fun _ _ _ => rfl) (fun i s t next next' hi _ hn => by
      unfold za5
      cases h : ((decide ((nth l i) < 0)) || (decide (m < (nth l i)))) with
      | true => rw [cond_true, cond_true, decide_eq_true (by omega)]; rfl
      | false => rw [cond_false, cond_false]; exact hn () () trivial)
  exact h
theorem zbl {σ ρ : Type} (f : Nat → (σ → ρ) → σ → ρ) (k : σ → ρ) (m i : Nat) (s : σ) : zak f k (m + 1) i s = f i (zak f k m (i + 1)) s := rfl
structure PlanOk (p : GBidderPlan) (l : List GProduct) : Prop where
  prods : zaq l = true
  len : p.Values.length = l.length
  bid : 0 ≤ p.Bidder ∧ p.Bidder ≤ 31
  budget : 0 ≤ p.Budget ∧ p.Budget ≤ 1125899906842624
  vals : ∀ i, i < p.Values.length → (nth p.Values i).length ≤ 12 ∧ (∀ k, k < (nth p.Values i).length → 0 ≤ nth (nth p.Values i) k ∧ nth (nth p.Values i) k ≤ 549755813888) ∧ ∀ k, 0 < k → k < (nth p.Values i).length → nth (nth p.Values i) k ≤ nth (nth p.Values i) (k - 1)
def zeU (v : List Int) (r : Option Bool) : Option Bool := zak (fun (k : Nat) (next : Unit → Option Bool) (_ : Unit) => grd (0 ≤ ((k : Int) - 1) ∧ ((k : Int) - 1) < (v.length : Int)) <| (bif decide ((nth v (((k : Int) - 1).toNat)) < (nth v k)) then some false else next ())) (fun _ => r) (v.length - 1) 1 ()
def zgj (v : List Int) (r : Option Bool) : Option Bool := zak (fun (i : Nat) (next : Unit → Option Bool) (_ : Unit) => (bif ((decide (0 < (i : Int))) && (decide ((nth v (((i : Int) - 1).toNat)) < (nth v i)))) then some false else next ())) (fun _ => r) (v.length - 0) 0 ()
theorem zgc (v : List Int) (r : Option Bool) : zgj v r = zeU v r := by
  unfold zgj zeU
  cases hv : v with
  | nil => rfl
  | cons a t =>
    rw [← hv]; (have hl : v.length = t.length + 1 := by rw [hv]; rfl); rw [show v.length - 0 = (v.length - 1) + 1 by omega]; rw [zbl]; (try dsimp only); rw [decide_eq_false (show ¬ 0 < ((0 : Nat) : Int) by omega), Bool.false_and, cond_false]; refine zdS (n := v.length) (fun i _ _ => 0 < i) (fun x y => x = y) (fun _ _ _ => rfl) (fun i s t next next' hi h0 hn => ?_) _ _ _ _ (by omega) (by omega); (try dsimp only); rw [zax (by omega), decide_eq_true (show 0 < (i : Int) by omega), Bool.true_and, hn () () (by omega)]
theorem ze0 (v : List Int) (r : Option Bool) : ((∀ k, 0 < k → k < v.length → nth v k ≤ nth v (k - 1)) ∧ zeU v r = r) ∨ zeU v r = some false := by
  unfold zeU
  have key : ∀ m i, i + m = v.length → 0 < i → ((∀ k, i ≤ k → k < v.length → nth v k ≤ nth v (k - 1)) ∧ zak (fun (k : Nat) (next : Unit → Option Bool) (_ : Unit) => grd (0 ≤ ((k : Int) - 1) ∧ ((k : Int) - 1) < (v.length : Int)) <| (bif decide ((nth v (((k : Int) - 1).toNat)) < (nth v k)) then some false else next ())) (fun _ => r) m i () = r) ∨ zak (fun (k : Nat) (next : Unit → Option Bool) (_ : Unit) => grd (0 ≤ ((k : Int) - 1) ∧ ((k : Int) - 1) < (v.length : Int)) <| (bif decide ((nth v (((k : Int) - 1).toNat)) < (nth v k)) then some false else next ())) (fun _ => r) m i () = some false := by
    intro m
    induction m with
    | zero => intro i hi h0; exact .inl ⟨fun k hk hk2 => by omega, rfl⟩
    | succ m ih =>
      intro i hi h0; have h := ih (i + 1) (by omega) (by omega)
      show (_ ∧ grd _ _ = r) ∨ grd _ _ = some false
      rw [zax (by omega), show ((i : Int) - 1).toNat = i - 1 by omega]; by_cases hd : nth v (i - 1) < nth v i
      · rw [decide_eq_true hd]; exact .inr rfl
      · rw [decide_eq_false hd, cond_false]; rcases h with ⟨h1, h2⟩ | h2
        · refine .inl ⟨fun k hk hk2 => ?_, h2⟩; by_cases e : k = i
          · subst e; omega
          · exact h1 k (by omega) hk2
        · exact .inr h2
  by_cases hl : v.length = 0
  · rw [show v.length - 1 = 0 by omega]; exact .inl ⟨fun k h1 h2 => by omega, rfl⟩
  · rcases key (v.length - 1) 1 (by omega) (by omega) with ⟨h1, h2⟩ | h2
    · exact .inl ⟨fun k h3 h4 => h1 k (by omega) h4, h2⟩
    · exact .inr h2
def ze7 (p : GBidderPlan) (m i : Nat) : Option Bool := zak (fun (i : Nat) (next : Unit → Option Bool) (_ : Unit) => (bif ((decide (12 < ((nth p.Values i).length : Int))) || (!(zaE (nth p.Values i) 549755813888))) then some false else zeU (nth p.Values i) (next ()))) (fun _ => some true) m i ()
theorem zeb (p : GBidderPlan) : ∀ m i, i + m = p.Values.length → ∃ b, ze7 p m i = some b ∧ (b = true → ∀ j, i ≤ j → j < p.Values.length → (nth p.Values j).length ≤ 12 ∧ (∀ k, k < (nth p.Values j).length → 0 ≤ nth (nth p.Values j) k ∧ nth (nth p.Values j) k ≤ 549755813888) ∧ ∀ k, 0 < k → k < (nth p.Values j).length → nth (nth p.Values j) k ≤ nth (nth p.Values j) (k - 1))
  | 0, i, h => ⟨true, rfl, fun _ j h1 h2 => by omega⟩
  | m + 1, i, h => by
    obtain ⟨b, hb, hb2⟩ := zeb p m (i + 1) (by omega)
    show ∃ b, (bif _ then some false else zeU (nth p.Values i) (ze7 p m (i + 1))) = some b ∧ _
    rw [hb]
    cases hc : ((decide (12 < ((nth p.Values i).length : Int))) || (!(zaE (nth p.Values i) 549755813888))) with
    | true => exact ⟨false, rfl, fun e => by cases e⟩
    | false =>
      rw [cond_false]; simp only [Bool.or_eq_false_iff, decide_eq_false_iff_not, Bool.not_eq_false'] at hc; have hal := all_iff.1 hc.2; rcases ze0 (nth p.Values i) (some b) with ⟨h1, h2⟩ | h2
      · rw [h2]; refine ⟨b, rfl, fun e j hj hj2 => ?_⟩; by_cases ej : j = i
        · subst ej; exact ⟨by omega, hal, h1⟩
        · exact hb2 e j (by omega) hj2
      · rw [h2]; exact ⟨false, rfl, fun e => by cases e⟩
theorem zdu (p : GBidderPlan) (l : List GProduct) : zaN p l = bif ((((((!(zaq l)) || (decide (¬ (p.Values.length : Int) = (l.length : Int)))) || (decide (p.Bidder < 0))) || (decide (31 < p.Bidder))) || (decide (p.Budget < 0))) || (decide (1125899906842624 < p.Budget))) then some false else ze7 p p.Values.length 0 := by
  unfold zaN ze7 zeU; simp only [zao]
  rfl
theorem zcU (p : GBidderPlan) (l : List GProduct) : ∃ b, zaN p l = some b ∧ (b = true → PlanOk p l) := by
  rw [zdu]; obtain ⟨b, hb, hb2⟩ := zeb p p.Values.length 0 (by omega); rw [hb]
  cases hc : ((((((!(zaq l)) || (decide (¬ (p.Values.length : Int) = (l.length : Int)))) || (decide (p.Bidder < 0))) || (decide (31 < p.Bidder))) || (decide (p.Budget < 0))) || (decide (1125899906842624 < p.Budget))) with
  | true => exact ⟨false, rfl, fun e => by cases e⟩
  | false =>
    simp only [Bool.or_eq_false_iff, decide_eq_false_iff_not, Bool.not_eq_false'] at hc; exact ⟨b, rfl, fun e => ⟨hc.1.1.1.1.1, by omega, by omega, by omega, fun i hi => hb2 e i (by omega) hi⟩⟩
theorem zgg (p : GBidderPlan) : zak (fun (i_9 : Nat) (next8 : Unit → Option Bool) (_ : Unit) => (bif ((decide (12 < ((nth p.Values i_9).length : Int))) || (!(zav (nth p.Values i_9) 549755813888))) then some false else zgj (nth p.Values i_9) (next8 ()))) (fun _ => some true) (p.Values.length - 0) 0 () = ze7 p p.Values.length 0 := by
  unfold ze7; refine zcc (n := p.Values.length) (fun _ _ _ => True) (fun x y => x = y) trivial (fun _ _ _ => rfl) (fun i s t next next' hi _ hn => ?_); (try dsimp only); rw [zfg, zgc, hn () () trivial]
theorem zcb (p : GBidderPlan) (l : List GProduct) : zaP p l = zaN p l := by
  rw [zdu]; unfold zaP; rw [pvalid, Option.bind_some]; simp only [zao]; have h := zgg p; unfold zgj at h; generalize zak _ _ (p.Values.length - 0) 0 () = x at h ⊢; subst h; generalize ze7 p p.Values.length 0 = y; (have e1 : decide (32 ≤ p.Bidder) = decide (31 < p.Bidder) := by rw [Bool.eq_iff_iff]; simp; omega); rw [e1]
  cases zaq l <;> cases decide (p.Bidder < 0) <;> cases decide (31 < p.Bidder) <;> cases decide (p.Budget < 0) <;> cases decide (1125899906842624 < p.Budget) <;> cases decide (¬ (p.Values.length : Int) = (l.length : Int)) <;> rfl
theorem zca (l : List GProduct) (prices : List Int) : zai l prices = (decide ((prices.length : Int) = (l.length : Int)) && zaE prices 549755813888) := by
  unfold zai; rw [zfg]
theorem zbN {α : Type} [Inhabited α] {d : List α} {i : Nat} {x : α} (h : i < d.length) : nth (d.set i x) i = x := by
  unfold nth; rw [List.getD_eq_getElem?_getD, List.getElem?_set_self h]; rfl
theorem zcQ {α : Type} [Inhabited α] {d : List α} {i j : Nat} {x : α} (h : j ≠ i) : nth (d.set i x) j = nth d j := by
  unfold nth; rw [List.getD_eq_getElem?_getD, List.getD_eq_getElem?_getD, List.getElem?_set_ne (fun e => h e.symm)]
theorem zep {α : Type} [Inhabited α] {d : List α} {i : Nat} (h : i < d.length) : d.set i (nth d i) = d := by
  rw [zbb h]; exact List.set_getElem_self h
def redN (B pr : Int) : Nat → Int → Nat × Int
  | 0, c => (0, c)
  | n + 1, c => bif decide (B < c) then redN B pr n (c - pr) else (n + 1, c)
def redL (B : Int) (prices : List Int) : Nat → Int → List Int → List Int
  | 0, _, d => d
  | i + 1, c, d => redL B prices i (redN B (nth prices i) (nth d i).toNat c).2 (d.set i ((redN B (nth prices i) (nth d i).toNat c).1 : Int))
theorem zgK {B pr c : Int} {n : Nat} (h : c ≤ B) : redN B pr n c = (n, c) := by
  cases n with
  | zero => rfl
  | succ n => rw [redN, decide_eq_false (by omega), cond_false]
theorem ze6 {B pr : Int} (hB : 0 ≤ B) (hp : 0 ≤ pr ∧ pr ≤ 549755813888) : ∀ (n : Nat) (c : Int), -549755813888 ≤ c → c ≤ 1125899906842624 → (redN B pr n c).1 ≤ n ∧ -549755813888 ≤ (redN B pr n c).2 ∧ (redN B pr n c).2 ≤ 1125899906842624
  | 0, c, h1, h2 => ⟨Nat.le_refl _, h1, h2⟩
  | n + 1, c, h1, h2 => by
    rw [redN]; by_cases h : B < c
    · rw [decide_eq_true h, cond_true]; have := ze6 hB hp n (c - pr) (by omega) (by omega); omega
    · rw [decide_eq_false h, cond_false]; exact ⟨Nat.le_refl _, h1, h2⟩
theorem zfN {B : Int} {prices : List Int} : ∀ (i : Nat) (c : Int) (d : List Int), c ≤ B → i ≤ d.length → (∀ j, j < d.length → 0 ≤ nth d j) → redL B prices i c d = d
  | 0, c, d, _, _, _ => rfl
  | i + 1, c, d, h, hi, hd => by
    have h0 := hd i (by omega); rw [redL, zgK h]; rw [show (((nth d i).toNat : Nat) : Int) = nth d i by omega, zep (by omega)]; exact zfN i c d h (by omega) hd
structure DemOk (l : List GProduct) (d : List Int) : Prop where
  len : d.length = l.length
  bd : ∀ j, j < l.length → 0 ≤ nth d j ∧ nth d j ≤ (nth l j).Supply
theorem DemOk.set {l : List GProduct} {d : List Int} (h : DemOk l d) {i : Nat} {x : Int} (h0 : 0 ≤ x) (h1 : x ≤ nth d i) (hi : i < l.length) : DemOk l (d.set i x) := by
  refine ⟨by rw [List.length_set]; exact h.len, fun j hj => ?_⟩; by_cases e : j = i
  · subst e; rw [zbN (by rw [h.len]; exact hj)]; have := h.bd j hj; omega
  · rw [zcQ e]; exact h.bd j hj
theorem zfZ {B : Int} {prices : List Int} {l : List GProduct} (hB : 0 ≤ B) (hp : ∀ j, j < l.length → 0 ≤ nth prices j ∧ nth prices j ≤ 549755813888) : ∀ (i : Nat) (c : Int) (d : List Int), i ≤ l.length → DemOk l d → -549755813888 ≤ c → c ≤ 1125899906842624 → DemOk l (redL B prices i c d)
  | 0, c, d, _, h, _, _ => h
  | i + 1, c, d, hi, h, h1, h2 => by
    rw [redL]; have hb := ze6 hB (hp i (by omega)) (nth d i).toNat c h1 h2; have hd := h.bd i (by omega); exact zfZ hB hp i _ _ (by omega) (h.set (by omega) (by omega) (by omega)) hb.2.1 hb.2.2
section
variable {B : Int} {prices : List Int} {l : List GProduct} {ρ : Type}
theorem zgr (hB : 0 ≤ B) (hp : ∀ j, j < l.length → 0 ≤ nth prices j ∧ nth prices j ≤ 549755813888) {i : Nat} (hi : i < l.length) (hs : (nth l i).Supply ≤ 12) (K : (Int × List Int) → Option ρ) : ∀ (n fuel : Nat) (c : Int) (d : List Int), DemOk l d → nth d i = (n : Int) → n < fuel → -549755813888 ≤ c → c ≤ 1125899906842624 →
    zay (fun (next30 : (Int × List Int) → Option ρ) (s30 : Int × List Int) =>
            grd (0 ≤ (i : Int) ∧ (i : Int) < (s30.2.length : Int)) <|
            (bif ((decide (0 < (nth s30.2 i))) && (decide (B < s30.1))) then
              grd (0 ≤ (i : Int) ∧ (i : Int) < (s30.2.length : Int)) <|
              next30 (wI (s30.1 - (nth prices i)), (s30.2.set i (wI ((nth s30.2 i) - 1))))
              else
              K (s30.1, s30.2))) fuel (c, d) = K ((redN B (nth prices i) n c).2, d.set i ((redN B (nth prices i) n c).1 : Int))
  | n, 0, c, d, _, _, h, _, _ => by omega
  | 0, fuel + 1, c, d, hd, hn, _, h1, h2 => by
    show grd _ _ = _
    have hl := hd.len; dsimp only; rw [zax (by omega), hn, decide_eq_false (by omega), Bool.false_and, cond_false]
    show K (c, d) = K (c, d.set i 0)
    rw [show (0 : Int) = nth d i by omega, zep (by omega)]
  | n + 1, fuel + 1, c, d, hd, hn, hf, h1, h2 => by
    show grd _ _ = _
    have hl := hd.len; have hb := hd.bd i hi; have hpi := hp i hi; dsimp only; rw [zax (by omega), decide_eq_true (show 0 < nth d i by omega), Bool.true_and]; by_cases h : B < c
    · rw [decide_eq_true h, cond_true, zax (by omega), zbW (by omega), zbW (by omega)]; have ih := zgr hB hp hi hs K n fuel (c - nth prices i) (d.set i (nth d i - 1)) (hd.set (by omega) (by omega) hi) (by rw [zbN (by omega)]; omega) (by omega) (by omega) (by omega); rw [ih, List.set_set, redN, decide_eq_true h, cond_true]
    · rw [decide_eq_false h, cond_false, redN, decide_eq_false h, cond_false]; dsimp only; rw [← hn, zep (by omega)]
theorem zfV (hB : 0 ≤ B) (hp : ∀ j, j < l.length → 0 ≤ nth prices j ∧ nth prices j ≤ 549755813888) (hs : ∀ j, j < l.length → (nth l j).Supply ≤ 12) {fuel : Nat} (hf : 12 < fuel) (k : Int × List Int → Option ρ) : ∀ (i : Nat) (c : Int) (d : List Int), i ≤ l.length → DemOk l d → -549755813888 ≤ c → c ≤ 1125899906842624 →
    ∃ c', zcs (fun (i_26 : Nat) (next25 : (Int × List Int) → Option ρ) (s25 : Int × List Int) =>
          zay (fun (next30 : (Int × List Int) → Option ρ) (s30 : Int × List Int) =>
            grd (0 ≤ (i_26 : Int) ∧ (i_26 : Int) < (s30.2.length : Int)) <|
            (bif ((decide (0 < (nth s30.2 i_26))) && (decide (B < s30.1))) then
              grd (0 ≤ (i_26 : Int) ∧ (i_26 : Int) < (s30.2.length : Int)) <|
              next30 (wI (s30.1 - (nth prices i_26)), (s30.2.set i_26 (wI ((nth s30.2 i_26) - 1))))
              else
              next25 (s30.1, s30.2))) fuel (s25.1, s25.2)) k i (c, d) = k (c', redL B prices i c d)
  | 0, c, d, _, _, _, _ => ⟨c, rfl⟩
  | i + 1, c, d, hi, hd, h1, h2 => by
    have hdi := hd.bd i (by omega); have hsi := hs i (by omega); have hb := ze6 hB (hp i (by omega)) (nth d i).toNat c h1 h2; obtain ⟨c', hc⟩ := zfV hB hp hs hf k i (redN B (nth prices i) (nth d i).toNat c).2 (d.set i ((redN B (nth prices i) (nth d i).toNat c).1 : Int)) (by omega) (hd.set (by omega) (by omega) (by omega)) hb.2.1 hb.2.2; refine ⟨c', ?_⟩
    show zay _ fuel (c, d) = _
    rw [zgr hB hp (by omega) hsi _ (nth d i).toNat fuel c d hd (by omega) (by omega) h1 h2]; exact hc
def totL (d : List Int) : Nat → Nat
  | 0 => 0
  | i + 1 => totL d i + (nth d i).toNat
theorem zfk {d : List Int} {x : Int} {i : Nat} : ∀ (m : Nat), m ≤ i → totL (d.set i x) m = totL d m
  | 0, _ => rfl
  | m + 1, h => by rw [totL, totL, zfk m (by omega), zcQ (by omega)]
theorem zeq (hB : 0 ≤ B) (hpl : prices.length = l.length) (hp : ∀ j, j < l.length → 0 ≤ nth prices j ∧ nth prices j ≤ 549755813888) (hs : ∀ j, j < l.length → (nth l j).Supply ≤ 12) (k : List Int → Option ρ) : ∀ (fuel i : Nat) (c : Int) (d : List Int), i ≤ l.length → l.length ≤ 1000 → DemOk l d → totL d i + i < fuel → -549755813888 ≤ c → c ≤ 1125899906842624 →
    zay (fun (next21 : (Int × Int × List Int) → Option ρ) (s21 : Int × Int × List Int) =>
          (bif ((decide (B < s21.1)) && (decide (0 ≤ s21.2.1))) then
            grd (0 ≤ s21.2.1 ∧ s21.2.1 < (s21.2.2.length : Int)) <|
            (bif decide ((nth s21.2.2 s21.2.1.toNat) = 0) then
              next21 (s21.1, wI (s21.2.1 - 1), s21.2.2)
              else
              grd (0 ≤ s21.2.1 ∧ s21.2.1 < (prices.length : Int)) <|
              next21 (wI (s21.1 - (nth prices s21.2.1.toNat)), s21.2.1, (s21.2.2.set s21.2.1.toNat (wI ((nth s21.2.2 s21.2.1.toNat) - 1)))))
            else
            k s21.2.2)) fuel (c, (i : Int) - 1, d) = k (redL B prices i c d)
  | 0, i, c, d, _, _, _, h, _, _ => by omega
  | fuel + 1, i, c, d, hi, hn, hd, hf, h1, h2 => by
    have hl := hd.len
    show (bif _ then _ else _) = _
    dsimp only; by_cases h : B < c
    · rw [decide_eq_true h, Bool.true_and]
      cases i with
      | zero => rw [decide_eq_false (by omega), cond_false]; rfl
      | succ i =>
        have hdi := hd.bd i (by omega); have hsi := hs i (by omega); have hpi := hp i (by omega); rw [decide_eq_true (by omega), cond_true, zax (by omega), show ((((i + 1 : Nat) : Int) - 1)).toNat = i by omega]; by_cases hz : nth d i = 0
        · rw [decide_eq_true hz, cond_true, zbW (by omega)]; rw [show (((i + 1 : Nat) : Int) - 1 - 1) = (i : Int) - 1 by omega]; rw [zeq hB hpl hp hs k fuel i c d (by omega) hn hd (by rw [totL] at hf; omega) h1 h2]; rw [redL, hz]
          show _ = k (redL B prices i c (d.set i 0))
          rw [← hz, zep (by omega)]
        · rw [decide_eq_false hz, cond_false, zax (by omega), zbW (by omega), zbW (by omega)]
          rw [zeq hB hpl hp hs k fuel (i + 1) (c - nth prices i) (d.set i (nth d i - 1)) hi hn (hd.set (by omega) (by omega) (by omega)) (by
            rw [totL] at hf ⊢; rw [zfk i (Nat.le_refl _), zbN (by omega)]
            omega) (by omega) (by omega)]
          rw [redL, redL, zbN (by omega), List.set_set]; obtain ⟨n, hn⟩ : ∃ n : Nat, nth d i = ((n + 1 : Nat) : Int) := ⟨(nth d i).toNat - 1, by omega⟩; rw [hn, show (((n + 1 : Nat) : Int) - 1).toNat = n by omega, show (((n + 1 : Nat) : Int)).toNat = n + 1 by omega]; rw [show redN B (nth prices i) (n + 1) c = redN B (nth prices i) n (c - nth prices i) by rw [redN, decide_eq_true h, cond_true]]
    · rw [decide_eq_false h, Bool.false_and, cond_false, zfN i c d (by omega) (by omega) (fun j hj => (hd.bd j (by omega)).1)]
end
def csum (prices d : List Int) : Nat → Int
  | 0 => 0
  | i + 1 => csum prices d i + nth prices i * nth d i
theorem zfs {prices d : List Int} {x : Int} {i : Nat} : ∀ (m : Nat), m ≤ i → csum prices (d.set i x) m = csum prices d m
  | 0, _ => rfl
  | m + 1, h => by rw [csum, csum, zfs m (by omega), zcQ (by omega)]
theorem zgw {a b : Int} (h1 : 0 ≤ a) (h2 : a ≤ 549755813888) (h3 : 0 ≤ b) (h4 : b ≤ 12) : 0 ≤ a * b ∧ a * b ≤ 6597069766656 := by
  have h5 := Int.mul_nonneg h1 h3; have h6 := Int.mul_le_mul h2 h4 h3 (by omega : (0 : Int) ≤ 549755813888); omega
theorem zdm {prices d : List Int} {n : Nat} (hp : ∀ j, j < n → 0 ≤ nth prices j ∧ nth prices j ≤ 549755813888) (hd : ∀ j, j < n → 0 ≤ nth d j ∧ nth d j ≤ 12) : ∀ (m : Nat), m ≤ n → 0 ≤ csum prices d m ∧ csum prices d m ≤ (m : Int) * 6597069766656
  | 0, _ => ⟨Int.le_refl _, by simp [csum]⟩
  | m + 1, h => by
    have h1 := zdm hp hd m (by omega); have h2 := hp m (by omega); have h3 := hd m (by omega); have h4 := zgw h2.1 h2.2 h3.1 h3.2; rw [csum]; generalize nth prices m * nth d m = z at *; omega
structure CntI (l : List GProduct) (i : Nat) (d : List Int) : Prop where
  len : d.length = l.length
  done : ∀ j, j < l.length → 0 ≤ nth d j ∧ nth d j ≤ 12 ∧ (j < i → nth d j ≤ (nth l j).Supply) ∧ (i ≤ j → nth d j = 0)
theorem ok12 {l : List GProduct} (h : ∀ j, j < l.length → okR (nth l j) = true) {j : Nat} (hj : j < l.length) : 1 ≤ (nth l j).Supply ∧ (nth l j).Supply ≤ 12 := by
  have := h j hj; rw [zcE] at this; omega
theorem zgR (p : GProduct) : ((((((((((decide (p.Area < 0)) || (decide (63 < p.Area))) || (decide (p.Category < 1))) || (decide (2 < p.Category))) || (decide (p.Supply < 1))) || (decide (12 < p.Supply))) || (decide (p.Units < 1))) || (decide (100000 < p.Units))) || (decide (p.Reserve < 0))) || (decide (549755813888 < p.Reserve))) = !okR p := by unfold okR; rw [Bool.not_not]
theorem zdM {l : List GProduct} (h : zaq l = true) : ∀ j, j < l.length → okR (nth l j) = true := by
  have key : ∀ m i, i + m = l.length → zak (fun (i_3 : Nat) (next2 : Unit → Bool) (_ : Unit) =>
      (bif ((((((((((decide ((nth l i_3).Area < 0)) || (decide (63 < (nth l i_3).Area))) || (decide ((nth l i_3).Category < 1))) || (decide (2 < (nth l i_3).Category))) || (decide ((nth l i_3).Supply < 1))) || (decide (12 < (nth l i_3).Supply))) || (decide ((nth l i_3).Units < 1))) || (decide (100000 < (nth l i_3).Units))) || (decide ((nth l i_3).Reserve < 0))) || (decide (549755813888 < (nth l i_3).Reserve))) then
        false
        else
        (bif decide (0 < (i_3 : Int)) then
          (bif ((decide ((nth l i_3).Area < (nth l (((i_3 : Int) - 1).toNat)).Area)) || ((decide ((nth l i_3).Area = (nth l (((i_3 : Int) - 1).toNat)).Area)) && ((decide ((nth l i_3).Category ≤ (nth l (((i_3 : Int) - 1).toNat)).Category)) || (decide (12 < wI (((nth l i_3).Supply) + ((nth l (((i_3 : Int) - 1).toNat)).Supply))))))) then
            false
            else
            next2 ())
          else
          next2 ()))) (fun _ => true) m i () = true → ∀ j, i ≤ j → j < l.length → okR (nth l j) = true := by
    intro m
    induction m with
    | zero => intro i hi _ j h1 h2; omega
    | succ m ih =>
      intro i hi h j h1 h2; rw [zbl] at h; (try dsimp only at h); rw [zgR] at h
      have e : okR (nth l i) = true := by
        cases hc : okR (nth l i) with
        | true => rfl
        | false => rw [hc] at h; cases h
      rw [e, Bool.not_true, cond_false] at h; have h9 := h; by_cases hj : j = i
      · subst hj; exact e
      · refine ih (i + 1) (by omega) ?_ j (by omega) h2; generalize zak _ _ m (i + 1) () = y at h9 ⊢
        revert h9
        cases decide (0 < (i : Int))
        · exact id
        · rw [cond_true]; generalize (_ || _ : Bool) = z
          cases z
          · exact id
          · intro h; cases h
  unfold zaq at h; simp only [zao] at h; intro j hj; exact key (l.length - 0) 0 (by omega) h j (by omega) hj
theorem zgE {l : List GProduct} {d : List Int} (h : DemOk l d) : zbd l d = true := by
  unfold zbd; rw [decide_eq_false (by have := h.len; omega), cond_false]; simp only [zao]
  rw [show d.length - 0 = d.length from rfl, zdV (fun _ => true) (fun i next hi => by
    have := h.bd i (by have := h.len; omega)
    rw [decide_eq_false (by omega), decide_eq_false (by omega)]; rfl)]
  simp
theorem zhn {l : List GProduct} {prices d : List Int} (hv : zaq l = true) (hd : DemOk l d) (hpl : prices.length = l.length) (hn : l.length ≤ 100) (hp : ∀ j, j < l.length → 0 ≤ nth prices j ∧ nth prices j ≤ 549755813888) : zbR l prices d = some (csum prices d l.length, 0) := by
  unfold zbR zbi; rw [pvalid, Option.bind_some, hv, zgE hd, Option.bind_some]; rw [show (!(true && true) || decide (¬ (prices.length : Int) = (l.length : Int))) = false by rw [hpl]; simp, cond_false]; simp only [zao]; have hl := hd.len; have hok := zdM hv; (have h12 : ∀ j, j < l.length → 0 ≤ nth d j ∧ nth d j ≤ 12 := fun j hj => by have := hd.bd j hj; have := ok12 hok hj; omega)
  have key : ∀ m i, i + m = l.length → zak (fun (i_7 : Nat) (next6 : Int → Option (Int × Int)) (sum_5 : Int) =>
        (bif ((decide ((nth prices i_7) < 0)) || (decide (549755813888 < (nth prices i_7)))) then
          some (0, 2)
          else
          grd (0 ≤ (i_7 : Int) ∧ (i_7 : Int) < (d.length : Int)) <|
          next6 (wI (sum_5 + (wI ((nth prices i_7) * (nth d i_7))))))) (fun s => some (s, 0)) m i (csum prices d i) = some (csum prices d l.length, 0) := by
    intro m
    induction m with
    | zero => intro i hi; rw [show i = l.length by omega]; rfl
    | succ m ih =>
      intro i hi; have h1 := hp i (by omega); have h2 := h12 i (by omega); have h3 := zgw h1.1 h1.2 h2.1 h2.2; have h4 := zdm hp h12 i (by omega); rw [zbl]; (try dsimp only); rw [decide_eq_false (by omega), decide_eq_false (by omega), Bool.or_self, cond_false, zax (by omega)]; have h5 := ih (i + 1) (by omega); rw [csum] at h5; generalize nth prices i * nth d i = z at *; rw [zbW (show -9223372036854775808 ≤ z ∧ z ≤ 9223372036854775807 by omega), zbW (by omega)]; exact h5
  rw [hpl]; exact key (l.length - 0) 0 (by omega)
theorem CntI.next {l : List GProduct} {i : Nat} {d : List Int} (h : CntI l i d) (hs : i < l.length → 1 ≤ (nth l i).Supply) : CntI l (i + 1) d :=
  ⟨h.len, fun j hj => by
    have h1 := h.done j hj; refine ⟨h1.1, h1.2.1, fun h2 => ?_, fun h2 => h1.2.2.2 (by omega)⟩; by_cases e : j < i
    · exact h1.2.2.1 e
    · have := h1.2.2.2 (by omega); (have e2 : j = i := by omega); subst e2; have := hs hj
      omega⟩
theorem zf9 {p : GBidderPlan} {l : List GProduct} {prices : List Int} {fuel : Nat} (hf : 10000 ≤ fuel) (hn : l.length ≤ 100) :
    (zaI fuel p l prices = some ([], 2) ∧ zbk fuel p l prices = some ([], 2) ∧ (zaN p l = some false ∨ zai l prices = false)) ∨
    (zaN p l = some true ∧ zai l prices = true ∧ PlanOk p l ∧ prices.length = l.length ∧ (∀ j, j < l.length → 0 ≤ nth prices j ∧ nth prices j ≤ 549755813888) ∧ ∃ d, CntI l l.length d ∧ DemOk l d ∧ zaI fuel p l prices = some (redL p.Budget prices l.length (csum prices d l.length) d, 0) ∧ zbk fuel p l prices = some (redL p.Budget prices l.length (csum prices d l.length) d, 0)) := by
  obtain ⟨b, hb, hok⟩ := zcU p l
  cases hv : (b && zai l prices) with
  | false =>
    left; refine ⟨?_, ?_, ?_⟩
    · unfold zaI; rw [zcb, hb, Option.bind_some]
      cases b
      · rfl
      · rw [Bool.true_and] at hv; rw [hv]; rfl
    · unfold zbk; rw [hb, Option.bind_some]
      cases b
      · rfl
      · rw [Bool.true_and, zca] at hv; by_cases hpl : prices.length = l.length
        · rw [decide_eq_true (show (prices.length : Int) = (l.length : Int) by omega), Bool.true_and] at hv; rw [hv]; simp
        · rw [decide_eq_true (show ¬ (prices.length : Int) = (l.length : Int) by omega)]; rfl
    · cases b
      · exact .inl hb
      · exact .inr (by simpa using hv)
  | true =>
      right; rw [Bool.and_eq_true] at hv; obtain ⟨rfl, hvp⟩ := hv; refine ⟨hb, hvp, ?_⟩; rw [zca, Bool.and_eq_true, decide_eq_true_eq] at hvp; (have hpl : prices.length = l.length := by omega); have hal := hvp.2; unfold zaI zbk; rw [zcb, zca, hb, Option.bind_some, Option.bind_some, decide_eq_true (show (prices.length : Int) = (l.length : Int) by omega), decide_eq_false (show ¬ ¬ (prices.length : Int) = (l.length : Int) by omega), hal]; have hpl2 := hok rfl; have hp : ∀ j, j < l.length → 0 ≤ nth prices j ∧ nth prices j ≤ 549755813888 := fun j hj => all_iff.1 hal j (by omega); have hR := zdM hpl2.prods; refine ⟨hpl2, hpl, hp, ?_⟩; rw [show (!true || !(true && true)) = false from rfl, cond_false, show (!true || false || !true) = false from rfl, cond_false]; unfold zaL; rw [zax (show room l.length 8 by unfold room; omega), zax (show room l.length 8 by unfold room; omega)]; simp only [zao]
      let post : Option (List Int × Int) → Option (List Int × Int) → Prop := fun x y => ∃ d, CntI l l.length d ∧ DemOk l d ∧ (x.bind fun r21 => some (r21.1, r21.2)) = some (redL p.Budget prices l.length (csum prices d l.length) d, 0) ∧ y = some (redL p.Budget prices l.length (csum prices d l.length) d, 0)
      generalize hx : zak _ _ (l.length - 0) 0 (List.replicate l.length (0 : Int)) = x; generalize hy : zak _ _ (l.length - 0) 0 ((0 : Int), List.replicate l.length (0 : Int)) = y
      show post x y
      rw [← hx, ← hy]; refine zcc (n := l.length) (fun i (d : List Int) (s : Int × List Int) => s.2 = d ∧ s.1 = csum prices d i ∧ CntI l i d) post ?_ (fun d s hR2 => ?_) (fun i d s next next' hi hR2 hnx => ?_)
      · refine ⟨rfl, rfl, List.length_replicate, fun j hj => ?_⟩; (have e : nth (List.replicate l.length (0 : Int)) j = 0 := by rw [zbb (by simpa using hj)]; simp); have := ok12 hR hj; rw [e]; omega
      · obtain ⟨h1, h2, h3⟩ := hR2; obtain ⟨c, d'⟩ := s; dsimp only at h1 h2; subst h1 h2; have hd : DemOk l d' := ⟨h3.len, fun j hj => by have := h3.done j hj; exact ⟨this.1, this.2.2.1 (by omega)⟩⟩; (have h12 : ∀ j, j < l.length → 0 ≤ nth d' j ∧ nth d' j ≤ 12 := fun j hj => by have := h3.done j hj; omega); have hcb := zdm hp h12 l.length (Nat.le_refl _); refine ⟨d', h3, hd, ?_, ?_⟩
        · rw [zhn hpl2.prods hd hpl hn hp, Option.bind_some, decide_eq_false (by simp), cond_false]; (try dsimp only)
          have hpr := zeq (ρ := List Int × Int) hpl2.budget.1 hpl hp (fun j hj => (ok12 hR hj).2) (fun l_16 => some (l_16, 0)) fuel l.length (csum prices d' l.length) d' (Nat.le_refl _) (by omega) hd (by
            have ht : ∀ m, m ≤ l.length → totL d' m ≤ m * 12 := by
              intro m
              induction m with
              | zero => intro _; exact Nat.le_refl _
              | succ m ih =>
                intro hm; have := ih (by omega); have := h12 m (by omega); rw [totL]; omega
            have := ht l.length (Nat.le_refl _)
            omega) (by omega) (by omega)
          rw [hpr]
          rfl
        · obtain ⟨c', hc⟩ := zfV hpl2.budget.1 hp (fun j hj => (ok12 hR hj).2) (show 12 < fuel by omega) (fun (s25 : Int × List Int) => some (s25.2, (0 : Int))) l.length (csum prices d' l.length) d' (Nat.le_refl _) hd (by omega) (by omega); exact hc
      · obtain ⟨h1, h2, h3⟩ := hR2; obtain ⟨c, d'⟩ := s; dsimp only at h1 h2; subst h1 h2; (try dsimp only); have hvl := hpl2.len; have hpi := hp i hi; rw [zax (by omega), zax (by omega)]; have hcs := ok12 hR hi; refine zcc (n := (nth p.Values i).length) (fun _ (d : List Int) (s : Int × List Int) => s.2 = d ∧ s.1 = csum prices d (i + 1) ∧ CntI l (i + 1) d) post ?_ (fun d s hR2 => ?_) (fun k d s next next' hk hR2 hnx => ?_)
        · refine ⟨rfl, ?_, h3.next fun _ => hcs.1⟩
          show csum prices d' i = csum prices d' i + nth prices i * nth d' i
          rw [(h3.done i hi).2.2.2 (Nat.le_refl _), Int.mul_zero, Int.add_zero]
        · obtain ⟨h1, h2, h4⟩ := hR2; exact hnx d (s.1, s.2) ⟨h1, h2, h4⟩
        · obtain ⟨h1, h2, h4⟩ := hR2; obtain ⟨c, d'⟩ := s; dsimp only at h1 h2; subst h1 h2; (try dsimp only); have hl4 := h4.len; rw [zax (by omega)]; by_cases hv : nth prices i ≤ nth (nth p.Values i) k
          · rw [decide_eq_true hv, cond_true, cond_true, zax (by omega), zax (by omega)]; by_cases hs : nth d' i < (nth l i).Supply
            · rw [decide_eq_true hs, cond_true, cond_true, zax (by omega), zax (by omega)]; have hdi := h4.done i hi; (have h12 : ∀ j, j < l.length → 0 ≤ nth d' j ∧ nth d' j ≤ 12 := fun j hj => by have := h4.done j hj; omega); have hcb := zdm hp h12 (i + 1) (by omega); rw [zbW (show -9223372036854775808 ≤ nth d' i + 1 ∧ nth d' i + 1 ≤ 9223372036854775807 by omega), zbW (by omega)]; refine hnx _ _ ⟨rfl, ?_, ?_⟩
              · show csum prices d' (i + 1) + nth prices i = csum prices (d'.set i (nth d' i + 1)) (i + 1)
                rw [csum, csum, zfs i (Nat.le_refl _), zbN (by omega), Int.mul_add, Int.mul_one, Int.add_assoc]
              · refine ⟨by rw [List.length_set]; exact h4.len, fun j hj => ?_⟩; by_cases e : j = i
                · subst e; rw [zbN (by omega)]; omega
                · rw [zcQ e]; exact h4.done j hj
            · rw [decide_eq_false hs, cond_false, cond_false]
              first | rw [zax (by omega)] | skip
              exact hnx d' (csum prices d' (i + 1), d') ⟨rfl, rfl, h4⟩
          · rw [decide_eq_false hv, cond_false, cond_false, cond_false, cond_false]; exact hnx d' (csum prices d' (i + 1), d') ⟨rfl, rfl, h4⟩
theorem zfH (n : Nat) : zbz (n + 100000) = some true := by kernel_rfl
theorem zfK {fuel : Nat} (hf : 100000 ≤ fuel) : zbz fuel = some true := by
  obtain ⟨n, rfl⟩ : ∃ n, fuel = n + 100000 := ⟨fuel - 100000, by omega⟩; exact zfH n
theorem zgP {p : GBidderPlan} {l : List GProduct} (h : zbw p l = true) : p.Values.length ≤ 8 ∧ l.length ≤ 8 := by
  unfold zbw at h; simp only [zao] at h
  have key : ∀ m i, zak (fun (i_3 : Nat) (next2 : Unit → Bool) (_ : Unit) => (bif decide (16 < ((nth p.Values i_3).length : Int)) then false else next2 ())) (fun _ => ((decide ((p.Values.length : Int) ≤ 8)) && (decide ((l.length : Int) ≤ 8)))) m i () = true → p.Values.length ≤ 8 ∧ l.length ≤ 8 := by
    intro m
    induction m with
    | zero => intro i h; have h2 : ((decide ((p.Values.length : Int) ≤ 8)) && (decide ((l.length : Int) ≤ 8))) = true := h; simp only [Bool.and_eq_true, decide_eq_true_eq] at h2; omega
    | succ m ih =>
      intro i h; rw [zbl] at h; (try dsimp only at h)
      cases hc : decide (16 < ((nth p.Values i).length : Int)) with
      | true => rw [hc] at h; cases h
      | false => rw [hc] at h; exact ih (i + 1) h
  exact key _ _ h
def valI (v : List Int) (k : Int) : Int := if k < (v.length : Int) then nth v k.toNat else 0
def ptI (v : List Int) (k s c : Int) : Int := if s < c ∧ valI v k < c then (max (valI v k - s) 0 * 1000) / (c - s) else 1000
structure PtIn (v : List Int) (s c : Int) : Prop where
  hv : ∀ k, k < v.length → 0 ≤ nth v k ∧ nth v k ≤ 549755813888
  hs : 0 ≤ s
  hsc : s ≤ c
  hc : c ≤ 549755813888
theorem PtIn.val {v : List Int} {s c : Int} (h : PtIn v s c) (k : Int) (hk : 0 ≤ k) : 0 ≤ valI v k ∧ valI v k ≤ 549755813888 := by
  unfold valI
  split
  · exact h.hv k.toNat (by omega)
  · omega
theorem zgy {v : List Int} {s c k : Int} (h : PtIn v s c) (hk : 0 ≤ k) : 0 ≤ ptI v k s c ∧ ptI v k s c ≤ 1000 := by
  have h1 := h.val k hk; have h2 := h.hs; unfold ptI
  split
  · rename_i hc; constructor
    · exact Int.ediv_nonneg (by omega) (by omega)
    · (have : max (valI v k - s) 0 * 1000 < (c - s) * 1001 := by omega); have h3 := Int.ediv_lt_of_lt_mul (by omega : 0 < c - s) (show max (valI v k - s) 0 * 1000 < 1001 * (c - s) by rw [Int.mul_comm 1001]; exact this); omega
  · omega
theorem zgQ {v : List Int} {s c k : Int} (h : PtIn v s c) (hk : 0 ≤ k) : za4 v k s c = some (ptI v k s c) := by
  have h1 := h.val k hk; have h2 := h.hs; have h3 := h.hsc; have h4 := h.hc
  have e : za4 v k s c = (bif ((decide (c = s)) || (decide (c ≤ valI v k))) then
      some 1000
      else
      (bif decide (valI v k < s) then
        some 0
        else
        grd (0 ≤ wI ((wI (valI v k - s)) * 1000) ∧ wI ((wI (valI v k - s)) * 1000) ≤ 9223372036854775807 ∧ 1 ≤ wI (c - s)) <|
        some ((wI ((wI (valI v k - s)) * 1000)) / (wI (c - s))))) := by
    unfold za4 valI; simp only [zao]; by_cases hv : k < (v.length : Int)
    · rw [decide_eq_true hv, cond_true, zax (by omega), if_pos hv]
    · rw [decide_eq_false hv, cond_false, if_neg hv]
  rw [e]; unfold ptI; generalize valI v k = z at *; by_cases hc : s < c ∧ z < c
  · rw [decide_eq_false (by omega), decide_eq_false (by omega), Bool.or_self, cond_false, if_pos hc]; by_cases hs : z < s
    · rw [decide_eq_true hs, cond_true, show max (z - s) 0 = 0 by omega, Int.zero_mul, Int.zero_ediv]
    · rw [decide_eq_false hs, cond_false]; have w1 : wI (z - s) = z - s := zbW (by omega); have w2 : wI (c - s) = c - s := zbW (by omega); rw [w1, w2]; have w3 : wI ((z - s) * 1000) = (z - s) * 1000 := zbW (by omega); rw [w3, zax (by omega), show max (z - s) 0 = z - s by omega]
  · rw [if_neg hc]
    rw [show ((decide (c = s)) || (decide (c ≤ z))) = true by
      simp only [Bool.or_eq_true, decide_eq_true_eq]
      omega, cond_true]
def cntU (P : Int → Bool) : Nat → Int → Int
  | 0, _ => 0
  | m + 1, k => (bif P k then 1 else 0) + cntU P m (k + 1)
theorem ze2 (P : Int → Bool) : ∀ (m : Nat) (k : Int), 0 ≤ cntU P m k ∧ cntU P m k ≤ m
  | 0, k => ⟨Int.le_refl _, Int.le_refl _⟩
  | m + 1, k => by
    have := ze2 P m (k + 1); rw [cntU]
    cases P k
    · rw [cond_false]; omega
    · rw [cond_true]; omega
theorem zeY {ρ : Type} {p : GBidderPlan} {i : Nat} {b at_ s c : Int} {clocks : List Int} (h : PtIn (nth p.Values i) s c) (hi : i < p.Values.length) (hi2 : i < clocks.length) (hb : b ≤ 12) (k25 : Int → Option ρ) : ∀ (m fuel : Nat) (n k : Int), 0 ≤ k → (b - k).toNat = m → m < fuel → 0 ≤ n → n ≤ 12 - (m : Int) →
    zay (fun (next28 : (Int × Int) → Option ρ) (s28 : Int × Int) =>
                    (bif decide (s28.2 < b) then
                      grd (0 ≤ (i : Int) ∧ (i : Int) < (p.Values.length : Int)) <|
                      grd (0 ≤ (i : Int) ∧ (i : Int) < (clocks.length : Int)) <|
                      (za4 (nth p.Values i) s28.2 s c).bind fun r121 =>
                      (bif decide (r121 = at_) then
                        next28 (wI (s28.1 + 1), wI (s28.2 + 1))
                        else
                        next28 (s28.1, wI (s28.2 + 1)))
                      else
                      k25 s28.1)) fuel (n, k) = k25 (n + cntU (fun k => decide (ptI (nth p.Values i) k s c = at_)) m k)
  | m, 0, n, k, _, _, hf, _, _ => by omega
  | 0, fuel + 1, n, k, h0, hm, hf, _, _ => by
    show (bif _ then _ else _) = _
    (try dsimp only); rw [decide_eq_false (by omega), cond_false, cntU, Int.add_zero]
  | m + 1, fuel + 1, n, k, h0, hm, hf, n0, n1 => by
    show (bif _ then _ else _) = _
    (try dsimp only); rw [decide_eq_true (by omega), cond_true, zax (by omega), zax (by omega), zgQ h h0, Option.bind_some, cntU]; rw [zbW (show -9223372036854775808 ≤ k + 1 ∧ k + 1 ≤ 9223372036854775807 by omega)]
    cases hc : decide (ptI (nth p.Values i) k s c = at_) with
    | true =>
      rw [cond_true, cond_true, zbW (by omega), zeY h hi hi2 hb k25 m fuel (n + 1) (k + 1) (by omega) (by omega) (by omega) (by omega) (by omega), Int.add_assoc]
    | false =>
      rw [cond_false, cond_false, zeY h hi hi2 hb k25 m fuel n (k + 1) (by omega) (by omega) (by omega) (by omega) (by omega), Int.zero_add]
theorem zd1 {κ α : Type} [DecidableEq κ] {m : List (κ × α)} {k : κ} {v : α} (h : (m.map (·.1)).Nodup) : ((qset m k v).map (·.1)).Nodup := by
  unfold qset; by_cases hk : m.any (fun e => decide (e.1 = k)) = true
  · rw [hk, cond_true, List.map_map]
    have e : (m.map ((fun x => x.1) ∘ fun e => bif decide (e.1 = k) then (k, v) else e)) = m.map (·.1) := by
      refine List.map_congr_left fun x _ => ?_
      show (bif decide (x.1 = k) then (k, v) else x).1 = x.1
      by_cases hx : x.1 = k
      · rw [decide_eq_true hx, cond_true, hx]
      · rw [decide_eq_false hx, cond_false]
    rw [e]; exact h
  · rw [Bool.not_eq_true] at hk; rw [hk, cond_false, List.map_append, List.map_cons, List.map_nil]; refine List.nodup_append.2 ⟨h, List.nodup_cons.2 ⟨by simp, .nil⟩, fun a ha b hb => ?_⟩; obtain rfl := List.mem_singleton.1 hb; rintro rfl; obtain ⟨x, hx, hxa⟩ := List.mem_map.1 ha; have := List.any_eq_false.1 hk x hx; simp [hxa] at this
theorem zeS {κ α : Type} [DecidableEq κ] (m : List (κ × α)) (k : κ) (v : α) : qf (qset m k v) k = some v := by
  rw [zcx]; exact zcn _ _ _
theorem zeh {κ α : Type} [DecidableEq κ] (m : List (κ × α)) {k j : κ} (v : α) (h : j ≠ k) : qf (qset m k v) j = qf m j := by
  rw [zcx]; exact zbB _ _ h
def cO (n : Int) : Option Int := bif decide (n = 0) then none else some n
theorem zgJ (n : Int) : (cO n).getD 0 = n := by
  unfold cO; by_cases h : n = 0
  · rw [decide_eq_true h, cond_true, h]; rfl
  · rw [decide_eq_false h, cond_false]; rfl
theorem zgN {n : Int} (h : 0 ≤ n) : cO (n + 1) = some (n + 1) := by
  unfold cO; rw [decide_eq_false (by omega), cond_false]
def atP (v : List Int) (s c t : Int) (k : Int) : Bool := decide (ptI v k s c = t)
theorem zkz {p : GBidderPlan} {i : Nat} {b d s c : Int} (h : PtIn (nth p.Values i) s c) (hi : i < p.Values.length) (hi9 : i < 1000) (hb : b ≤ 12) (hd : 0 ≤ d) : ∀ (m fuel : Nat) (n : Int) (M : List (Gpoint × Int)), n - d = (m : Int) → m < fuel → n ≤ b → (M.map (·.1)).Nodup →
    (∀ x, qf M x = bif decide (x.product = (i : Int)) then cO (cntU (atP (nth p.Values i) s c x.thousandths) (b - n).toNat n) else none) →
    ∃ M', zay (fun (next3 : (Int × (List (Gpoint × Int))) → Option (List (Gpoint × Int))) (s3 : Int × (List (Gpoint × Int))) =>
    (bif decide (d < s3.1) then
      grd (0 ≤ (i : Int) ∧ (i : Int) < (p.Values.length : Int)) <|
      zao (fun (value_6 : Int) =>
        zao (fun (s12 : Int × Int) =>
          next3 (wI (s3.1 - 1), (qset s3.2 (Gpoint.mk s12.1 s12.2) (wI (((qf s3.2 (Gpoint.mk s12.1 s12.2)).getD 0) + 1)))))
        (fun k12 =>
          (bif ((decide (s < c)) && (decide (value_6 < c))) then
            grd (0 ≤ wI ((max (wI (value_6 - s)) 0) * 1000) ∧ wI ((max (wI (value_6 - s)) 0) * 1000) ≤ 9223372036854775807 ∧ 1 ≤ wI (c - s)) <|
            k12 ((i : Int), ((wI ((max (wI (value_6 - s)) 0) * 1000)) / (wI (c - s))))
            else
            k12 ((i : Int), 1000))))
      (fun k7 =>
        (bif decide (s3.1 ≤ ((nth p.Values (i : Int).toNat).length : Int)) then
          grd (0 ≤ wI (s3.1 - 1) ∧ wI (s3.1 - 1) < ((nth p.Values (i : Int).toNat).length : Int)) <|
          k7 (nth (nth p.Values (i : Int).toNat) ((wI (s3.1 - 1)).toNat))
          else
          k7 0))
      else
      some s3.2)) fuel (n, M) = some M' ∧ (M'.map (·.1)).Nodup ∧ ∀ x, qf M' x = bif decide (x.product = (i : Int)) then cO (cntU (atP (nth p.Values i) s c x.thousandths) (b - d).toNat d) else none
  | m, 0, n, M, _, hf, _, _, _ => by omega
  | 0, fuel + 1, n, M, hm, _, hn, hnd, hM => by
    refine ⟨M, ?_, hnd, ?_⟩
    · show (bif _ then _ else _) = _
      (try dsimp only); rw [decide_eq_false (by omega), cond_false]
    · rw [show d = n by omega]; exact hM
  | m + 1, fuel + 1, n, M, hm, hf, hn, hnd, hM => by
    have hp := zgy h (k := n - 1) (by omega); have hv := h.val (n - 1) (by omega); have h2 := h.hs; have h3 := h.hsc; have h4 := h.hc
    -- the round
    have key : ∀ (next : (Int × (List (Gpoint × Int))) → Option (List (Gpoint × Int))), (grd (0 ≤ (i : Int) ∧ (i : Int) < (p.Values.length : Int)) <|
      zao (fun (value_6 : Int) =>
        zao (fun (s12 : Int × Int) =>
          next (wI (n - 1), (qset M (Gpoint.mk s12.1 s12.2) (wI (((qf M (Gpoint.mk s12.1 s12.2)).getD 0) + 1)))))
        (fun k12 =>
          (bif ((decide (s < c)) && (decide (value_6 < c))) then
            grd (0 ≤ wI ((max (wI (value_6 - s)) 0) * 1000) ∧ wI ((max (wI (value_6 - s)) 0) * 1000) ≤ 9223372036854775807 ∧ 1 ≤ wI (c - s)) <|
            k12 ((i : Int), ((wI ((max (wI (value_6 - s)) 0) * 1000)) / (wI (c - s))))
            else
            k12 ((i : Int), 1000))))
      (fun k7 =>
        (bif decide (n ≤ ((nth p.Values (i : Int).toNat).length : Int)) then
          grd (0 ≤ wI (n - 1) ∧ wI (n - 1) < ((nth p.Values (i : Int).toNat).length : Int)) <|
          k7 (nth (nth p.Values (i : Int).toNat) ((wI (n - 1)).toNat))
          else
          k7 0))) = next (n - 1, qset M ⟨(i : Int), ptI (nth p.Values i) (n - 1) s c⟩ (wI ((qf M ⟨(i : Int), ptI (nth p.Values i) (n - 1) s c⟩).getD 0 + 1))) := by
      intro next; rw [zax (by omega), show (i : Int).toNat = i by omega, zbW (show -9223372036854775808 ≤ n - 1 ∧ n - 1 ≤ 9223372036854775807 by omega)]
      have fin : ∀ z, z = valI (nth p.Values i) (n - 1) → (bif ((decide (s < c)) && (decide (z < c))) then
            grd (0 ≤ wI ((max (wI (z - s)) 0) * 1000) ∧ wI ((max (wI (z - s)) 0) * 1000) ≤ 9223372036854775807 ∧ 1 ≤ wI (c - s)) <|
            next (n - 1, (qset M (Gpoint.mk (i : Int) ((wI ((max (wI (z - s)) 0) * 1000)) / (wI (c - s)))) (wI (((qf M (Gpoint.mk (i : Int) ((wI ((max (wI (z - s)) 0) * 1000)) / (wI (c - s))))).getD 0) + 1))))
            else
            next (n - 1, (qset M (Gpoint.mk (i : Int) 1000) (wI (((qf M (Gpoint.mk (i : Int) 1000)).getD 0) + 1))))) = next (n - 1, qset M ⟨(i : Int), ptI (nth p.Values i) (n - 1) s c⟩ (wI ((qf M ⟨(i : Int), ptI (nth p.Values i) (n - 1) s c⟩).getD 0 + 1))) := by
        intro z hz; unfold ptI; rw [← hz]; rw [← hz] at hv; by_cases hc : s < c ∧ z < c
        · rw [decide_eq_true hc.1, decide_eq_true hc.2, Bool.and_self, cond_true, if_pos hc]; have w1 : wI (z - s) = z - s := zbW (by omega); have w2 : wI (c - s) = c - s := zbW (by omega); rw [w1, w2]; have w3 : wI (max (z - s) 0 * 1000) = max (z - s) 0 * 1000 := zbW (by omega); rw [w3, zax (by omega)]
        · rw [if_neg hc, show ((decide (s < c)) && (decide (z < c))) = false by
            rw [← Bool.not_eq_true]; simp only [Bool.and_eq_true, decide_eq_true_eq]; exact hc, cond_false]
      simp only [zao]; by_cases hl : n ≤ ((nth p.Values i).length : Int)
      · rw [decide_eq_true hl, cond_true, zax (by omega)]; exact fin _ (by unfold valI; rw [if_pos (by omega)])
      · rw [decide_eq_false hl, cond_false]; exact fin _ (by unfold valI; rw [if_neg (by omega)])
    have hcnt := ze2 (atP (nth p.Values i) s c (ptI (nth p.Values i) (n - 1) s c)) (b - n).toNat n; have hq := hM ⟨(i : Int), ptI (nth p.Values i) (n - 1) s c⟩; rw [show decide ((⟨(i : Int), ptI (nth p.Values i) (n - 1) s c⟩ : Gpoint).product = (i : Int)) = true from decide_eq_true rfl, cond_true] at hq
    obtain ⟨M', h5, h6, h7⟩ := zkz h hi hi9 hb hd m fuel (n - 1) (qset M ⟨(i : Int), ptI (nth p.Values i) (n - 1) s c⟩ (wI ((qf M ⟨(i : Int), ptI (nth p.Values i) (n - 1) s c⟩).getD 0 + 1))) (by omega) (by omega) (by omega) (zd1 hnd) (fun x => by
      (have e1 : (b - (n - 1)).toNat = (b - n).toNat + 1 := by omega); (have e3 : n - 1 + 1 = n := by omega); by_cases hx : x = ⟨(i : Int), ptI (nth p.Values i) (n - 1) s c⟩
      · subst hx; rw [zeS, hq, zgJ, decide_eq_true rfl, cond_true, e1, cntU, e3]; dsimp only at hcnt ⊢; rw [show atP (nth p.Values i) s c (ptI (nth p.Values i) (n - 1) s c) (n - 1) = true from decide_eq_true rfl, cond_true, zbW (by omega), Int.add_comm 1, zgN (by omega)]
      · rw [zeh _ _ hx, hM x]; by_cases hi2 : x.product = (i : Int)
        · rw [decide_eq_true hi2, cond_true, cond_true, e1, cntU, e3, show atP (nth p.Values i) s c x.thousandths (n - 1) = false from decide_eq_false (fun e => hx (by cases x; simp_all)), cond_false, Int.zero_add]
        · rw [decide_eq_false hi2, cond_false, cond_false])
    refine ⟨M', ?_, h6, h7⟩; rw [← h5]
    show (bif _ then _ else _) = _
    (try dsimp only); rw [decide_eq_true (by omega), cond_true]; exact key _
def cntT (p : GBidderPlan) (d blocks starts clocks : List Int) (i : Nat) (t : Int) : Int := cntU (atP (nth p.Values i) (nth starts i) (nth clocks i) t) (nth blocks i - nth d i).toNat (nth d i)
def chgO (p : GBidderPlan) (d blocks starts clocks : List Int) (i : Nat) (t : Int) : Option Int := bif decide (nth blocks i < nth d i) then (bif decide (t = 1000) then some (nth d i - nth blocks i) else none) else (cO (cntT p d blocks starts clocks i t)).map fun n => -n
structure BidsIn (p : GBidderPlan) (l : List GProduct) (d blocks starts clocks : List Int) : Prop where
  n : l.length ≤ 100
  pl : p.Values.length = l.length
  dl : d.length = l.length
  bl : blocks.length = l.length
  sl : starts.length = l.length
  cl : clocks.length = l.length
  db : ∀ i, i < l.length → 0 ≤ nth d i ∧ nth d i ≤ 12
  bb : ∀ i, i < l.length → 0 ≤ nth blocks i ∧ nth blocks i ≤ 12
  pt : ∀ i, i < l.length → PtIn (nth p.Values i) (nth starts i) (nth clocks i)
section
variable {p : GBidderPlan} {l : List GProduct} {d blocks starts clocks : List Int} {ρ : Type}
theorem zem (h : BidsIn p l d blocks starts clocks) {i : Nat} (hi : i < l.length) (t : Int) : 0 ≤ cntT p d blocks starts clocks i t ∧ cntT p d blocks starts clocks i t ≤ 12 := by
  have h1 := ze2 (atP (nth p.Values i) (nth starts i) (nth clocks i) t) (nth blocks i - nth d i).toNat (nth d i); have h2 := h.db i hi; have h3 := h.bb i hi; unfold cntT; omega
structure ChgM (p : GBidderPlan) (d blocks starts clocks : List Int) (i : Nat) (M : List (Gpoint × Int)) : Prop where
  nd : (M.map (·.1)).Nodup
  qf : ∀ x, qf M x = bif decide (0 ≤ x.product ∧ x.product < (i : Int)) then chgO p d blocks starts clocks x.product.toNat x.thousandths else none
theorem zeg : ∀ (m m2 : List (Gpoint × Int)), (m2.map (·.1)).Nodup → ((zek m m2).map (·.1)).Nodup
  | [], m2, h => h
  | e :: r, m2, h => zd1 (zeg r m2 h)
theorem zgH (h : BidsIn p l d blocks starts clocks) {i : Nat} (hi : i < l.length) (hdb : nth d i ≤ nth blocks i) {fuel : Nat} (hf : 100 < fuel) : ∃ M', zaQ fuel ([] : List (Gpoint × Int)) p (i : Int) (nth blocks i) (nth d i) (nth starts i) (nth clocks i) = some M' ∧ (M'.map (·.1)).Nodup ∧ ∀ x, qf M' x = bif decide (x.product = (i : Int)) then cO (cntT p d blocks starts clocks i x.thousandths) else none := by
  have h1 := h.db i hi; have h2 := h.bb i hi; have hn := h.n
  exact zkz (h.pt i hi) (by rw [h.pl]; exact hi) (by omega) h2.2 h1.1 (nth blocks i - nth d i).toNat fuel (nth blocks i) [] (by omega) (by omega) (Int.le_refl _) .nil (fun x => by
    rw [show (nth blocks i - nth blocks i).toNat = 0 by omega]
    cases decide (x.product = (i : Int)) <;> rfl)
theorem zeo (h : BidsIn p l d blocks starts clocks) {fuel : Nat} (hf : 100 < fuel) (k : List (Gpoint × Int) → Option ρ) : ∀ (m i : Nat) (M : List (Gpoint × Int)), i + m = l.length → ChgM p d blocks starts clocks i M →
    ∃ M', zak (fun (i_17 : Nat) (next16 : (List (Gpoint × Int)) → Option ρ) (l_15 : List (Gpoint × Int)) =>
              zao (fun (l_19 : List (Gpoint × Int)) =>
                next16 l_19)
              (fun k20 =>
                grd (0 ≤ (i_17 : Int) ∧ (i_17 : Int) < (blocks.length : Int)) <|
                (bif decide ((nth blocks i_17) < (nth d i_17)) then
                  k20 (qset l_15 (Gpoint.mk (i_17 : Int) 1000) (wI ((nth d i_17) - (nth blocks i_17))))
                  else
                  grd (0 ≤ (i_17 : Int) ∧ (i_17 : Int) < (starts.length : Int)) <|
                  grd (0 ≤ (i_17 : Int) ∧ (i_17 : Int) < (clocks.length : Int)) <|
                  (zaQ fuel ([] : List (Gpoint × Int)) p (i_17 : Int) (nth blocks i_17) (nth d i_17) (nth starts i_17) (nth clocks i_17)).bind fun r108 =>
                  k20 (zek r108 l_15)))) k m i M = k M' ∧ ChgM p d blocks starts clocks l.length M'
  | 0, i, M, hi, hM => ⟨M, rfl, by rw [← hi]; exact hM⟩
  | m + 1, i, M, hi, hM => by
    have h1 := h.db i (by omega); have h2 := h.bb i (by omega); have e1 := h.bl; have e2 := h.sl; have e3 := h.cl; rw [zbl]; simp only [zao]; rw [zax (by omega)]; by_cases hb : nth blocks i < nth d i
    · rw [decide_eq_true hb, cond_true, zbW (by omega)]; refine zeo h hf k m (i + 1) _ (by omega) ⟨zd1 hM.nd, fun x => ?_⟩; by_cases hx : x = ⟨(i : Int), 1000⟩
      · subst hx; rw [zeS]; dsimp only; rw [decide_eq_true (by omega), cond_true, show (i : Int).toNat = i by omega]; unfold chgO; rw [decide_eq_true hb, cond_true, decide_eq_true rfl, cond_true]
      · rw [zeh _ _ hx, hM.qf x]; by_cases hi2 : x.product = (i : Int)
        · rw [decide_eq_false (by omega), cond_false, decide_eq_true (by omega), cond_true, hi2, show (i : Int).toNat = i by omega]; unfold chgO; rw [decide_eq_true hb, cond_true, decide_eq_false (fun e => hx (by cases x; simp_all)), cond_false]
        · rw [show decide (0 ≤ x.product ∧ x.product < (i : Int)) = decide (0 ≤ x.product ∧ x.product < ((i + 1 : Nat) : Int)) from by rw [Bool.eq_iff_iff]; simp only [decide_eq_true_eq]; omega]
    · rw [decide_eq_false hb, cond_false, zax (by omega), zax (by omega)]; obtain ⟨M', h5, h6, h7⟩ := zgH h (show i < l.length by omega) (by omega) hf; rw [h5, Option.bind_some]; refine zeo h hf k m (i + 1) _ (by omega) ⟨zeg _ _ hM.nd, fun x => ?_⟩; rw [zej]; unfold qneg; rw [h7 x]; by_cases hi2 : x.product = (i : Int)
      · rw [decide_eq_true hi2, cond_true, decide_eq_true (by omega), cond_true, hi2, show (i : Int).toNat = i by omega]; have hct := zem h (show i < l.length by omega) x.thousandths; unfold chgO; rw [decide_eq_false hb, cond_false]; generalize cntT p d blocks starts clocks i x.thousandths = n at *; have hMx := hM.qf x; rw [decide_eq_false (by omega), cond_false] at hMx; rw [hMx]; unfold cO; by_cases hn0 : n = 0
        · rw [decide_eq_true hn0]; rfl
        · rw [decide_eq_false hn0]
          show some (wI (0 - n)) = some (-n)
          rw [zbW (by omega)]; simp
      · rw [decide_eq_false hi2, cond_false]; (have e : decide (0 ≤ x.product ∧ x.product < (i : Int)) = decide (0 ≤ x.product ∧ x.product < ((i + 1 : Nat) : Int)) := by rw [Bool.eq_iff_iff]; simp only [decide_eq_true_eq]; omega); rw [← e, ← hM.qf x]
        rfl
theorem zfB {σ ρ : Type} (f : (σ → Option ρ) → σ → Option ρ) (m : Nat) (s : σ) : zay f (m + 1) s = f (zay f m) s := rfl
def zc4 (cnt : Int → Int) (i : Int) : Nat → Int → List GRow
  | 0, _ => []
  | m + 1, t => (bif decide (0 < cnt t) then [⟨i, -cnt t, t⟩] else []) ++ zc4 cnt i m (t + 1)
theorem zeB (cnt : Int → Int) (i : Int) : ∀ (m : Nat) (t : Int), (zc4 cnt i m t).length ≤ m
  | 0, _ => Nat.le_refl _
  | m + 1, t => by
    have := zeB cnt i m (t + 1); rw [zc4, List.length_append]
    cases decide (0 < cnt t)
    · show 0 + _ ≤ _; omega
    · show 1 + _ ≤ _; omega
def zdq (p : GBidderPlan) (d blocks starts clocks : List Int) (i : Nat) : List GRow := (bif decide (nth blocks i < nth d i) then [⟨(i : Int), nth d i - nth blocks i, 1000⟩] else []) ++ zc4 (cntT p d blocks starts clocks i) (i : Int) 1001 0
theorem zgx (h : BidsIn p l d blocks starts clocks) {i : Nat} (hi : i < l.length) {fuel : Nat} (hf : 100 < fuel) (next13 : List GRow → Option ρ) : ∀ (m f2 : Nat) (out : List GRow) (t : Int), 0 ≤ t → 1001 - t = (m : Int) → m < f2 → out.length + m ≤ 1000000 →
    zay (fun (next21 : (List GRow × Int) → Option ρ) (s21 : List GRow × Int) =>
              (bif decide (s21.2 ≤ 1000) then
                zao (fun (n_24 : Int) =>
                  (bif decide (0 < n_24) then
                    grd (room (s21.1 ++ [(GRow.mk (i : Int) (wI (0 - n_24)) s21.2)]).length 24) <|
                    next21 ((s21.1 ++ [(GRow.mk (i : Int) (wI (0 - n_24)) s21.2)]), wI (s21.2 + 1))
                    else
                    next21 (s21.1, wI (s21.2 + 1))))
                (fun k25 =>
                  zay (fun (next28 : (Int × Int) → Option ρ) (s28 : Int × Int) =>
                    (bif decide (s28.2 < (nth blocks i)) then
                      grd (0 ≤ (i : Int) ∧ (i : Int) < (p.Values.length : Int)) <|
                      grd (0 ≤ (i : Int) ∧ (i : Int) < (clocks.length : Int)) <|
                      (za4 (nth p.Values i) s28.2 (nth starts i) (nth clocks i)).bind fun r121 =>
                      (bif decide (r121 = s21.2) then
                        next28 (wI (s28.1 + 1), wI (s28.2 + 1))
                        else
                        next28 (s28.1, wI (s28.2 + 1)))
                      else
                      k25 s28.1)) fuel (0, (nth d i)))
                else
                next13 s21.1)) f2 (out, t) = next13 (out ++ zc4 (cntT p d blocks starts clocks i) (i : Int) m t)
  | m, 0, out, t, _, _, hf2, _ => by omega
  | 0, f2 + 1, out, t, h0, hm, _, _ => by
    show (bif _ then _ else _) = _
    (try dsimp only); rw [decide_eq_false (by omega), cond_false, zc4, List.append_nil]
  | m + 1, f2 + 1, out, t, h0, hm, hf2, hl => by
    have h1 := h.db i hi; have h2 := h.bb i hi; have ih := fun out' (ho : out'.length + m ≤ 1000000) => zgx h hi hf next13 m f2 out' (t + 1) (by omega) (by omega) (by omega) ho; rw [zfB]; generalize hW : zay _ f2 = W at ih ⊢; (try dsimp only); rw [decide_eq_true (by omega), cond_true]
    refine Eq.trans (zeY (at_ := t) (h.pt i hi) (by rw [h.pl]; exact hi) (by rw [h.cl]; exact hi) h2.2 (fun n_24 => (bif decide (0 < n_24) then
                    grd (room (out ++ [(GRow.mk (i : Int) (wI (0 - n_24)) t)]).length 24) <|
                    W ((out ++ [(GRow.mk (i : Int) (wI (0 - n_24)) t)]), wI (t + 1))
                    else
                    W (out, wI (t + 1)))) (nth blocks i - nth d i).toNat fuel 0 (nth d i) h1.1 rfl (by omega) (Int.le_refl _) (by omega)) ?_
    rw [Int.zero_add]; rw [show cntU (fun k => decide (ptI (nth p.Values i) k (nth starts i) (nth clocks i) = t)) (nth blocks i - nth d i).toNat (nth d i) = cntT p d blocks starts clocks i t from rfl]; have hct := zem h hi t; have ht : wI (t + 1) = t + 1 := zbW (by omega); rw [zc4]; by_cases hn : 0 < cntT p d blocks starts clocks i t
    · rw [decide_eq_true hn, cond_true, cond_true, ht, zbW (show -9223372036854775808 ≤ 0 - cntT p d blocks starts clocks i t ∧ 0 - cntT p d blocks starts clocks i t ≤ 9223372036854775807 by omega), Int.zero_sub]; (have hlen : (out ++ [(⟨(i : Int), -cntT p d blocks starts clocks i t, t⟩ : GRow)]).length = out.length + 1 := by rw [List.length_append]; rfl); rw [zax (by unfold room; rw [hlen]; omega), ih _ (by rw [hlen]; omega), List.append_assoc]
    · rw [decide_eq_false hn, cond_false, cond_false, ht, ih _ (by omega), List.nil_append]
def zct (p : GBidderPlan) (d blocks starts clocks : List Int) : Nat → Nat → List GRow
  | 0, _ => []
  | m + 1, i => zdq p d blocks starts clocks i ++ zct p d blocks starts clocks m (i + 1)
theorem zeG (p : GBidderPlan) (d blocks starts clocks : List Int) (i : Nat) : (zdq p d blocks starts clocks i).length ≤ 1002 := by
  have := zeB (cntT p d blocks starts clocks i) (i : Int) 1001 0; unfold zdq; rw [List.length_append]
  cases decide (nth blocks i < nth d i)
  · show 0 + _ ≤ _; omega
  · show 1 + _ ≤ _; omega
theorem zet (h : BidsIn p l d blocks starts clocks) {fuel : Nat} (hf : 2000 < fuel) (k : List GRow → Option ρ) : ∀ (m i : Nat) (out : List GRow), i + m = l.length → out.length ≤ 1002 * i →
    zak (fun (i_14 : Nat) (next13 : List GRow → Option ρ) (out_12 : List GRow) =>
          grd (0 ≤ (i_14 : Int) ∧ (i_14 : Int) < (d.length : Int)) <|
          grd (0 ≤ (i_14 : Int) ∧ (i_14 : Int) < (blocks.length : Int)) <|
          zao (fun (out_16 : List GRow) =>
            zay (fun (next21 : (List GRow × Int) → Option ρ) (s21 : List GRow × Int) =>
              (bif decide (s21.2 ≤ 1000) then
                zao (fun (n_24 : Int) =>
                  (bif decide (0 < n_24) then
                    grd (room (s21.1 ++ [(GRow.mk (i_14 : Int) (wI (0 - n_24)) s21.2)]).length 24) <|
                    next21 ((s21.1 ++ [(GRow.mk (i_14 : Int) (wI (0 - n_24)) s21.2)]), wI (s21.2 + 1))
                    else
                    next21 (s21.1, wI (s21.2 + 1))))
                (fun k25 =>
                  zay (fun (next28 : (Int × Int) → Option ρ) (s28 : Int × Int) =>
                    (bif decide (s28.2 < (nth blocks i_14)) then
                      grd (0 ≤ (i_14 : Int) ∧ (i_14 : Int) < (p.Values.length : Int)) <|
                      grd (0 ≤ (i_14 : Int) ∧ (i_14 : Int) < (clocks.length : Int)) <|
                      (za4 (nth p.Values i_14) s28.2 (nth starts i_14) (nth clocks i_14)).bind fun r121 =>
                      (bif decide (r121 = s21.2) then
                        next28 (wI (s28.1 + 1), wI (s28.2 + 1))
                        else
                        next28 (s28.1, wI (s28.2 + 1)))
                      else
                      k25 s28.1)) fuel (0, (nth d i_14)))
                else
                next13 s21.1)) fuel (out_16, 0))
          (fun k17 =>
            (bif decide ((nth blocks i_14) < (nth d i_14)) then
              grd (room (out_12 ++ [(GRow.mk (i_14 : Int) (wI ((nth d i_14) - (nth blocks i_14))) 1000)]).length 24) <|
              k17 (out_12 ++ [(GRow.mk (i_14 : Int) (wI ((nth d i_14) - (nth blocks i_14))) 1000)])
              else
              k17 out_12))) k m i out = k (out ++ zct p d blocks starts clocks m i)
  | 0, i, out, _, _ => by rw [zct, List.append_nil]; rfl
  | m + 1, i, out, hi, ho => by
    have e1 := h.bl; have e2 := h.dl; have hn := h.n; have h1 := h.db i (by omega); have h2 := h.bb i (by omega); have hri := zeG p d blocks starts clocks i; rw [zbl]; simp only [zao]; rw [zax (by omega), zax (by omega), zct]; have hat := fun next13 out ho => zgx (ρ := ρ) h (show i < l.length by omega) (show 100 < fuel by omega) next13 1001 fuel out 0 (Int.le_refl _) rfl (by omega) ho; simp only [zao] at hat; by_cases hb : nth blocks i < nth d i
    · (have hlen : (out ++ [(⟨(i : Int), nth d i - nth blocks i, 1000⟩ : GRow)]).length = out.length + 1 := by rw [List.length_append]; rfl); rw [decide_eq_true hb, cond_true, zbW (show -9223372036854775808 ≤ nth d i - nth blocks i ∧ nth d i - nth blocks i ≤ 9223372036854775807 by omega), zax (by unfold room; rw [hlen]; omega), hat _ _ (by rw [hlen]; omega)]
      have e : out ++ [(⟨(i : Int), nth d i - nth blocks i, 1000⟩ : GRow)] ++ zc4 (cntT p d blocks starts clocks i) (i : Int) 1001 0 = out ++ zdq p d blocks starts clocks i := by
        unfold zdq; rw [decide_eq_true hb, cond_true, List.append_assoc]
      rw [e]; have ih := zet h hf k m (i + 1) (out ++ zdq p d blocks starts clocks i) (by omega) (by rw [List.length_append]; omega); simp only [zao] at ih; rw [ih, List.append_assoc]
    · rw [decide_eq_false hb, cond_false, hat _ _ (by omega)]
      have e : out ++ zc4 (cntT p d blocks starts clocks i) (i : Int) 1001 0 = out ++ zdq p d blocks starts clocks i := by
        unfold zdq; rw [decide_eq_false hb, cond_false, List.nil_append]
      rw [e]; have ih := zet h hf k m (i + 1) (out ++ zdq p d blocks starts clocks i) (by omega) (by rw [List.length_append]; omega); simp only [zao] at ih; rw [ih, List.append_assoc]
end
def kyR (r : GRow) : Gpoint := ⟨r.Product, r.Point⟩
def LtR (a b : GRow) : Prop := a.Product < b.Product ∨ a.Product = b.Product ∧ a.Point < b.Point
theorem zfp {P : Int → Bool} : ∀ (m : Nat) (k : Int), 0 < cntU P m k → ∃ j, k ≤ j ∧ P j = true
  | 0, k, h => absurd h (Int.lt_irrefl _)
  | m + 1, k, h => by
    rw [cntU] at h
    cases hp : P k with
    | true => exact ⟨k, Int.le_refl _, hp⟩
    | false =>
      rw [hp, cond_false, Int.zero_add] at h; obtain ⟨j, h1, h2⟩ := zfp m (k + 1) h; exact ⟨j, by omega, h2⟩
theorem zdb {cnt : Int → Int} {i : Int} {r : GRow} : ∀ (m : Nat) (t : Int), r ∈ zc4 cnt i m t ↔ (r.Product = i ∧ t ≤ r.Point ∧ r.Point < t + (m : Int) ∧ 0 < cnt r.Point ∧ r.Change = -cnt r.Point)
  | 0, t => by
    rw [zc4]; constructor
    · intro h; cases h
    · rintro ⟨_, h1, h2, _⟩; omega
  | m + 1, t => by
    rw [zc4, List.mem_append, zdb m (t + 1)]; constructor
    · rintro (h | ⟨h1, h2, h3, h4⟩)
      · by_cases hc : 0 < cnt t
        · rw [decide_eq_true hc, cond_true, List.mem_singleton] at h; subst h; exact ⟨rfl, Int.le_refl _, by show t < t + ((m + 1 : Nat) : Int); omega, hc, rfl⟩
        · rw [decide_eq_false hc, cond_false] at h
          cases h
      · exact ⟨h1, by omega, by omega, h4⟩
    · rintro ⟨h1, h2, h3, h4, h5⟩; by_cases e : r.Point = t
      · left; rw [e] at h4 h5; rw [decide_eq_true h4, cond_true, List.mem_singleton]
        cases r
        simp_all
      · exact .inr ⟨h1, by omega, by omega, h4, h5⟩
theorem zfm {cnt : Int → Int} {i : Int} : ∀ (m : Nat) (t : Int), (zc4 cnt i m t).Pairwise LtR
  | 0, _ => .nil
  | m + 1, t => by
    rw [zc4]; refine List.pairwise_append.2 ⟨?_, zfm m (t + 1), fun a ha b hb => ?_⟩
    · cases decide (0 < cnt t)
      · exact .nil
      · exact List.pairwise_singleton _ _
    · have hb := (zdb m (t + 1)).1 hb
      cases hc : decide (0 < cnt t) with
      | false => rw [hc] at ha; cases ha
      | true =>
        rw [hc, cond_true, List.mem_singleton] at ha; subst ha; exact .inr ⟨hb.1.symm, by show t < b.Point; omega⟩
section
variable {p : GBidderPlan} {l : List GProduct} {d blocks starts clocks : List Int}
theorem zfe {i : Nat} (hb : nth blocks i < nth d i) (t : Int) : cntT p d blocks starts clocks i t = 0 := by
  unfold cntT; rw [show (nth blocks i - nth d i).toNat = 0 by omega]; rfl
theorem zgq (h : BidsIn p l d blocks starts clocks) {i : Nat} (hi : i < l.length) {t : Int} (hc : 0 < cntT p d blocks starts clocks i t) : 0 ≤ t ∧ t ≤ 1000 := by
  obtain ⟨j, h1, h2⟩ := zfp _ _ hc; have h3 := zgy (h.pt i hi) (k := j) (by have := h.db i hi; omega); have h4 := of_decide_eq_true h2; omega
theorem zeQ (h : BidsIn p l d blocks starts clocks) {i : Nat} (hi : i < l.length) {r : GRow} : r ∈ zdq p d blocks starts clocks i ↔ (r.Product = (i : Int) ∧ chgO p d blocks starts clocks i r.Point = some r.Change) := by
  unfold zdq chgO; rw [List.mem_append, zdb]; by_cases hb : nth blocks i < nth d i
  · rw [decide_eq_true hb, cond_true, cond_true, List.mem_singleton]; constructor
    · rintro (h1 | ⟨_, _, _, h4, _⟩)
      · subst h1; exact ⟨rfl, by rw [decide_eq_true rfl, cond_true]⟩
      · rw [zfe hb] at h4; exact absurd h4 (Int.lt_irrefl _)
    · rintro ⟨h1, h2⟩; left; by_cases ht : r.Point = 1000
      · rw [decide_eq_true ht, cond_true] at h2; have := Option.some.inj h2
        cases r
        simp_all
      · rw [decide_eq_false ht, cond_false] at h2
        cases h2
  · rw [decide_eq_false hb, cond_false, cond_false]; have hbd := zem h hi r.Point; constructor
    · rintro (h1 | ⟨h1, _, _, h4, h5⟩)
      · cases h1
      · refine ⟨h1, ?_⟩; unfold cO; rw [decide_eq_false (by omega), cond_false, h5]; rfl
    · rintro ⟨h1, h2⟩; right; unfold cO at h2; by_cases hn : cntT p d blocks starts clocks i r.Point = 0
      · rw [decide_eq_true hn, cond_true] at h2; cases h2
      · rw [decide_eq_false hn, cond_false] at h2; have h3 := Option.some.inj h2; have h4 := zgq h hi (t := r.Point) (by omega); exact ⟨h1, h4.1, by omega, by omega, h3.symm⟩
theorem zgf (h : BidsIn p l d blocks starts clocks) {i : Nat} (hi : i < l.length) : (zdq p d blocks starts clocks i).Pairwise LtR := by
  unfold zdq; refine List.pairwise_append.2 ⟨?_, zfm _ _, fun a ha b hb => ?_⟩
  · cases decide (nth blocks i < nth d i)
    · exact .nil
    · exact List.pairwise_singleton _ _
  · have hb := (zdb _ _).1 hb
    cases hc : decide (nth blocks i < nth d i) with
    | false => rw [hc] at ha; cases ha
    | true =>
      have := zfe (p := p) (starts := starts) (clocks := clocks) (of_decide_eq_true hc) b.Point; omega
theorem zdL (h : BidsIn p l d blocks starts clocks) {r : GRow} : ∀ (m i : Nat), i + m = l.length → (r ∈ zct p d blocks starts clocks m i ↔ ((i : Int) ≤ r.Product ∧ r.Product < (l.length : Int) ∧ chgO p d blocks starts clocks r.Product.toNat r.Point = some r.Change))
  | 0, i, hi => by
    rw [zct]; constructor
    · intro h; cases h
    · rintro ⟨h1, h2, _⟩; omega
  | m + 1, i, hi => by
    rw [zct, List.mem_append, zeQ h (by omega), zdL h m (i + 1) (by omega)]; constructor
    · rintro (⟨h1, h2⟩ | ⟨h1, h2, h3⟩)
      · refine ⟨by omega, by omega, ?_⟩; rw [h1, show (i : Int).toNat = i by omega]; exact h2
      · exact ⟨by omega, h2, h3⟩
    · rintro ⟨h1, h2, h3⟩; by_cases e : r.Product = (i : Int)
      · left; rw [e, show (i : Int).toNat = i by omega] at h3; exact ⟨e, h3⟩
      · exact .inr ⟨by omega, h2, h3⟩
theorem zfl (h : BidsIn p l d blocks starts clocks) : ∀ (m i : Nat), i + m = l.length → (zct p d blocks starts clocks m i).Pairwise LtR
  | 0, _, _ => .nil
  | m + 1, i, hi => by
    rw [zct]; refine List.pairwise_append.2 ⟨zgf h (by omega), zfl h m (i + 1) (by omega), fun a ha b hb => ?_⟩; have ha := (zeQ h (by omega)).1 ha; have hb := (zdL h m (i + 1) (by omega)).1 hb; exact .inl (by omega)
theorem zeC (p : GBidderPlan) (d blocks starts clocks : List Int) : ∀ (m i : Nat), (zct p d blocks starts clocks m i).length ≤ 1002 * m
  | 0, _ => Nat.le_refl _
  | m + 1, i => by
    have h1 := zeG p d blocks starts clocks i; have h2 := zeC p d blocks starts clocks m (i + 1); rw [zct, List.length_append]; omega
theorem zdO (h : BidsIn p l d blocks starts clocks) {M : List (Gpoint × Int)} (hM : ChgM p d blocks starts clocks l.length M) :
    zdz (M.map (·.1)) = (zct p d blocks starts clocks l.length 0).map kyR ∧ (∀ r ∈ zct p d blocks starts clocks l.length 0, qf M (kyR r) = some r.Change ∧ 0 ≤ r.Point ∧ r.Point ≤ 1000) := by
  have hmem := fun r => zdL h (r := r) l.length 0 (by omega); have hlt := zfl h l.length 0 (by omega)
  have hq : ∀ r ∈ zct p d blocks starts clocks l.length 0, qf M (kyR r) = some r.Change ∧ 0 ≤ r.Point ∧ r.Point ≤ 1000 := fun r hr => by
    have h1 := (hmem r).1 hr; refine ⟨?_, ?_⟩
    · rw [hM.qf]; unfold kyR; dsimp only; rw [decide_eq_true (by omega), cond_true]; exact h1.2.2
    · have h2 := h1.2.2; unfold chgO at h2; by_cases hb : nth blocks r.Product.toNat < nth d r.Product.toNat
      · rw [decide_eq_true hb, cond_true] at h2; by_cases ht : r.Point = 1000
        · omega
        · rw [decide_eq_false ht, cond_false] at h2; cases h2
      · rw [decide_eq_false hb, cond_false] at h2; unfold cO at h2; have hbd := zem h (show r.Product.toNat < l.length by omega) r.Point; by_cases hn : cntT p d blocks starts clocks r.Product.toNat r.Point = 0
        · rw [decide_eq_true hn, cond_true] at h2; cases h2
        · exact zgq h (show r.Product.toNat < l.length by omega) (by omega)
  refine ⟨?_, hq⟩; generalize zct p d blocks starts clocks l.length 0 = R at *
  have hnd : (R.map kyR).Nodup := by
    rw [List.Nodup, List.pairwise_map]; refine hlt.imp fun {a b} hab e => ?_; have e1 : a.Product = b.Product := congrArg Gpoint.product e; have e2 : a.Point = b.Point := congrArg Gpoint.thousandths e; rcases hab with hab | hab <;> omega
  refine zfc ((zbI _).trans ((List.perm_ext_iff_of_nodup hM.nd hnd).2 fun x => ?_)) (zbS _) ?_
  · rw [← qf_some, hM.qf x, List.mem_map]; constructor
    · intro hs; by_cases hx : 0 ≤ x.product ∧ x.product < (l.length : Int)
      · rw [decide_eq_true hx, cond_true] at hs; obtain ⟨c, hc⟩ := Option.isSome_iff_exists.1 hs; exact ⟨⟨x.product, c, x.thousandths⟩, (hmem _).2 ⟨by show ((0 : Nat) : Int) ≤ x.product; omega, hx.2, hc⟩, rfl⟩
      · rw [decide_eq_false hx, cond_false] at hs; cases hs
    · rintro ⟨r, hr, rfl⟩; have h1 := (hmem r).1 hr; unfold kyR; dsimp only; rw [decide_eq_true (by omega), cond_true, h1.2.2]; rfl
  · rw [List.pairwise_map]; refine hlt.imp fun {a b} hab => ?_
    show leP (kyR a) (kyR b) = true
    rw [zdU]; unfold kyR; dsimp only; rcases hab with hab | hab <;> omega
end
end Go.Proofs.YtlaafmiejkebgaaGreat
