/- Yl Ca Da Db Dc Dd Ko Df Dg Of: shortened and put together by squeeze.py. -/
import Derived.Test.YtlaafmiejkebgaaGreatQ07
import Derived.Deep.Slices
import Derived.ChangeArms
set_option maxRecDepth 100000
set_option maxHeartbeats 4000000
set_option linter.unusedVariables false
set_option linter.unusedSectionVars false
set_option linter.unusedSimpArgs false
namespace Go.Proofs.YtlaafmiejkebgaaGreat
open Go.RowKit
def zcO (fuel : Nat) (l : List GBid) (id : Int) (want : List GRow) : Option Bool :=
  (bif decide (¬ (l.length : Int) = (want.length : Int)) then
    some false
    else
    zaB (fun (_ : Unit) =>
      some true)
    (fun k2 =>
      zao (fun (i_4 : Nat) (next3 : Unit → Option Bool) (_ : Unit) =>
        (zcY fuel ((nth want i_4).Point) 1000).bind fun r27 =>
        zaB (fun (x_6 : Bool) =>
          (bif x_6 then
            some false
            else
            next3 ()))
        (fun k7 =>
          (bif decide (¬ r27.2 = 0) then
            k7 true
            else
            (bif decide (¬ (nth l i_4).Bidder = id) then
              k7 true
              else
              (bif decide (¬ (nth l i_4).Product = (nth want i_4).Product) then
                k7 true
                else
                (bif decide (¬ (nth l i_4).Change = (nth want i_4).Change) then
                  k7 true
                  else
                  (zbT fuel ((nth l i_4).Point)).bind fun r73 =>
                  (bif !r73 then
                    k7 true
                    else
                    (zce fuel ((nth l i_4).Point) r27.1).bind fun r83 =>
                    k7 (decide (¬ r83 = 0)))))))))
      (fun (_ : Unit) =>
        k2 ()) (l.length - 0) 0 ()))
theorem zez (F0 : Frz) (w : World) (hF0 : F0.At w) (l : List GBid) (vl : Value) (cl : List (List Value)) (hl : SlD GBid.rep F0 vl 7 cl l) (id : Int) (want : List GRow) (vwant : Value) (hwant : SlC F0 vwant 3 (want.map GRow.enc)) (fuel : Nat) (r : Bool) (hr : zcO fuel l id want = some r) : Calls Tryz.prog 10 #[vl, .int .i64 id, vwant] w fun e w' => e = .returned (.bool r) ∧ Below w.heap.size w w' := by
  have hk := hr; unfold zcO at hk; haveI := hl.1.oneC; haveI := hwant.oneC; obtain ⟨S0, F1, rfl, hS0, hp0⟩ := zaf hF0; refine zai Tryz.func10 rfl rfl rfl hp0 ?_; refine T.sr ?_; refine TL.run 1 rfl ?_; refine TL.ns (T.seq (T.sr ?_)); refine TL.run 1 rfl ?_; refine TL.y (Yv.am rfl rfl hl.1 hl.2.1) ?_; have hm11 : l.length ≤ 9223372036854775807 := hl.2.1 ▸ hl.1.max; refine TL.run 1 rfl ?_; refine TL.y (Yv.am rfl rfl hwant (List.length_map _)) ?_; have hm13 : want.length ≤ 9223372036854775807 := (List.length_map _) ▸ hwant.max; refine TL.run 1 rfl ?_; refine TL.ns ?_; refine T.cond rfl (fun h1 => ?_) (fun h1 => ?_)
  · have p1 := of_decide_eq_true h1; replace hk := zaa hk h1; refine T.sr ?_; refine TL.run 1 rfl ?_; refine TL.ns (T.ret (K.a ?_)); obtain rfl := Option.some.inj hk; exact K.ak rfl rfl (fun w' hw => ⟨rfl, hw.isBelow⟩)
  · have p1 := of_decide_eq_false h1; replace hk := zab hk h1; refine T.skip (K.seq (T.seq (T.sr ?_))); refine TL.run 1 rfl ?_; refine TL.ns ?_; have hq := zae hk; clear hk; obtain ⟨k2, hk2, hk⟩ := hq; (try dsimp only at hk); refine T.ag (ι := FzB w (fun _ => False) S0) (fun z => []) (fun z => [.fr z]) (fun z => k2 () = some r ∧ F1.toFrz.Le z.toFrz) ?_ ?_
    · have hq := zap hk; clear hk; obtain ⟨f3, kk3, hf3, hkk3, hk⟩ := hq; refine T.block ?_; refine T.loop (ι := Nat × FzB w (fun _ => False) S0) (fun z => [(0, vl), (1, .int .i64 id), (2, vwant), (7, .int .i64 (z.1 : Int))]) (fun z => [.fr z.2]) (fun z => zao f3 kk3 (l.length - z.1) z.1 () = some r ∧ F1.toFrz.Le z.2.toFrz) (fun z => l.length - z.1) (0, F1) ?_ ?_ ?_ ?_
      · exact ⟨hk, (Frz.Le.refl _)⟩
      · exact (.c (.c (.c (.c .nil))))
      · exact List.Sublist.refl _
      · rintro ⟨i_4, F3⟩ ⟨hk, le1_3⟩; (try dsimp only at *); refine T.seq (T.sr ?_); refine TL.run 2 rfl ?_; refine TL.y (Yv.am rfl rfl (SlD.mono (rep := GBid.rep) (fun _ _ _ _ => GBid.mono) hl le1_3).1 (SlD.mono (rep := GBid.rep) (fun _ _ _ _ => GBid.mono) hl le1_3).2.1) ?_; refine TL.run 1 rfl ?_; refine TL.ns ?_; refine T.cond rfl (fun h5 => ?_) (fun h5 => ?_)
        · have p5 := of_decide_eq_true h5; rw [zaD (by omega)] at hk; generalize hn3 : zao f3 kk3 (l.length - (i_4 + 1)) (i_4 + 1) = next3 at hk; rw [← hf3] at hk; (try dsimp only at hk); refine T.skip (K.seq (T.seq (T.block (T.seq ?_)))); have hq := zac hk; clear hk; obtain ⟨r27, hr27, hk⟩ := hq; (try dsimp only at hk); refine T.region ?_; refine TL.run 2 rfl ?_; refine TL.y (Yv.ao (i := i_4) rfl rfl rfl (SlC.mono hwant le1_3) (List.length_map _) rfl (by omega)) ?_; refine TL.y (Yv.aT rfl rfl (SlC.mono hwant le1_3) (List.length_map _) (by omega)) ?_; refine TL.y (Yv.al 0 (i := i_4) (j := 2) rfl rfl rfl (SlC.mono hwant le1_3) (by omega) rfl rfl) ?_; refine TL.e (Ew.an 0 rfl rfl rfl rfl (fun w hw hF => zee _ w hF ((nth want i_4).Point) 1000 fuel r27 hr27)) ?_; rintro _ _ ⟨⟨v27_0_1, v27_0_3⟩, F4, le3_4, ⟨hf27_0_1, hf27_0_3⟩, rfl, rfl⟩; dsimp only at hf27_0_1 hf27_0_3 ⊢; have le1_4 := le1_3.trans le3_4; haveI := hf27_0_1.oneC; haveI := hf27_0_3.oneC; refine TL.run 3 rfl ?_; refine TL.e (Ew.alloc rfl) ?_; rintro _ _ ⟨g8, rfl, rfl⟩; refine TL.e0 (Ew.ab 0 rfl rfl rfl rfl rfl rfl) ?_; rintro _ _ ⟨rfl, rfl⟩; refine TL.run 1 rfl ?_; refine TL.ns (T.seq ?_); (try dsimp only at hk); have hq := zae hk; clear hk; obtain ⟨k7, hk7, hk⟩ := hq; (try dsimp only at hk); refine T.ag (ι := Bool) (fun z => [(0, vl), (1, .int .i64 id), (2, vwant), (7, .int .i64 (i_4 : Int)), (85, .bool z)]) (fun z => [.fr F4]) (fun z => k7 z = some r) ?_ ?_
          · refine T.ay (.still 0 (.still 1 (.still 2 (.still 3 (.still 4 (.still 5 (.still 6 (.still 7 (.still 8 (.still 9 (.still 10 (.still 11 (.still 12 (.still 13 (.still 14 (.still 15 (.still 16 (.still 17 (.still 18 (.still 19 (.still 20 (.still 21 (.still 22 (.still 23 (.still 24 (.still 25 (.still 26 (.still 27 (.still 28 (.still 29 (.still 30 (.still 31 (.still 32 (.still 33 (.still 34 (.still 35 (.still 36 (.still 37 (.still 38 (.still 39 (.still 40 (.still 41 (.still 42 (.eff 43 (.still 44 (.still 45 (.still 46 (.still 47 (.still 48 (.still 49 (.still 50 (.still 51 (.still 52 (.eff 53 (.still 54 (.still 55 .done)))))))))))))))))))))))))))))))))))))))))))))))))))))))) _ (by kernel_rfl) (List.Sublist.refl _) ?_; refine TS.run 3 rfl ?_; refine TS.gs rfl rfl rfl rfl (fun h8 => ?_) (fun h8 => ?_)
            · have p8 := of_decide_eq_true h8; replace hk := zaa hk h8; refine TS.run 40 rfl ?_; refine TS.eff ?_; refine TSo.off rfl (Wt.not rfl rfl rfl rfl) rfl rfl ?_; refine TS.run 9 rfl ?_; refine TS.eff ?_; refine TSo.off rfl (Wt.not rfl rfl rfl rfl) rfl rfl ?_; refine TS.run 2 rfl ?_; refine TS.done ?_; refine K.pick [1] rfl (by decide) ?_; exact K.af true hk (.c (.c (.c (.c (.c .nil))))) (List.Sublist.refl _)
            · have p8 := of_decide_eq_false h8; replace hk := zab hk h8; refine TS.run 2 rfl ?_; refine TS.y rfl (Yv.ao (i := i_4) rfl rfl rfl (SlD.mono (rep := GBid.rep) (fun _ _ _ _ => GBid.mono) hl le1_4).1 (SlD.mono (rep := GBid.rep) (fun _ _ _ _ => GBid.mono) hl le1_4).2.1 rfl (by omega)) ?_; refine TS.y rfl (Yv.aT rfl rfl (SlD.mono (rep := GBid.rep) (fun _ _ _ _ => GBid.mono) hl le1_4).1 (SlD.mono (rep := GBid.rep) (fun _ _ _ _ => GBid.mono) hl le1_4).2.1 (by omega)) ?_; refine TS.y rfl (Yv.aO 1 (i := i_4) (j := 0) rfl rfl rfl (SlD.mono (rep := GBid.rep) (fun _ _ _ _ => GBid.mono) hl le1_4).1 (SlD.mono (rep := GBid.rep) (fun _ _ _ _ => GBid.mono) hl le1_4).2.1 (by omega) rfl (GBid.c0 ((SlD.mono (rep := GBid.rep) (fun _ _ _ _ => GBid.mono) hl le1_4).2.2 i_4 (by omega)))) ?_; refine TS.run 4 rfl ?_; refine TS.gs rfl rfl rfl rfl (fun h9 => ?_) (fun h9 => ?_)
              · have p9 := of_decide_eq_true h9; replace hk := zaa hk h9; refine TS.run 31 rfl ?_; refine TS.eff ?_; refine TSo.off rfl (Wt.not rfl rfl rfl rfl) rfl rfl ?_; refine TS.run 9 rfl ?_; refine TS.eff ?_; refine TSo.off rfl (Wt.not rfl rfl rfl rfl) rfl rfl ?_; refine TS.run 2 rfl ?_; refine TS.done ?_; refine K.pick [1] rfl (by decide) ?_; exact K.af true hk (.c (.c (.c (.c (.c .nil))))) (List.Sublist.refl _)
              · have p9 := of_decide_eq_false h9; replace hk := zab hk h9; refine TS.run 2 rfl ?_; refine TS.y rfl (Yv.ao (i := i_4) rfl rfl rfl (SlD.mono (rep := GBid.rep) (fun _ _ _ _ => GBid.mono) hl le1_4).1 (SlD.mono (rep := GBid.rep) (fun _ _ _ _ => GBid.mono) hl le1_4).2.1 rfl (by omega)) ?_; refine TS.y rfl (Yv.aT rfl rfl (SlD.mono (rep := GBid.rep) (fun _ _ _ _ => GBid.mono) hl le1_4).1 (SlD.mono (rep := GBid.rep) (fun _ _ _ _ => GBid.mono) hl le1_4).2.1 (by omega)) ?_; refine TS.y rfl (Yv.aO 1 (i := i_4) (j := 1) rfl rfl rfl (SlD.mono (rep := GBid.rep) (fun _ _ _ _ => GBid.mono) hl le1_4).1 (SlD.mono (rep := GBid.rep) (fun _ _ _ _ => GBid.mono) hl le1_4).2.1 (by omega) rfl (GBid.c1 ((SlD.mono (rep := GBid.rep) (fun _ _ _ _ => GBid.mono) hl le1_4).2.2 i_4 (by omega)))) ?_; refine TS.run 2 rfl ?_; refine TS.y rfl (Yv.ao (i := i_4) rfl rfl rfl (SlC.mono hwant le1_4) (List.length_map _) rfl (by omega)) ?_; refine TS.y rfl (Yv.aT rfl rfl (SlC.mono hwant le1_4) (List.length_map _) (by omega)) ?_; refine TS.y rfl (Yv.al 1 (i := i_4) (j := 0) rfl rfl rfl (SlC.mono hwant le1_4) (by omega) rfl rfl) ?_; refine TS.run 3 rfl ?_; refine TS.gs rfl rfl rfl rfl (fun h10 => ?_) (fun h10 => ?_)
                · have p10 := of_decide_eq_true h10; replace hk := zaa hk h10; refine TS.run 18 rfl ?_; refine TS.eff ?_; refine TSo.off rfl (Wt.not rfl rfl rfl rfl) rfl rfl ?_; refine TS.run 9 rfl ?_; refine TS.eff ?_; refine TSo.off rfl (Wt.not rfl rfl rfl rfl) rfl rfl ?_; refine TS.run 2 rfl ?_; refine TS.done ?_; refine K.pick [1] rfl (by decide) ?_; exact K.af true hk (.c (.c (.c (.c (.c .nil))))) (List.Sublist.refl _)
                · have p10 := of_decide_eq_false h10; replace hk := zab hk h10; refine TS.run 2 rfl ?_; refine TS.y rfl (Yv.ao (i := i_4) rfl rfl rfl (SlD.mono (rep := GBid.rep) (fun _ _ _ _ => GBid.mono) hl le1_4).1 (SlD.mono (rep := GBid.rep) (fun _ _ _ _ => GBid.mono) hl le1_4).2.1 rfl (by omega)) ?_; refine TS.y rfl (Yv.aT rfl rfl (SlD.mono (rep := GBid.rep) (fun _ _ _ _ => GBid.mono) hl le1_4).1 (SlD.mono (rep := GBid.rep) (fun _ _ _ _ => GBid.mono) hl le1_4).2.1 (by omega)) ?_; refine TS.y rfl (Yv.aO 1 (i := i_4) (j := 2) rfl rfl rfl (SlD.mono (rep := GBid.rep) (fun _ _ _ _ => GBid.mono) hl le1_4).1 (SlD.mono (rep := GBid.rep) (fun _ _ _ _ => GBid.mono) hl le1_4).2.1 (by omega) rfl (GBid.c2 ((SlD.mono (rep := GBid.rep) (fun _ _ _ _ => GBid.mono) hl le1_4).2.2 i_4 (by omega)))) ?_; refine TS.run 2 rfl ?_; refine TS.y rfl (Yv.ao (i := i_4) rfl rfl rfl (SlC.mono hwant le1_4) (List.length_map _) rfl (by omega)) ?_; refine TS.y rfl (Yv.aT rfl rfl (SlC.mono hwant le1_4) (List.length_map _) (by omega)) ?_; refine TS.y rfl (Yv.al 1 (i := i_4) (j := 1) rfl rfl rfl (SlC.mono hwant le1_4) (by omega) rfl rfl) ?_; refine TS.run 3 rfl ?_; refine TS.gs rfl rfl rfl rfl (fun h11 => ?_) (fun h11 => ?_)
                  · have p11 := of_decide_eq_true h11; replace hk := zaa hk h11; refine TS.run 5 rfl ?_; refine TS.eff ?_; refine TSo.off rfl (Wt.not rfl rfl rfl rfl) rfl rfl ?_; refine TS.run 9 rfl ?_; refine TS.eff ?_; refine TSo.off rfl (Wt.not rfl rfl rfl rfl) rfl rfl ?_; refine TS.run 2 rfl ?_; refine TS.done ?_; refine K.pick [1] rfl (by decide) ?_; exact K.af true hk (.c (.c (.c (.c (.c .nil))))) (List.Sublist.refl _)
                  · have p11 := of_decide_eq_false h11; replace hk := zab hk h11; refine TS.run 2 rfl ?_; refine TS.y rfl (Yv.ao (i := i_4) rfl rfl rfl (SlD.mono (rep := GBid.rep) (fun _ _ _ _ => GBid.mono) hl le1_4).1 (SlD.mono (rep := GBid.rep) (fun _ _ _ _ => GBid.mono) hl le1_4).2.1 rfl (by omega)) ?_; refine TS.y rfl (Yv.aT rfl rfl (SlD.mono (rep := GBid.rep) (fun _ _ _ _ => GBid.mono) hl le1_4).1 (SlD.mono (rep := GBid.rep) (fun _ _ _ _ => GBid.mono) hl le1_4).2.1 (by omega)) ?_; refine TS.y rfl (Yv.bg 1 (i := i_4) (j := 3) rfl rfl rfl (SlD.mono (rep := GBid.rep) (fun _ _ _ _ => GBid.mono) hl le1_4).1 (SlD.mono (rep := GBid.rep) (fun _ _ _ _ => GBid.mono) hl le1_4).2.1 (by omega) rfl ((zeA (GBid.form ((SlD.mono (rep := GBid.rep) (fun _ _ _ _ => GBid.mono) hl le1_4).2.2 i_4 (by omega))) (j := 3) (q := 4) (by decide)).trans rfl) rfl) ?_; have hd72_4 := (GBid.c4 ((SlD.mono (rep := GBid.rep) (fun _ _ _ _ => GBid.mono) hl le1_4).2.2 i_4 (by omega))).2; haveI := hd72_4.oneC; have hd72_6 := (GBid.c6 ((SlD.mono (rep := GBid.rep) (fun _ _ _ _ => GBid.mono) hl le1_4).2.2 i_4 (by omega))).2; haveI := hd72_6.oneC; refine TS.eff ?_; have hq := zac hk; clear hk; obtain ⟨r73, hr73, hk⟩ := hq; refine TSo.aC rfl (Wt.some rfl rfl rfl rfl) rfl rfl (Ew.ah rfl rfl rfl (fun w hw => zcD _ w (hw.fr (i := 1) rfl) ((nth l i_4).Point) (nth (nth cl i_4) 4) hd72_4 (nth (nth cl i_4) 6) hd72_6 fuel r73 hr73)) ?_; rintro _ _ ⟨rfl, rfl⟩; refine ⟨(fun w hw => hw.sub Sx), ?_⟩; refine TS.run 3 rfl ?_; refine TS.gs rfl rfl rfl rfl (fun h12 => ?_) (fun h12 => ?_)
                    · replace hk := zaa hk h12; refine TS.run 6 rfl ?_; refine TS.eff ?_; refine TSo.off rfl (Wt.not rfl rfl rfl rfl) rfl rfl ?_; refine TS.run 2 rfl ?_; refine TS.done ?_; refine K.pick [1] rfl (by decide) ?_; exact K.af true hk (.c (.c (.c (.c (.c .nil))))) (List.Sublist.refl _)
                    · replace hk := zab hk h12; refine TS.run 2 rfl ?_; refine TS.y rfl (Yv.ao (i := i_4) rfl rfl rfl (SlD.mono (rep := GBid.rep) (fun _ _ _ _ => GBid.mono) hl le1_4).1 (SlD.mono (rep := GBid.rep) (fun _ _ _ _ => GBid.mono) hl le1_4).2.1 rfl (by omega)) ?_; refine TS.y rfl (Yv.aT rfl rfl (SlD.mono (rep := GBid.rep) (fun _ _ _ _ => GBid.mono) hl le1_4).1 (SlD.mono (rep := GBid.rep) (fun _ _ _ _ => GBid.mono) hl le1_4).2.1 (by omega)) ?_; refine TS.y rfl (Yv.bg 1 (i := i_4) (j := 3) rfl rfl rfl (SlD.mono (rep := GBid.rep) (fun _ _ _ _ => GBid.mono) hl le1_4).1 (SlD.mono (rep := GBid.rep) (fun _ _ _ _ => GBid.mono) hl le1_4).2.1 (by omega) rfl ((zeA (GBid.form ((SlD.mono (rep := GBid.rep) (fun _ _ _ _ => GBid.mono) hl le1_4).2.2 i_4 (by omega))) (j := 3) (q := 4) (by decide)).trans rfl) rfl) ?_; refine TS.y rfl (Yv.ai 0 rfl rfl rfl rfl) ?_; refine TS.eff ?_; have hq := zac hk; clear hk; obtain ⟨r83, hr83, hk⟩ := hq; refine TSo.aC rfl (Wt.some rfl rfl rfl rfl) rfl rfl (Ew.ah rfl rfl rfl (fun w hw => zdQ _ w (hw.fr (i := 1) rfl) ((nth l i_4).Point) (nth (nth cl i_4) 4) hd72_4 (nth (nth cl i_4) 6) hd72_6 r27.1 v27_0_1 hf27_0_1 v27_0_3 hf27_0_3 fuel r83 hr83)) ?_; rintro _ _ ⟨rfl, rfl⟩; refine ⟨(fun w hw => hw.sub Sx), ?_⟩; refine TS.run 2 rfl ?_; refine TS.done ?_; refine K.pick [1] rfl (by decide) ?_; exact K.af (decide (¬ r83 = 0)) hk (.c (.c (.c (.c (.c .nil))))) (List.Sublist.refl _)
          · rintro x_6 hk; rw [← hk7] at hk; (try dsimp only at hk); refine T.cond rfl (fun h13 => ?_) (fun h13 => ?_)
            · replace hk := zaa hk h13; refine T.sr ?_; refine TL.run 1 rfl ?_; refine TL.ns (T.ret (K.aj (K.a (K.a (K.aj (K.a ?_)))))); obtain rfl := Option.some.inj hk; exact K.ak rfl rfl (fun w' hw => ⟨rfl, hw.isBelow⟩)
            · replace hk := zab hk h13; refine T.skip (K.ac (K.seq (T.region ?_))); refine TL.run 1 rfl ?_; refine TL.y (Yv.av rfl rfl rfl (by omega)) ?_; refine TL.run 1 rfl ?_; refine TL.nil ?_; rw [← hn3] at hk; exact K.next ((i_4 + 1), F4) ⟨hk, le1_4⟩ (by dsimp only; omega) (.c (.c (.c (.c .nil)))) (List.Sublist.refl _)
        · have p5 := of_decide_eq_false h5; rw [zaE (by omega), ← hkk3] at hk; (try dsimp only at hk); refine T.exit (K.aa (K.aa (K.ae ?_))); exact K.af F3 ⟨hk, le1_3⟩ .nil (List.Sublist.refl _)
    · rintro F2 ⟨hk, le1_2⟩; rw [← hk2] at hk; (try dsimp only at hk); refine T.sr ?_; refine TL.run 1 rfl ?_; refine TL.ns (T.ret ?_); obtain rfl := Option.some.inj hk; exact K.ak rfl rfl (fun w' hw => ⟨rfl, hw.isBelow⟩)
def zbA (fuel : Nat)  : Option Bool :=
  (zb9 (GStationPlan.mk 7 3 [0, 10, 20, 100]) 0 [90, 70, 85, 0]).bind fun r23 =>
  (zbJ fuel (GStationPlan.mk 7 3 [0, 10, 20, 100]) 0 [90, 70, 85, 0]).bind fun r29 =>
  (bif ((((((decide (¬ r23.1 = 90)) || (decide (¬ r23.2 = 0))) || (decide (¬ r29.2 = 0))) || (decide (¬ r29.1.Station = 7))) || (decide (¬ r29.1.Preferred = 2))) || (!(zaL r29.1.Fallbacks [3, 0, 1]))) then
    some false
    else
    zaB (fun (_ : Unit) =>
      (zcy fuel (GBidderPlan.mk 2 1000 [[9, 7, 2]]) [(GProduct.mk 1 1 3 1 0)] [2] [5] [10]).bind fun r98 =>
      zaB (fun (x_13 : Bool) =>
        (bif x_13 then
          some false
          else
          (zbP fuel (GBidderPlan.mk 2 9 [[9, 7, 2]]) [(GProduct.mk 1 1 3 1 0)] [5]).bind fun r116 =>
          some ((decide (r116.2 = 0)) && (zaL r116.1 [1]))))
      (fun k14 =>
        (bif decide (¬ r98.2 = 0) then
          k14 true
          else
          (zcO fuel r98.1 2 [(GRow.mk 0 (-1) 400), (GRow.mk 0 (-1) 800)]).bind fun r108 =>
          k14 (!r108))))
    (fun k7 =>
      zao (fun (i_9 : Nat) (next8 : Unit → Option Bool) (_ : Unit) =>
        grd (0 ≤ (i_9 : Int) ∧ (i_9 : Int) < ([2, 2, 0].length : Int)) <|
        grd (0 ≤ (i_9 : Int) ∧ (i_9 : Int) < ([5, 7, 10].length : Int)) <|
        (zbP fuel (GBidderPlan.mk 2 1000 [[9, 7, 2]]) [(GProduct.mk 1 1 3 1 0)] [(nth [5, 7, 10] i_9)]).bind fun r79 =>
        (bif ((decide (¬ r79.2 = 0)) || (!(zaL r79.1 [(nth [2, 2, 0] i_9)]))) then
          some false
          else
          next8 ()))
      (fun (_ : Unit) =>
        k7 ()) (3 - 0) 0 ()))
theorem zdk (F0 : Frz) (w : World) (hF0 : F0.At w)  (fuel : Nat) (r : Bool) (hr : zbA fuel = some r) : Calls Tryz.prog 7 #[] w fun e w' => e = .returned (.bool r) ∧ Below w.heap.size w w' := by
  have hk := hr; unfold zbA at hk; obtain ⟨S0, F1, rfl, hS0, hp0⟩ := zaf hF0; refine zai Tryz.func7 rfl rfl rfl hp0 ?_; refine T.sr ?_; refine TL.run 1 rfl ?_; refine TL.nx ?_; refine TL.e (Ew.buildSlice rfl rfl rfl (by decide)) ?_; rintro _ _ ⟨g17, rfl, rfl⟩; refine TL.y (Yv.build rfl rfl) ?_; refine TL.e (Ew.alloc rfl) ?_; rintro _ _ ⟨g1, rfl, rfl⟩; refine TL.e0 (Ew.ab 0 rfl rfl rfl rfl rfl rfl) ?_; rintro _ _ ⟨rfl, rfl⟩; refine TL.nx ?_; refine TL.e (Ew.buildSlice rfl rfl rfl (by decide)) ?_; rintro _ _ ⟨g19, rfl, rfl⟩; refine TL.run 1 rfl ?_; refine TL.ns (T.seq ?_); refine T.aA (fun w hw => hw.freezeR (i := 3) (j := 2) (by decide) rfl rfl) ?_; rintro F2 ⟨le1_2, hz2⟩; dsimp only [List.set, List.eraseIdx]; have hfF2 : SlC F2.toFrz (.slice (some ⟨g17, 0, none⟩) 4 4) 1 ([0, 10, 20, 100].map eI) := (SlK.lit hz2 rfl (Nat.le_refl _) (by decide)).toF (xs := [0, 10, 20, 100]) rfl (fun _ => rfl); refine T.aA (fun w hw => hw.freezeR (i := 2) (j := 0) (by decide) rfl rfl) ?_; rintro F3 ⟨le2_3, hz3⟩; dsimp only [List.set, List.eraseIdx]; have hfF3 : SlC F3.toFrz (.slice (some ⟨g19, 0, none⟩) 4 4) 1 ([90, 70, 85, 0].map eI) := (SlK.lit hz3 rfl (Nat.le_refl _) (by decide)).toF (xs := [90, 70, 85, 0]) rfl (fun _ => rfl); have hq := zac hk; clear hk; obtain ⟨r23, hr23, hk⟩ := hq; (try dsimp only at hk); refine T.region ?_; refine TL.y (Yv.ai 0 rfl rfl rfl rfl) ?_; refine TL.run 1 rfl ?_; refine TL.e (Ew.ah rfl rfl rfl (fun w hw => zdI _ w (hw.fr (i := 1) rfl) (GStationPlan.mk 7 3 [0, 10, 20, 100]) (.slice (some ⟨g17, 0, none⟩) 4 4) (SlC.mono hfF2 le2_3) 0 [90, 70, 85, 0] (.slice (some ⟨g19, 0, none⟩) 4 4) hfF3 r23 hr23)) ?_; rintro _ _ ⟨rfl, rfl⟩; refine TL.run 5 rfl ?_; refine TL.ns (T.seq ?_); have hq := zac hk; clear hk; obtain ⟨r29, hr29, hk⟩ := hq; (try dsimp only at hk); refine T.region ?_; refine TL.y (Yv.ai 0 rfl rfl rfl rfl) ?_; refine TL.run 1 rfl ?_; refine TL.e (Ew.an 1 rfl rfl rfl rfl (fun w hw hF => zc6 _ w hF (GStationPlan.mk 7 3 [0, 10, 20, 100]) (.slice (some ⟨g17, 0, none⟩) 4 4) (SlC.mono hfF2 le2_3) 0 [90, 70, 85, 0] (.slice (some ⟨g19, 0, none⟩) 4 4) hfF3 fuel r29 hr29)) ?_; rintro _ _ ⟨v29_0_2, F4, le3_4, hf29_0_2, rfl, rfl⟩; haveI := hf29_0_2.oneC; refine TL.run 3 rfl ?_; refine TL.e (Ew.alloc rfl) ?_; rintro _ _ ⟨g5, rfl, rfl⟩; refine TL.e0 (Ew.ab 0 rfl rfl rfl rfl rfl rfl) ?_; rintro _ _ ⟨rfl, rfl⟩; refine TL.run 1 rfl ?_; refine TL.ns (T.seq (T.seq ?_)); refine T.ag (ι := FzB w (fun _ => False) S0) (fun z => [(58, .bool ((((((decide (¬ r23.1 = 90)) || (decide (¬ r23.2 = 0))) || (decide (¬ r29.2 = 0))) || (decide (¬ r29.1.Station = 7))) || (decide (¬ r29.1.Preferred = 2))) || (!(zaL r29.1.Fallbacks [3, 0, 1]))))]) (fun z => [.row g5 52 [.int .i64 r29.1.Station, .int .i64 r29.1.Preferred, v29_0_2], .row g1 39 [.int .i64 7, .int .i64 3, (.slice (some ⟨g17, 0, none⟩) 4 4)], .fr z]) (fun z => F4.toFrz.Le z.toFrz) ?_ ?_
  · refine T.region ?_; refine TL.run 3 rfl ?_; refine TL.gs rfl rfl rfl (fun h1 => ?_) (fun h1 => ?_)
    · have p1 := of_decide_eq_true h1; refine TL.run 24 rfl ?_; refine TL.nil ?_; exact K.af F4 (Frz.Le.refl _) (.b (zam (zam (zam (zam (zam h1))))).symm .nil) (List.Sublist.refl _)
    · have p1 := of_decide_eq_false h1; refine TL.run 4 rfl ?_; refine TL.gs rfl rfl rfl (fun h2 => ?_) (fun h2 => ?_)
      · have p2 := of_decide_eq_true h2; refine TL.run 20 rfl ?_; refine TL.nil ?_; exact K.af F4 (Frz.Le.refl _) (.b (zam (zam (zam (zam (zau h1 h2))))).symm .nil) (List.Sublist.refl _)
      · have p2 := of_decide_eq_false h2; refine TL.run 4 rfl ?_; refine TL.gs rfl rfl rfl (fun h3 => ?_) (fun h3 => ?_)
        · have p3 := of_decide_eq_true h3; refine TL.run 16 rfl ?_; refine TL.nil ?_; exact K.af F4 (Frz.Le.refl _) (.b (zam (zam (zam (zau (zau h1 h2) h3)))).symm .nil) (List.Sublist.refl _)
        · have p3 := of_decide_eq_false h3; refine TL.y (Yv.fieldAddr rfl rfl) ?_; refine TL.y (Yv.ad 0 rfl rfl rfl rfl) ?_; refine TL.run 3 rfl ?_; refine TL.gs rfl rfl rfl (fun h4 => ?_) (fun h4 => ?_)
          · have p4 := of_decide_eq_true h4; refine TL.run 11 rfl ?_; refine TL.nil ?_; exact K.af F4 (Frz.Le.refl _) (.b (zam (zam (zau (zau (zau h1 h2) h3) h4))).symm .nil) (List.Sublist.refl _)
          · have p4 := of_decide_eq_false h4; refine TL.y (Yv.fieldAddr rfl rfl) ?_; refine TL.y (Yv.ad 0 rfl rfl rfl rfl) ?_; refine TL.run 3 rfl ?_; refine TL.gs rfl rfl rfl (fun h5 => ?_) (fun h5 => ?_)
            · have p5 := of_decide_eq_true h5; refine TL.run 6 rfl ?_; refine TL.nil ?_; exact K.af F4 (Frz.Le.refl _) (.b (zam (zau (zau (zau (zau h1 h2) h3) h4) h5)).symm .nil) (List.Sublist.refl _)
            · have p5 := of_decide_eq_false h5; refine TL.y (Yv.fieldAddr rfl rfl) ?_; refine TL.y (Yv.ad 0 rfl rfl rfl rfl) ?_; refine TL.e (Ew.buildSlice rfl rfl rfl (by decide)) ?_; rintro _ _ ⟨g55, rfl, rfl⟩; refine TL.aA (fun w hw => hw.freezeR (i := 3) (j := 0) (by decide) rfl rfl) ?_; rintro F6 ⟨le4_6, hz6⟩; dsimp only [List.set, List.eraseIdx]; have hfF6 : SlC F6.toFrz (.slice (some ⟨g55, 0, none⟩) 3 3) 1 ([3, 0, 1].map eI) := (SlK.lit hz6 rfl (Nat.le_refl _) (by decide)).toF (xs := [3, 0, 1]) rfl (fun _ => rfl); refine TL.e (Ew.ah rfl rfl rfl (fun w hw => zb8 _ w (hw.fr (i := 2) rfl) r29.1.Fallbacks v29_0_2 (SlC.mono hf29_0_2 le4_6) [3, 0, 1] (.slice (some ⟨g55, 0, none⟩) 3 3) hfF6)) ?_; rintro _ _ ⟨rfl, rfl⟩; refine TL.run 2 rfl ?_; refine TL.nil ?_; exact K.af F6 le4_6 (.b (or_f (zau (zau (zau (zau h1 h2) h3) h4) h5)) .nil) (List.Sublist.refl _)
  · rintro F5 le4_5; (try dsimp only at *); refine T.cond rfl (fun h6 => ?_) (fun h6 => ?_)
    · replace hk := zaa hk h6; refine T.sr ?_; refine TL.run 1 rfl ?_; refine TL.ns (T.ret (K.a ?_)); obtain rfl := Option.some.inj hk; exact K.ak rfl rfl (fun w' hw => ⟨rfl, hw.isBelow⟩)
    · have p6 := h6; (try simp only [nfB] at p6); replace hk := zab hk h6; refine T.skip (K.seq (T.sr ?_)); refine TL.y (Yv.build rfl rfl) ?_; refine TL.e (Ew.buildSlice rfl rfl rfl (by decide)) ?_; rintro _ _ ⟨g60, rfl, rfl⟩; refine TL.run 1 rfl ?_; refine TL.nx ?_; refine TL.e (Ew.buildSlice rfl rfl rfl (by decide)) ?_; rintro _ _ ⟨g61, rfl, rfl⟩; refine TL.aA (fun w hw => hw.freezeR (i := 4) (j := 0) (by decide) rfl rfl) ?_; rintro F7 ⟨le5_7, hz7⟩; dsimp only [List.set, List.eraseIdx]; have hfF7 : SlC F7.toFrz (.slice (some ⟨g61, 0, none⟩) 3 3) 1 ([9, 7, 2].map eI) := (SlK.lit hz7 rfl (Nat.le_refl _) (by decide)).toF (xs := [9, 7, 2]) rfl (fun _ => rfl); refine TL.e (Ew.buildSlice rfl rfl rfl (by decide)) ?_; rintro _ _ ⟨g62, rfl, rfl⟩; have hl62 : OwnD R_List_Int.rep F7.toFrz 1 [[(.slice (some ⟨g61, 0, none⟩) 3 3)]] [[9, 7, 2]] := (OwnD.snoc (OwnD.nil _ _ 1) ⟨_, rfl, hfF7⟩ rfl); refine TL.y (Yv.build rfl rfl) ?_; refine TL.e (Ew.alloc rfl) ?_; rintro _ _ ⟨g8, rfl, rfl⟩; refine TL.e0 (Ew.ab 0 rfl rfl rfl rfl rfl rfl) ?_; rintro _ _ ⟨rfl, rfl⟩; refine TL.ns (T.seq (T.sr ?_)); refine TL.e (Ew.buildSlice rfl rfl rfl (by decide)) ?_; rintro _ _ ⟨g64, rfl, rfl⟩; refine TL.y (Yv.bf rfl rfl) ?_; refine TL.run 1 rfl ?_; refine TL.ns ?_; refine T.aA (fun w hw => hw.freezeR (i := 6) (j := 3) (by decide) rfl rfl) ?_; rintro F8 ⟨le7_8, hz8⟩; dsimp only [List.set, List.eraseIdx]; have hfF8 : SlC F8.toFrz (.slice (some ⟨g60, 0, none⟩) 1 1) 5 ([(GProduct.mk 1 1 3 1 0)].map GProduct.enc) := (SlK.lit hz8 rfl (Nat.le_refl _) (by decide)).toF (xs := [(GProduct.mk 1 1 3 1 0)]) rfl GProduct.len; refine T.aA (fun w hw => hw.freezeR (i := 5) (j := 2) (by decide) rfl rfl) ?_; rintro F9 ⟨le8_9, hz9⟩; dsimp only [List.set, List.eraseIdx]; have le7_9 := le7_8.trans le8_9; have hfF9 : SlD R_List_Int.rep F9.toFrz (.slice (some ⟨g62, 0, none⟩) 1 1) 1 [[(.slice (some ⟨g61, 0, none⟩) 3 3)]] [[9, 7, 2]] := (SlK.lit hz9 rfl (Nat.le_refl _) (by decide)).toD (OwnD.mono (rep := R_List_Int.rep) (fun _ _ _ _ => R_List_Int.mono) hl62 le7_9) rfl; refine T.aA (fun w hw => hw.freezeR (i := 4) (j := 0) (by decide) rfl rfl) ?_; rintro F10 ⟨le9_10, hz10⟩; dsimp only [List.set, List.eraseIdx]; have le8_10 := le8_9.trans le9_10; have hfF10 : SlC F10.toFrz (.slice (some ⟨g64, 0, none⟩) 3 3) 1 ([2, 2, 0].map eI) := (SlK.lit hz10 rfl (Nat.le_refl _) (by decide)).toF (xs := [2, 2, 0]) rfl (fun _ => rfl); have hq := zae hk; clear hk; obtain ⟨k7, hk7, hk⟩ := hq; (try dsimp only at hk); refine T.ag (ι := FzB w (fun _ => False) S0) (fun z => [(7, (.slice (some ⟨g60, 0, none⟩) 1 1)), (8, .pointer (some ⟨g8, 0, none⟩))]) (fun z => [.row g8 24 [.int .i64 2, .int .i64 1000, (.slice (some ⟨g62, 0, none⟩) 1 1)], .fr z]) (fun z => k7 () = some r ∧ F10.toFrz.Le z.toFrz) ?_ ?_
      · have hq := zap hk; clear hk; obtain ⟨f8, kk8, hf8, hkk8, hk⟩ := hq; refine T.block ?_; refine T.pick [0, 3] rfl (by decide) ?_; refine T.loop (ι := Nat × FzB w (fun _ => False) S0) (fun z => [(7, (.slice (some ⟨g60, 0, none⟩) 1 1)), (8, .pointer (some ⟨g8, 0, none⟩)), (64, (.slice (some ⟨g64, 0, none⟩) 3 3)), (65, .int .i64 3), (66, .int .i64 (z.1 : Int))]) (fun z => [.row g8 24 [.int .i64 2, .int .i64 1000, (.slice (some ⟨g62, 0, none⟩) 1 1)], .fr z.2]) (fun z => zao f8 kk8 (3 - z.1) z.1 () = some r ∧ F10.toFrz.Le z.2.toFrz) (fun z => 3 - z.1) (0, F10) ?_ ?_ ?_ ?_
        · exact ⟨hk, (Frz.Le.refl _)⟩
        · exact (.c (.c (.c (.c (.c .nil)))))
        · exact List.Sublist.refl _
        · rintro ⟨i_9, F12⟩ ⟨hk, le10_12⟩; (try dsimp only at *); have le8_12 := le8_10.trans le10_12; have le9_12 := le9_10.trans le10_12; refine T.sr ?_; refine TL.run 1 rfl ?_; refine TL.ns (T.seq ?_); refine T.cond rfl (fun h10 => ?_) (fun h10 => ?_)
          · have p10 := of_decide_eq_true h10; rw [zaD (by omega)] at hk; generalize hn8 : zao f8 kk8 (3 - (i_9 + 1)) (i_9 + 1) = next8 at hk; rw [← hf8] at hk; (try dsimp only at hk); refine T.skip (K.seq (T.seq (T.block (T.seq ?_)))); have hq : (0 ≤ (i_9 : Int) ∧ (i_9 : Int) < ([2, 2, 0].length : Int)) ∧ _ := zad hk; clear hk; obtain ⟨g69, hk⟩ := hq; (try dsimp only at hk); refine T.region ?_; refine TL.run 1 rfl ?_; refine TL.y (Yv.ao (i := i_9) rfl rfl rfl (SlC.mono hfF10 le10_12) (List.length_map _) rfl (by omega)) ?_; refine TL.y (Yv.al 1 (i := i_9) (j := 0) rfl rfl rfl (SlC.mono hfF10 le10_12) (by omega) rfl rfl) ?_; refine TL.run 2 rfl ?_; refine TL.ns (T.seq ?_); have hq : (0 ≤ (i_9 : Int) ∧ (i_9 : Int) < ([5, 7, 10].length : Int)) ∧ _ := zad hk; clear hk; obtain ⟨g76, hk⟩ := hq; have hq := zac hk; clear hk; obtain ⟨r79, hr79, hk⟩ := hq; (try dsimp only at hk); refine T.ay (.still 0 (.still 1 (.still 3 (.eff 2 (.still 4 (.eff 5 (.eff 6 (.eff 7 (.still 8 (.still 9 (.still 10 (.still 11 (.still 12 .done))))))))))))) _ (by kernel_rfl) (List.Sublist.refl _) ?_; refine TS.y rfl (Yv.ai 0 rfl rfl rfl rfl) ?_; refine TS.run 2 rfl ?_; refine TS.eff ?_; refine TSo.aC rfl (Wt.none rfl) rfl rfl (Ew.buildSlice rfl rfl rfl (by decide)) ?_; rintro _ _ ⟨g74, rfl, rfl⟩; refine ⟨(fun w hw => hw.sub Sx), ?_⟩; refine TS.aA (fun w hw => hw.freezeR (i := 2) (j := 0) (by decide) rfl rfl) ?_; rintro F13 ⟨le12_13, hz13⟩; dsimp only [List.set, List.eraseIdx]; have le8_13 := le8_12.trans le12_13; have le9_13 := le9_12.trans le12_13; have le10_13 := le10_12.trans le12_13; have hfF13 : SlC F13.toFrz (.slice (some ⟨g74, 0, none⟩) 3 3) 1 ([5, 7, 10].map eI) := (SlK.lit hz13 rfl (Nat.le_refl _) (by decide)).toF (xs := [5, 7, 10]) rfl (fun _ => rfl); refine TS.y rfl (Yv.ao (i := i_9) rfl rfl rfl hfF13 (List.length_map _) rfl (by omega)) ?_; refine TS.eff ?_; refine TSo.aB rfl (Wt.none rfl) rfl rfl (Yv.al 1 (i := i_9) (j := 0) rfl rfl rfl hfF13 (by omega) rfl rfl) (fun w hw => (hw.frLe (i := 1) rfl le12_13).sub Sx) ?_; refine TS.eff ?_; refine TSo.aC rfl (Wt.none rfl) rfl rfl (Ew.buildSlice rfl rfl rfl (by decide)) ?_; rintro _ _ ⟨g78, rfl, rfl⟩; refine ⟨(fun w hw => (hw.frLe (i := 2) rfl le12_13).sub Sx), ?_⟩; refine TS.aA (fun w hw => hw.freezeR (i := 2) (j := 0) (by decide) rfl rfl) ?_; rintro F14 ⟨le13_14, hz14⟩; dsimp only [List.set, List.eraseIdx]; have le8_14 := le8_13.trans le13_14; have le9_14 := le9_13.trans le13_14; have le10_14 := le10_13.trans le13_14; have le12_14 := le12_13.trans le13_14; have hfF14 : SlC F14.toFrz (.slice (some ⟨g78, 0, none⟩) 1 1) 1 ([(nth [5, 7, 10] i_9)].map eI) := (SlK.lit hz14 rfl (Nat.le_refl _) (by decide)).toF (xs := [(nth [5, 7, 10] i_9)]) rfl (fun _ => rfl); refine TS.eff ?_; refine TSo.aC rfl (Wt.none rfl) rfl rfl (Ew.an 1 rfl rfl rfl rfl (fun w hw hF => zcQ _ w hF (GBidderPlan.mk 2 1000 [[9, 7, 2]]) (.slice (some ⟨g62, 0, none⟩) 1 1) [[(.slice (some ⟨g61, 0, none⟩) 3 3)]] (SlD.mono (rep := R_List_Int.rep) (fun _ _ _ _ => R_List_Int.mono) hfF9 le9_14) [(GProduct.mk 1 1 3 1 0)] (.slice (some ⟨g60, 0, none⟩) 1 1) (SlC.mono hfF8 le8_14) [(nth [5, 7, 10] i_9)] (.slice (some ⟨g78, 0, none⟩) 1 1) hfF14 fuel r79 hr79)) ?_; rintro _ _ ⟨v79_0_0, F15, le14_15, hf79_0_0, rfl, rfl⟩; have le10_15 := le10_14.trans le14_15; have le12_15 := le12_14.trans le14_15; haveI := hf79_0_0.oneC; refine ⟨(fun w hw => (hw.frLe (i := 1) rfl le12_15).sub Sx), ?_⟩; refine TS.run 5 rfl ?_; refine TS.done ?_; refine K.seq (T.seq ?_); refine T.ag (ι := FzB w (fun _ => False) S0) (fun z => [(7, (.slice (some ⟨g60, 0, none⟩) 1 1)), (8, .pointer (some ⟨g8, 0, none⟩)), (64, (.slice (some ⟨g64, 0, none⟩) 3 3)), (65, .int .i64 3), (66, .int .i64 (i_9 : Int)), (90, .bool ((decide (¬ r79.2 = 0)) || (!(zaL r79.1 [(nth [2, 2, 0] i_9)]))))]) (fun z => [.row g8 24 [.int .i64 2, .int .i64 1000, (.slice (some ⟨g62, 0, none⟩) 1 1)], .fr z]) (fun z => F15.toFrz.Le z.toFrz) ?_ ?_
            · refine T.region ?_; refine TL.run 3 rfl ?_; refine TL.gs rfl rfl rfl (fun h11 => ?_) (fun h11 => ?_)
              · have p11 := of_decide_eq_true h11; refine TL.run 6 rfl ?_; refine TL.nil ?_; exact K.af F15 (Frz.Le.refl _) (.c (.c (.c (.c (.c (.b (zam h11).symm .nil)))))) (List.Sublist.refl _)
              · have p11 := of_decide_eq_false h11; refine TL.run 2 rfl ?_; refine TL.e (Ew.buildSlice rfl rfl rfl (by decide)) ?_; rintro _ _ ⟨g87, rfl, rfl⟩; refine TL.aA (fun w hw => hw.freezeR (i := 2) (j := 0) (by decide) rfl rfl) ?_; rintro F17 ⟨le15_17, hz17⟩; dsimp only [List.set, List.eraseIdx]; have hfF17 : SlC F17.toFrz (.slice (some ⟨g87, 0, none⟩) 1 1) 1 ([(nth [2, 2, 0] i_9)].map eI) := (SlK.lit hz17 rfl (Nat.le_refl _) (by decide)).toF (xs := [(nth [2, 2, 0] i_9)]) rfl (fun _ => rfl); refine TL.e (Ew.ah rfl rfl rfl (fun w hw => zb8 _ w (hw.fr (i := 1) rfl) r79.1 v79_0_0 (SlC.mono hf79_0_0 le15_17) [(nth [2, 2, 0] i_9)] (.slice (some ⟨g87, 0, none⟩) 1 1) hfF17)) ?_; rintro _ _ ⟨rfl, rfl⟩; refine TL.run 2 rfl ?_; refine TL.nil ?_; exact K.af F17 le15_17 (.c (.c (.c (.c (.c (.b (or_f h11) .nil)))))) (List.Sublist.refl _)
            · rintro F16 le15_16; (try dsimp only at *); have le10_16 := le10_15.trans le15_16; refine T.cond rfl (fun h12 => ?_) (fun h12 => ?_)
              · replace hk := zaa hk h12; refine T.sr ?_; refine TL.run 1 rfl ?_; refine TL.ns (T.ret (K.aj (K.a (K.a (K.aj (K.a ?_)))))); obtain rfl := Option.some.inj hk; exact K.ak rfl rfl (fun w' hw => ⟨rfl, hw.isBelow⟩)
              · have p12 := h12; (try simp only [nfB] at p12); replace hk := zab hk h12; refine T.skip (K.ac (K.seq (T.region ?_))); refine TL.y (Yv.av rfl rfl rfl (by omega)) ?_; refine TL.run 1 rfl ?_; refine TL.nil ?_; rw [← hn8] at hk; exact K.next ((i_9 + 1), F16) ⟨hk, le10_16⟩ (by dsimp only; omega) (.c (.c (.c (.c (.c .nil))))) (List.Sublist.refl _)
          · have p10 := of_decide_eq_false h10; rw [zaE (by omega), ← hkk8] at hk; (try dsimp only at hk); refine T.exit (K.aa (K.aa (K.ae ?_))); exact K.af F12 ⟨hk, le10_12⟩ (.c (.c .nil)) (List.Sublist.refl _)
      · rintro F11 ⟨hk, le10_11⟩; rw [← hk7] at hk; (try dsimp only at hk); have le8_11 := le8_10.trans le10_11; have le9_11 := le9_10.trans le10_11; refine T.seq ?_; have hq := zac hk; clear hk; obtain ⟨r98, hr98, hk⟩ := hq; (try dsimp only at hk); refine T.region ?_; refine TL.y (Yv.ai 0 rfl rfl rfl rfl) ?_; refine TL.run 1 rfl ?_; refine TL.e (Ew.buildSlice rfl rfl rfl (by decide)) ?_; rintro _ _ ⟨g95, rfl, rfl⟩; refine TL.aA (fun w hw => hw.freezeR (i := 2) (j := 0) (by decide) rfl rfl) ?_; rintro F18 ⟨le11_18, hz18⟩; dsimp only [List.set, List.eraseIdx]; have le8_18 := le8_11.trans le11_18; have le9_18 := le9_11.trans le11_18; have hfF18 : SlC F18.toFrz (.slice (some ⟨g95, 0, none⟩) 1 1) 1 ([2].map eI) := (SlK.lit hz18 rfl (Nat.le_refl _) (by decide)).toF (xs := [2]) rfl (fun _ => rfl); refine TL.e (Ew.buildSlice rfl rfl rfl (by decide)) ?_; rintro _ _ ⟨g96, rfl, rfl⟩; refine TL.aA (fun w hw => hw.freezeR (i := 2) (j := 0) (by decide) rfl rfl) ?_; rintro F19 ⟨le18_19, hz19⟩; dsimp only [List.set, List.eraseIdx]; have le8_19 := le8_18.trans le18_19; have le9_19 := le9_18.trans le18_19; have hfF19 : SlC F19.toFrz (.slice (some ⟨g96, 0, none⟩) 1 1) 1 ([5].map eI) := (SlK.lit hz19 rfl (Nat.le_refl _) (by decide)).toF (xs := [5]) rfl (fun _ => rfl); refine TL.e (Ew.buildSlice rfl rfl rfl (by decide)) ?_; rintro _ _ ⟨g97, rfl, rfl⟩; refine TL.aA (fun w hw => hw.freezeR (i := 2) (j := 0) (by decide) rfl rfl) ?_; rintro F20 ⟨le19_20, hz20⟩; dsimp only [List.set, List.eraseIdx]; have le8_20 := le8_19.trans le19_20; have le9_20 := le9_19.trans le19_20; have le18_20 := le18_19.trans le19_20; have hfF20 : SlC F20.toFrz (.slice (some ⟨g97, 0, none⟩) 1 1) 1 ([10].map eI) := (SlK.lit hz20 rfl (Nat.le_refl _) (by decide)).toF (xs := [10]) rfl (fun _ => rfl); refine TL.e (Ew.an 1 rfl rfl rfl rfl (fun w hw hF => zer _ w hF (GBidderPlan.mk 2 1000 [[9, 7, 2]]) (.slice (some ⟨g62, 0, none⟩) 1 1) [[(.slice (some ⟨g61, 0, none⟩) 3 3)]] (SlD.mono (rep := R_List_Int.rep) (fun _ _ _ _ => R_List_Int.mono) hfF9 le9_20) [(GProduct.mk 1 1 3 1 0)] (.slice (some ⟨g60, 0, none⟩) 1 1) (SlC.mono hfF8 le8_20) [2] (.slice (some ⟨g95, 0, none⟩) 1 1) (SlC.mono hfF18 le18_20) [5] (.slice (some ⟨g96, 0, none⟩) 1 1) (SlC.mono hfF19 le19_20) [10] (.slice (some ⟨g97, 0, none⟩) 1 1) hfF20 fuel r98 hr98)) ?_; rintro _ _ ⟨⟨v98_0_0, cs98_0_0⟩, F21, le20_21, hf98_0_0, rfl, rfl⟩; dsimp only at hf98_0_0 ⊢; have le8_21 := le8_20.trans le20_21; have le9_21 := le9_20.trans le20_21; haveI := hf98_0_0.1.oneC; refine TL.run 5 rfl ?_; refine TL.ns (T.seq (T.seq ?_)); (try dsimp only at hk); have hq := zae hk; clear hk; obtain ⟨k14, hk14, hk⟩ := hq; (try dsimp only at hk); refine T.ag (ι := Bool × FzB w (fun _ => False) S0) (fun z => [(7, (.slice (some ⟨g60, 0, none⟩) 1 1)), (8, .pointer (some ⟨g8, 0, none⟩)), (110, .bool z.1)]) (fun z => [.row g8 24 [.int .i64 2, .int .i64 1000, (.slice (some ⟨g62, 0, none⟩) 1 1)], .fr z.2]) (fun z => k14 z.1 = some r ∧ F21.toFrz.Le z.2.toFrz) ?_ ?_
        · refine T.region ?_; refine TL.run 3 rfl ?_; refine TL.gs rfl rfl rfl (fun h15 => ?_) (fun h15 => ?_)
          · have p15 := of_decide_eq_true h15; replace hk := zaa hk h15; refine TL.run 7 rfl ?_; refine TL.nil ?_; exact K.af (true, F21) ⟨hk, (Frz.Le.refl _)⟩ (.c (.c (.c .nil))) (List.Sublist.refl _)
          · have p15 := of_decide_eq_false h15; replace hk := zab hk h15; refine TL.run 1 rfl ?_; refine TL.y (Yv.build rfl rfl) ?_; refine TL.y (Yv.build rfl rfl) ?_; refine TL.e (Ew.buildSlice rfl rfl rfl (by decide)) ?_; rintro _ _ ⟨g107, rfl, rfl⟩; refine TL.aA (fun w hw => hw.freezeR (i := 2) (j := 0) (by decide) rfl rfl) ?_; rintro F23 ⟨le21_23, hz23⟩; dsimp only [List.set, List.eraseIdx]; have hfF23 : SlC F23.toFrz (.slice (some ⟨g107, 0, none⟩) 2 2) 3 ([(GRow.mk 0 (-1) 400), (GRow.mk 0 (-1) 800)].map GRow.enc) := (SlK.lit hz23 rfl (Nat.le_refl _) (by decide)).toF (xs := [(GRow.mk 0 (-1) 400), (GRow.mk 0 (-1) 800)]) rfl GRow.len; have hq := zac hk; clear hk; obtain ⟨r108, hr108, hk⟩ := hq; refine TL.e (Ew.ah rfl rfl rfl (fun w hw => zez _ w (hw.fr (i := 1) rfl) r98.1 v98_0_0 cs98_0_0 (SlD.mono (rep := GBid.rep) (fun _ _ _ _ => GBid.mono) hf98_0_0 le21_23) 2 [(GRow.mk 0 (-1) 400), (GRow.mk 0 (-1) 800)] (.slice (some ⟨g107, 0, none⟩) 2 2) hfF23 fuel r108 hr108)) ?_; rintro _ _ ⟨rfl, rfl⟩; refine TL.run 2 rfl ?_; refine TL.nil ?_; exact K.af (!r108, F23) ⟨hk, le21_23⟩ (.c (.c (.c .nil))) (List.Sublist.refl _)
        · rintro ⟨x_13, F22⟩ ⟨hk, le21_22⟩; (try dsimp only at *); rw [← hk14] at hk; (try dsimp only at hk); have le8_22 := le8_21.trans le21_22; have le9_22 := le9_21.trans le21_22; refine T.cond rfl (fun h16 => ?_) (fun h16 => ?_)
          · replace hk := zaa hk h16; refine T.sr ?_; refine TL.run 1 rfl ?_; refine TL.ns (T.ret (K.a ?_)); obtain rfl := Option.some.inj hk; exact K.ak rfl rfl (fun w' hw => ⟨rfl, hw.isBelow⟩)
          · replace hk := zab hk h16; refine T.skip (K.seq (T.sr ?_)); refine TL.y (Yv.fieldAddr rfl rfl) ?_; refine TL.e0 (Ew.aN 0 rfl rfl rfl rfl (by simp)) ?_; rintro _ _ ⟨rfl, rfl⟩; refine TL.ns (T.seq ?_); have hq := zac hk; clear hk; obtain ⟨r116, hr116, hk⟩ := hq; (try dsimp only at hk); refine T.region ?_; refine TL.y (Yv.ai 0 rfl rfl rfl rfl) ?_; refine TL.run 1 rfl ?_; refine TL.e (Ew.buildSlice rfl rfl rfl (by decide)) ?_; rintro _ _ ⟨g115, rfl, rfl⟩; refine TL.aA (fun w hw => hw.freezeR (i := 2) (j := 0) (by decide) rfl rfl) ?_; rintro F24 ⟨le22_24, hz24⟩; dsimp only [List.set, List.eraseIdx]; have le8_24 := le8_22.trans le22_24; have le9_24 := le9_22.trans le22_24; have hfF24 : SlC F24.toFrz (.slice (some ⟨g115, 0, none⟩) 1 1) 1 ([5].map eI) := (SlK.lit hz24 rfl (Nat.le_refl _) (by decide)).toF (xs := [5]) rfl (fun _ => rfl); refine TL.e (Ew.an 1 rfl rfl rfl rfl (fun w hw hF => zcQ _ w hF (GBidderPlan.mk 2 9 [[9, 7, 2]]) (.slice (some ⟨g62, 0, none⟩) 1 1) [[(.slice (some ⟨g61, 0, none⟩) 3 3)]] (SlD.mono (rep := R_List_Int.rep) (fun _ _ _ _ => R_List_Int.mono) hfF9 le9_24) [(GProduct.mk 1 1 3 1 0)] (.slice (some ⟨g60, 0, none⟩) 1 1) (SlC.mono hfF8 le8_24) [5] (.slice (some ⟨g115, 0, none⟩) 1 1) hfF24 fuel r116 hr116)) ?_; rintro _ _ ⟨v116_0_0, F25, le24_25, hf116_0_0, rfl, rfl⟩; haveI := hf116_0_0.oneC; refine TL.run 5 rfl ?_; refine TL.ns (T.seq ?_); refine T.ag (ι := FzB w (fun _ => False) S0) (fun z => [(0, .bool ((decide (r116.2 = 0)) && (zaL r116.1 [1])))]) (fun z => [.row g8 24 [.int .i64 2, .int .i64 9, (.slice (some ⟨g62, 0, none⟩) 1 1)], .fr z]) (fun z => F25.toFrz.Le z.toFrz) ?_ ?_
            · refine T.region ?_; refine TL.run 3 rfl ?_; refine TL.gs rfl rfl rfl (fun h17 => ?_) (fun h17 => ?_)
              · have p17 := of_decide_eq_true h17; refine TL.run 1 rfl ?_; refine TL.e (Ew.buildSlice rfl rfl rfl (by decide)) ?_; rintro _ _ ⟨g123, rfl, rfl⟩; refine TL.aA (fun w hw => hw.freezeR (i := 2) (j := 0) (by decide) rfl rfl) ?_; rintro F27 ⟨le25_27, hz27⟩; dsimp only [List.set, List.eraseIdx]; have hfF27 : SlC F27.toFrz (.slice (some ⟨g123, 0, none⟩) 1 1) 1 ([1].map eI) := (SlK.lit hz27 rfl (Nat.le_refl _) (by decide)).toF (xs := [1]) rfl (fun _ => rfl); refine TL.e (Ew.ah rfl rfl rfl (fun w hw => zb8 _ w (hw.fr (i := 1) rfl) r116.1 v116_0_0 (SlC.mono hf116_0_0 le25_27) [1] (.slice (some ⟨g123, 0, none⟩) 1 1) hfF27)) ?_; rintro _ _ ⟨rfl, rfl⟩; refine TL.run 2 rfl ?_; refine TL.nil ?_; exact K.af F27 le25_27 (.b (zcu h17) .nil) (List.Sublist.refl _)
              · have p17 := of_decide_eq_false h17; refine TL.run 5 rfl ?_; refine TL.nil ?_; exact K.af F25 (Frz.Le.refl _) (.b (zaQ h17).symm .nil) (List.Sublist.refl _)
            · rintro F26 le25_26; (try dsimp only at *); refine T.ret ?_; obtain rfl := Option.some.inj hk; exact K.ak rfl rfl (fun w' hw => ⟨rfl, hw.isBelow⟩)
def zbn (fuel : Nat) (seed : Int) (number : Int) (home : Int) (l : List GProduct) (scale : Int) : Option Bool :=
  (bif decide (8 < (l.length : Int)) then
    (zbA fuel).bind fun r22 =>
    some r22
    else
    (zaP fuel seed number home scale).bind fun r28 =>
    (zaU fuel seed number home scale).bind fun r36 =>
    (za6 fuel seed number l scale).bind fun r44 =>
    (zbb fuel seed number l scale).bind fun r52 =>
    zaB (fun (x_2 : Bool) =>
      some x_2)
    (fun k3 =>
      (bif (zaR r28.1 r36.1) then
        (bif decide (r28.2 = r36.2) then
          (bif (za2 r44.1 r52.1) then
            (bif decide (r44.2 = r52.2) then
              (zbA fuel).bind fun r74 =>
              k3 r74
              else
              k3 false)
            else
            k3 false)
          else
          k3 false)
        else
        k3 false)))
theorem zdb (F0 : Frz) (w : World) (hF0 : F0.At w) (seed : Int) (number : Int) (home : Int) (l : List GProduct) (vl : Value) (hl : SlC F0 vl 5 (l.map GProduct.enc)) (scale : Int) (fuel : Nat) (r : Bool) (hr : zbn fuel seed number home l scale = some r) : Calls Tryz.prog 4 #[.int .i64 seed, .int .i64 number, .int .i64 home, vl, .int .i64 scale] w fun e w' => e = .returned (.bool r) ∧ Below w.heap.size w w' := by
  have hk := hr; unfold zbn at hk; haveI := hl.oneC; obtain ⟨S0, F1, rfl, hS0, hp0⟩ := zaf hF0; refine zai Tryz.func4 rfl rfl rfl hp0 ?_; refine T.sr ?_; refine TL.run 1 rfl ?_; refine TL.ns (T.seq (T.sr ?_)); refine TL.run 1 rfl ?_; refine TL.y (Yv.am rfl rfl hl (List.length_map _)) ?_; have hm20 : l.length ≤ 9223372036854775807 := (List.length_map _) ▸ hl.max; refine TL.run 1 rfl ?_; refine TL.ns ?_; refine T.cond rfl (fun h1 => ?_) (fun h1 => ?_)
  · have p1 := of_decide_eq_true h1; replace hk := zaa hk h1; refine T.seq ?_; have hq := zac hk; clear hk; obtain ⟨r22, hr22, hk⟩ := hq; (try dsimp only at hk); refine T.region ?_; refine TL.e (Ew.ah rfl rfl rfl (fun w hw => zdk _ w (hw.fr (i := 0) rfl)  fuel r22 hr22)) ?_; rintro _ _ ⟨rfl, rfl⟩; refine TL.run 1 rfl ?_; refine TL.ns (T.ret (K.a ?_)); obtain rfl := Option.some.inj hk; exact K.ak rfl rfl (fun w' hw => ⟨rfl, hw.isBelow⟩)
  · have p1 := of_decide_eq_false h1; replace hk := zab hk h1; refine T.skip (K.seq (T.seq ?_)); have hq := zac hk; clear hk; obtain ⟨r28, hr28, hk⟩ := hq; (try dsimp only at hk); refine T.region ?_; refine TL.run 4 rfl ?_; refine TL.e (Ew.an 0 rfl rfl rfl rfl (fun w hw hF => zc0 _ w hF seed number home scale fuel r28 hr28)) ?_; rintro _ _ ⟨v28_0_2, F2, le1_2, hf28_0_2, rfl, rfl⟩; haveI := hf28_0_2.oneC; refine TL.run 3 rfl ?_; refine TL.e (Ew.alloc rfl) ?_; rintro _ _ ⟨g11, rfl, rfl⟩; refine TL.e0 (Ew.ab 0 rfl rfl rfl rfl rfl rfl) ?_; rintro _ _ ⟨rfl, rfl⟩; refine TL.run 1 rfl ?_; refine TL.ns (T.seq ?_); have hq := zac hk; clear hk; obtain ⟨r36, hr36, hk⟩ := hq; (try dsimp only at hk); refine T.region ?_; refine TL.run 4 rfl ?_; refine TL.e (Ew.an 1 rfl rfl rfl rfl (fun w hw hF => zda _ w hF seed number home scale fuel r36 hr36)) ?_; rintro _ _ ⟨v36_0_2, F3, le2_3, hf36_0_2, rfl, rfl⟩; have le1_3 := le1_2.trans le2_3; haveI := hf36_0_2.oneC; refine TL.run 3 rfl ?_; refine TL.e (Ew.alloc rfl) ?_; rintro _ _ ⟨g13, rfl, rfl⟩; refine TL.e0 (Ew.ab 0 rfl rfl rfl rfl rfl rfl) ?_; rintro _ _ ⟨rfl, rfl⟩; refine TL.run 1 rfl ?_; refine TL.ns (T.seq ?_); have hq := zac hk; clear hk; obtain ⟨r44, hr44, hk⟩ := hq; (try dsimp only at hk); refine T.region ?_; refine TL.run 4 rfl ?_; refine TL.e (Ew.an 2 rfl rfl rfl rfl (fun w hw hF => zc5 _ w hF seed number l vl (SlC.mono hl le1_3) scale fuel r44 hr44)) ?_; rintro _ _ ⟨⟨v44_0_2, cs44_0_2⟩, F4, le3_4, hf44_0_2, rfl, rfl⟩; dsimp only at hf44_0_2 ⊢; have le1_4 := le1_3.trans le3_4; have le2_4 := le2_3.trans le3_4; haveI := hf44_0_2.1.oneC; refine TL.run 3 rfl ?_; refine TL.e (Ew.alloc rfl) ?_; rintro _ _ ⟨g15, rfl, rfl⟩; refine TL.e0 (Ew.ab 0 rfl rfl rfl rfl rfl rfl) ?_; rintro _ _ ⟨rfl, rfl⟩; refine TL.run 1 rfl ?_; refine TL.ns (T.seq ?_); have hq := zac hk; clear hk; obtain ⟨r52, hr52, hk⟩ := hq; (try dsimp only at hk); refine T.region ?_; refine TL.run 4 rfl ?_; refine TL.e (Ew.an 3 rfl rfl rfl rfl (fun w hw hF => zdh _ w hF seed number l vl (SlC.mono hl le1_4) scale fuel r52 hr52)) ?_; rintro _ _ ⟨⟨v52_0_2, cs52_0_2⟩, F5, le4_5, hf52_0_2, rfl, rfl⟩; dsimp only at hf52_0_2 ⊢; have le2_5 := le2_4.trans le4_5; have le3_5 := le3_4.trans le4_5; haveI := hf52_0_2.1.oneC; refine TL.run 3 rfl ?_; refine TL.e (Ew.alloc rfl) ?_; rintro _ _ ⟨g17, rfl, rfl⟩; refine TL.e0 (Ew.ab 0 rfl rfl rfl rfl rfl rfl) ?_; rintro _ _ ⟨rfl, rfl⟩; refine TL.run 1 rfl ?_; refine TL.ns (T.seq ?_); (try dsimp only at hk); have hq := zae hk; clear hk; obtain ⟨k3, hk3, hk⟩ := hq; (try dsimp only at hk); refine T.ag (ι := Bool) (fun z => [(10, .bool z)]) (fun z => [.fr F5]) (fun z => k3 z = some r) ?_ ?_
    · refine T.region ?_; refine TL.y (Yv.ai 3 rfl rfl rfl rfl) ?_; refine TL.y (Yv.ai 2 rfl rfl rfl rfl) ?_; refine TL.e (Ew.ah rfl rfl rfl (fun w hw => zc8 _ w (hw.fr (i := 4) rfl) r28.1 v28_0_2 (SlC.mono hf28_0_2 le2_5) r36.1 v36_0_2 (SlC.mono hf36_0_2 le3_5))) ?_; rintro _ _ ⟨rfl, rfl⟩; refine TL.run 1 rfl ?_; refine TL.gs rfl rfl rfl (fun h4 => ?_) (fun h4 => ?_)
      · replace hk := zaa hk h4; refine TL.run 5 rfl ?_; refine TL.gs rfl rfl rfl (fun h5 => ?_) (fun h5 => ?_)
        · have p5 := of_decide_eq_true h5; replace hk := zaa hk h5; refine TL.y (Yv.ai 1 rfl rfl rfl rfl) ?_; refine TL.y (Yv.ai 0 rfl rfl rfl rfl) ?_; refine TL.e (Ew.ah rfl rfl rfl (fun w hw => zdj _ w (hw.fr (i := 4) rfl) r44.1 v44_0_2 cs44_0_2 (SlD.mono (rep := R_List_Int.rep) (fun _ _ _ _ => R_List_Int.mono) hf44_0_2 le4_5) r52.1 v52_0_2 cs52_0_2 hf52_0_2)) ?_; rintro _ _ ⟨rfl, rfl⟩; refine TL.run 2 rfl ?_; refine TL.gs rfl rfl rfl (fun h6 => ?_) (fun h6 => ?_)
          · replace hk := zaa hk h6; refine TL.run 5 rfl ?_; refine TL.gs rfl rfl rfl (fun h7 => ?_) (fun h7 => ?_)
            · have p7 := of_decide_eq_true h7; replace hk := zaa hk h7; have hq := zac hk; clear hk; obtain ⟨r74, hr74, hk⟩ := hq; refine TL.e (Ew.ah rfl rfl rfl (fun w hw => zdk _ w (hw.fr (i := 4) rfl)  fuel r74 hr74)) ?_; rintro _ _ ⟨rfl, rfl⟩; refine TL.run 2 rfl ?_; refine TL.nil ?_; refine K.pick [4] rfl (by decide) ?_; exact K.af r74 hk (.c .nil) (List.Sublist.refl _)
            · have p7 := of_decide_eq_false h7; replace hk := zab hk h7; refine TL.run 3 rfl ?_; refine TL.nil ?_; refine K.pick [4] rfl (by decide) ?_; exact K.af false hk (.c .nil) (List.Sublist.refl _)
          · replace hk := zab hk h6; refine TL.run 8 rfl ?_; refine TL.nil ?_; refine K.pick [4] rfl (by decide) ?_; exact K.af false hk (.c .nil) (List.Sublist.refl _)
        · have p5 := of_decide_eq_false h5; replace hk := zab hk h5; refine TL.run 13 rfl ?_; refine TL.nil ?_; refine K.pick [4] rfl (by decide) ?_; exact K.af false hk (.c .nil) (List.Sublist.refl _)
      · replace hk := zab hk h4; refine TL.run 18 rfl ?_; refine TL.nil ?_; refine K.pick [4] rfl (by decide) ?_; exact K.af false hk (.c .nil) (List.Sublist.refl _)
    · rintro x_2 hk; rw [← hk3] at hk; (try dsimp only at hk); refine T.ret ?_; obtain rfl := Option.some.inj hk; exact K.ak rfl rfl (fun w' hw => ⟨rfl, hw.isBelow⟩)
section
variable {σ ρ α : Type}
theorem zeL {f : Nat → (Unit → Bool) → Unit → Bool} {k : Unit → Bool} {n : Nat} (q : Nat → Bool) (hf : ∀ i next, i < n → f i next () = (q i && next ())) : zao f k n 0 () = ((List.range n).all q && k ()) := by
  have key : ∀ m i, i + m = n → zao f k m i () = ((List.range' i m).all q && k ()) := by
    intro m
    induction m with
    | zero => intro i _; simp [zao]
    | succ m ih =>
      intro i e
      show f i (zao f k m (i + 1)) () = _
      rw [hf i _ (by omega), ih (i + 1) (by omega), List.range'_succ, List.all_cons, Bool.and_assoc]
  rw [key n 0 (by omega), List.range_eq_range']
theorem zdA {x : Int} (h : -9223372036854775808 ≤ x ∧ x ≤ 9223372036854775807) : wI x = x := IntWalk.i64_in _ h
end
theorem zdS {σ τ ρ ρ' : Type} {f : Nat → (σ → ρ) → σ → ρ} {k : σ → ρ} {g : Nat → (τ → ρ') → τ → ρ'} {k' : τ → ρ'} {n : Nat} (R : Nat → σ → τ → Prop) (post : ρ → ρ' → Prop) (hk : ∀ s t, R n s t → post (k s) (k' t)) (hf : ∀ i s t next next', i < n → R i s t → (∀ s t, R (i + 1) s t → post (next s) (next' t)) → post (f i next s) (g i next' t)) : ∀ m i s t, i + m = n → R i s t → post (zao f k m i s) (zao g k' m i t)
  | 0, i, s, t, h, hR => hk s t (by rw [← h]; exact hR)
  | m + 1, i, s, t, h, hR => hf i s t _ _ (by omega) hR fun s t hR => zdS R post hk hf m (i + 1) s t (by omega) hR
theorem zdx {σ τ ρ ρ' : Type} {f : Nat → (σ → ρ) → σ → ρ} {k : σ → ρ} {g : Nat → (τ → ρ') → τ → ρ'} {k' : τ → ρ'} {n : Nat} {s : σ} {t : τ} (R : Nat → σ → τ → Prop) (post : ρ → ρ' → Prop) (h0 : R 0 s t) (hk : ∀ s t, R n s t → post (k s) (k' t)) (hf : ∀ i s t next next', i < n → R i s t → (∀ s t, R (i + 1) s t → post (next s) (next' t)) → post (f i next s) (g i next' t)) : post (zao f k (n - 0) 0 s) (zao g k' (n - 0) 0 t) := zdS R post hk hf _ _ _ _ (by omega) h0
theorem zgd (a b : Int) : zah a b = if a < b then -1 else if b < a then 1 else 0 := by
  unfold zah za3; rw [decide_eq_false (show ¬ ¬ a = a by simp), cond_false, decide_eq_false (show ¬ ¬ b = b by simp), cond_false]; by_cases h : a < b
  · rw [decide_eq_true h, cond_true, if_pos h]
  · rw [decide_eq_false h, cond_false, if_neg h]; by_cases h2 : b < a
    · rw [decide_eq_true h2, cond_true, if_pos h2]
    · rw [decide_eq_false h2, cond_false, if_neg h2]
theorem zgm (a b : Int) : zbz [a, b] = if a = 0 then b else a := by
  show (bif decide (¬ a = 0) then a else bif decide (¬ b = 0) then b else 0) = _
  by_cases h : a = 0
  · rw [decide_eq_false (by simp [h]), cond_false, if_pos h]; by_cases h2 : b = 0
    · rw [decide_eq_false (by simp [h2]), cond_false, h2]
    · rw [decide_eq_true h2, cond_true]
  · rw [decide_eq_true h, cond_true, if_neg h]
theorem zgx (q p : GProduct) : decide (0 ≤ zax q p) = (decide (p.Area < q.Area) || (decide (p.Area = q.Area) && decide (p.Category ≤ q.Category))) := by
  unfold zax; rw [zgm, zgd, zgd]; rw [Bool.eq_iff_iff]; simp only [decide_eq_true_eq, Bool.or_eq_true, Bool.and_eq_true]
  repeat' split
  all_goals omega
def okR (p : GProduct) : Bool := !((((((((((decide (p.Area < 0)) || (decide (63 < p.Area))) || (decide (p.Category < 1))) || (decide (2 < p.Category))) || (decide (p.Supply < 1))) || (decide (12 < p.Supply))) || (decide (p.Units < 1))) || (decide (100000 < p.Units))) || (decide (p.Reserve < 0))) || (decide (549755813888 < p.Reserve)))
theorem zcT {p : GProduct} : okR p = true ↔ (0 ≤ p.Area ∧ p.Area ≤ 63 ∧ 1 ≤ p.Category ∧ p.Category ≤ 2 ∧ 1 ≤ p.Supply ∧ p.Supply ≤ 12 ∧ 1 ≤ p.Units ∧ p.Units ≤ 100000 ∧ 0 ≤ p.Reserve ∧ p.Reserve ≤ 549755813888) := by
  unfold okR; simp only [Bool.not_eq_true', Bool.or_eq_false_iff, decide_eq_false_iff_not]; omega
structure InvP (l : List GProduct) (i : Nat) (v : Vec 64 Int) : Prop where
  zero : ∀ a : Nat, a < 64 → (0 < i → (nth l (i - 1)).Area < (a : Int)) → v.get a = 0
  last : 0 < i → okR (nth l (i - 1)) = true ∧ ((nth l (i - 1)).Category = 1 → v.get (nth l (i - 1)).Area.toNat = (nth l (i - 1)).Supply)
def okN (q p : GProduct) : Bool := !((decide (p.Area < q.Area)) || ((decide (p.Area = q.Area)) && ((decide (p.Category ≤ q.Category)) || (decide (12 < wI (p.Supply + q.Supply))))))
theorem ze0 {l : List GProduct} {i : Nat} {v : Vec 64 Int} (h : InvP l i v) :
    ∃ r, za4 (nth l i) v = some r ∧ ((okR (nth l i) = true ∧ (0 < i → okN (nth l (i - 1)) (nth l i) = true) ∧ r.1 = true ∧ (0 < i → decide (0 ≤ zax (nth l (i - 1)) (nth l i)) = false) ∧ InvP l (i + 1) r.2) ∨ ((okR (nth l i) = false ∨ 0 < i ∧ okN (nth l (i - 1)) (nth l i) = false) ∧ (r.1 = false ∨ 0 < i ∧ decide (0 ≤ zax (nth l (i - 1)) (nth l i)) = true))) := by
  obtain ⟨hz, hl⟩ := h; generalize nth l (i - 1) = q at *; generalize hp : nth l i = p; unfold za4 zat; by_cases h1 : 0 ≤ p.Area ∧ p.Area ≤ 63 ∧ 1 ≤ p.Category ∧ p.Category ≤ 2 ∧ 1 ≤ p.Supply ∧ p.Supply ≤ 12
  · obtain ⟨a1, a2, a3, a4, a5, a6⟩ := h1; rw [decide_eq_true a1, decide_eq_true a2, decide_eq_true a3, decide_eq_true a4, decide_eq_true a5, decide_eq_true a6]; simp only [Bool.and_self, Bool.not_true, Bool.or_self, cond_false]; (have ha : p.Area.toNat < 64 := by omega); rw [zbh (by omega), Vec.get_put ha, if_pos rfl]; refine ⟨_, rfl, ?_⟩; dsimp only; rw [zgx]
    -- the sum of the area
    have hsum : (0 < i → okR q = true ∧ q.Area ≤ p.Area ∧ (q.Area = p.Area → q.Category < p.Category)) → wI (v.get p.Area.toNat + p.Supply) = if 0 < i ∧ q.Area = p.Area then q.Supply + p.Supply else p.Supply := by
      intro hh; by_cases hi : 0 < i ∧ q.Area = p.Area
      · obtain ⟨b1, b2, b3⟩ := hh hi.1; rw [zcT] at b1; have b4 := (hl hi.1).2 (by have := b3 hi.2; omega); rw [if_pos hi, ← hi.2, b4, zdA (by omega)]
      · rw [if_neg hi, hz p.Area.toNat ha (fun hi0 => by have := (hh hi0).2.1; have : q.Area ≠ p.Area := fun e => hi ⟨hi0, e⟩; omega), zdA (by omega)]; omega
    by_cases hgood : okR p = true ∧ (0 < i → okN q p = true)
    · obtain ⟨g1, g2⟩ := hgood
      have hord : 0 < i → okR q = true ∧ q.Area ≤ p.Area ∧ (q.Area = p.Area → q.Category < p.Category ∧ p.Supply + q.Supply ≤ 12) := by
        intro hi; have := g2 hi; have hq := (hl hi).1; unfold okN at this; simp only [Bool.not_eq_true', Bool.or_eq_false_iff, Bool.and_eq_false_iff, decide_eq_false_iff_not] at this; rw [zcT] at hq; rw [zdA (by omega)] at this; refine ⟨(hl hi).1, by omega, fun e => ?_⟩; omega
      have hs := hsum fun hi => ⟨(hord hi).1, (hord hi).2.1, fun e => ((hord hi).2.2 e).1⟩; refine .inl ⟨g1, g2, ?_, fun hi => ?_, ⟨fun a ha2 h0 => ?_, fun _ => ?_⟩⟩
      · rw [hs]; rw [zcT] at g1; simp only [Bool.and_eq_true, decide_eq_true_eq]
        split
        · rename_i hc; have := (hord hc.1).2.2 hc.2; omega
        · omega
      · have := hord hi; simp only [Bool.or_eq_false_iff, Bool.and_eq_false_iff, decide_eq_false_iff_not]; omega
      · have h9 := h0 (by omega); rw [show i + 1 - 1 = i by omega, hp] at h9; rw [Vec.get_put ha, if_neg (by omega)]; (exact hz a ha2 fun hi => by have := (hord hi).2.1; omega)
      · rw [show i + 1 - 1 = i by omega, hp]; refine ⟨g1, fun hc => ?_⟩; rw [Vec.get_put ha, if_pos rfl, hs, if_neg]; rintro ⟨hi, he⟩; have := (hord hi).2.2 he; have hq := (hord hi).1; rw [zcT] at hq; omega
    · right
      have hbad : okR p = false ∨ 0 < i ∧ okN q p = false := by
        cases h3 : okR p with
        | false => exact .inl rfl
        | true =>
          refine .inr ?_; by_cases hi : 0 < i
          · refine ⟨hi, ?_⟩
            cases h4 : okN q p with
            | false => rfl
            | true => exact absurd ⟨h3, fun _ => h4⟩ hgood
          · exact absurd ⟨h3, fun h => absurd h hi⟩ hgood
      refine ⟨hbad, ?_⟩; by_cases hcmp : 0 < i ∧ ((decide (p.Area < q.Area)) || ((decide (p.Area = q.Area)) && (decide (p.Category ≤ q.Category)))) = true
      · exact .inr hcmp
      · left
        have hord : 0 < i → okR q = true ∧ q.Area ≤ p.Area ∧ (q.Area = p.Area → q.Category < p.Category) := by
          intro hi; have h5 : ¬ ((decide (p.Area < q.Area)) || ((decide (p.Area = q.Area)) && (decide (p.Category ≤ q.Category)))) = true := fun h => hcmp ⟨hi, h⟩; simp only [Bool.or_eq_true, Bool.and_eq_true, decide_eq_true_eq] at h5; exact ⟨(hl hi).1, by omega, fun e => by omega⟩
        rw [hsum hord]; rcases hbad with hb | ⟨hi, hb⟩
        · rw [← Bool.not_eq_true, zcT] at hb; rw [← Bool.not_eq_true]; simp only [Bool.and_eq_true, decide_eq_true_eq]; omega
        · have h6 := hord hi; have hq := h6.1; rw [zcT] at hq; unfold okN at hb; rw [zdA (by omega)] at hb; simp only [Bool.not_eq_false', Bool.or_eq_true, Bool.and_eq_true, decide_eq_true_eq] at hb; rw [← Bool.not_eq_true]; simp only [Bool.and_eq_true, decide_eq_true_eq]; (have he : q.Area = p.Area := by omega); rw [if_pos ⟨hi, he⟩]; have := h6.2.2 he; omega
  · refine ⟨(false, v), ?_, .inr ⟨.inl ?_, .inl rfl⟩⟩
    · rw [show ((((!(decide (0 ≤ p.Area) && decide (p.Area ≤ 63))) || (!(decide (1 ≤ p.Category) && decide (p.Category ≤ 2)))) || (!(decide (1 ≤ p.Supply) && decide (p.Supply ≤ 12))))) = true from ?_, cond_true]; rw [← Bool.not_eq_false]; simp only [Bool.or_eq_false_iff, Bool.not_eq_false', Bool.and_eq_true, decide_eq_true_eq]; omega
    · rw [← Bool.not_eq_true, zcT]; omega
theorem pvalid (l : List GProduct) : za7 l = some (zaC l) := by
  unfold za7 zaq zaC; simp only [zaB]
  have h := zdx (n := l.length) (s := Vec.fill 64 (0 : Int)) (t := ())
    (f := fun (i_5 : Nat) (next4 : Vec 64 Int → Option (Bool × Vec 64 Int)) (c_3 : Vec 64 Int) =>
      (za4 (nth l i_5) c_3).bind fun r18 =>
      (bif ((!r18.1) || ((decide (0 < (i_5 : Int))) && (decide (0 ≤ (zax (nth l (((i_5 : Int) - 1).toNat)) (nth l i_5)))))) then
        some (false, r18.2)
        else
        next4 r18.2)) (k := fun c_3 => some (true, c_3))
    (g := fun (i_3 : Nat) (next2 : Unit → Bool) (_ : Unit) =>
      (bif ((((((((((decide ((nth l i_3).Area < 0)) || (decide (63 < (nth l i_3).Area))) || (decide ((nth l i_3).Category < 1))) || (decide (2 < (nth l i_3).Category))) || (decide ((nth l i_3).Supply < 1))) || (decide (12 < (nth l i_3).Supply))) || (decide ((nth l i_3).Units < 1))) || (decide (100000 < (nth l i_3).Units))) || (decide ((nth l i_3).Reserve < 0))) || (decide (549755813888 < (nth l i_3).Reserve))) then
        false
        else
        (bif decide (0 < (i_3 : Int)) then
          (bif ((decide ((nth l i_3).Area < (nth l (((i_3 : Int) - 1).toNat)).Area)) || ((decide ((nth l i_3).Area = (nth l (((i_3 : Int) - 1).toNat)).Area)) && ((decide ((nth l i_3).Category ≤ (nth l (((i_3 : Int) - 1).toNat)).Category)) || (decide (12 < wI (((nth l i_3).Supply) + ((nth l (((i_3 : Int) - 1).toNat)).Supply))))))) then
            false
            else
            next2 ())
          else
          next2 ()))) (k' := fun _ => true)
    (fun i v _ => InvP l i v) (fun x y => x.map (·.1) = some y)
    ⟨fun a ha _ => Vec.get_fill ha, fun h => absurd h (by omega)⟩ (fun _ _ _ => rfl) (fun i v t next next' hi hR hn => by
      obtain ⟨r, hr, hc⟩ := ze0 hR; (try dsimp only); rw [hr, Option.bind_some, show ((i : Int) - 1).toNat = i - 1 by omega]; (have e1 : decide (0 < (i : Int)) = decide (0 < i) := by rw [Bool.eq_iff_iff]; simp); rw [e1]; rcases hc with ⟨h1, h2, h3, h4, h5⟩ | ⟨h1, h2⟩
      · unfold okR at h1; rw [Bool.not_eq_true'] at h1; rw [h1, cond_false, h3, Bool.not_true, Bool.false_or]; by_cases hi0 : 0 < i
        · have h6 := h2 hi0; unfold okN at h6; rw [Bool.not_eq_true'] at h6; rw [h6, h4 hi0, Bool.and_false, cond_false, cond_false, decide_eq_true hi0, cond_true]; exact hn _ _ h5
        · rw [decide_eq_false hi0, Bool.false_and, cond_false, cond_false]; exact hn _ _ h5
      · have e2 : ((!r.1) || ((decide (0 < i)) && (decide (0 ≤ (zax (nth l (i - 1)) (nth l i)))))) = true := by
          rcases h2 with h2 | ⟨h2, h3⟩
          · rw [h2]; rfl
          · rw [h3, decide_eq_true h2]; simp
        rw [e2, cond_true]; rcases h1 with h1 | ⟨h0, h1⟩
        · unfold okR at h1; rw [Bool.not_eq_false'] at h1; rw [h1, cond_true]; rfl
        · unfold okN at h1; rw [Bool.not_eq_false'] at h1; rw [h1, decide_eq_true h0]
          cases (decide ((nth l i).Area < 0) || decide (63 < (nth l i).Area) || decide ((nth l i).Category < 1) || decide (2 < (nth l i).Category) || decide ((nth l i).Supply < 1) || decide (12 < (nth l i).Supply) || decide ((nth l i).Units < 1) || decide (100000 < (nth l i).Units) || decide ((nth l i).Reserve < 0) || decide (549755813888 < (nth l i).Reserve)) <;> rfl)
  generalize zao _ _ (l.length - 0) 0 (Vec.fill 64 (0 : Int)) = x at h ⊢; generalize zao _ _ (l.length - 0) 0 () = y at h ⊢
  cases x with
  | none => cases h
  | some x => exact h
theorem zff {σ ρ : Type} (f : Nat → (σ → ρ) → σ → ρ) (k : σ → ρ) (m i : Nat) (s : σ) : zao f k (m + 1) i s = f i (zao f k m (i + 1)) s := rfl
theorem zcR {α : Type} [Inhabited α] {d : List α} {i : Nat} {x : α} (h : i < d.length) : nth (d.set i x) i = x := by
  unfold nth; rw [List.getD_eq_getElem?_getD, List.getElem?_set_self h]; rfl
theorem zdv {α : Type} [Inhabited α] {d : List α} {i j : Nat} {x : α} (h : j ≠ i) : nth (d.set i x) j = nth d j := by
  unfold nth; rw [List.getD_eq_getElem?_getD, List.getD_eq_getElem?_getD, List.getElem?_set_ne (fun e => h e.symm)]
structure DemOk (l : List GProduct) (d : List Int) : Prop where
  len : d.length = l.length
  bd : ∀ j, j < l.length → 0 ≤ nth d j ∧ nth d j ≤ (nth l j).Supply
theorem DemOk.set {l : List GProduct} {d : List Int} (h : DemOk l d) {i : Nat} {x : Int} (h0 : 0 ≤ x) (h1 : x ≤ nth d i) (hi : i < l.length) : DemOk l (d.set i x) := by
  refine ⟨by rw [List.length_set]; exact h.len, fun j hj => ?_⟩; by_cases e : j = i
  · subst e; rw [zcR (by rw [h.len]; exact hj)]; have := h.bd j hj; omega
  · rw [zdv e]; exact h.bd j hj
section
variable {B : Int} {prices : List Int} {l : List GProduct} {ρ : Type}
end
structure CntI (l : List GProduct) (i : Nat) (d : List Int) : Prop where
  len : d.length = l.length
  done : ∀ j, j < l.length → 0 ≤ nth d j ∧ nth d j ≤ 12 ∧ (j < i → nth d j ≤ (nth l j).Supply) ∧ (i ≤ j → nth d j = 0)
theorem ok12 {l : List GProduct} (h : ∀ j, j < l.length → okR (nth l j) = true) {j : Nat} (hj : j < l.length) : 1 ≤ (nth l j).Supply ∧ (nth l j).Supply ≤ 12 := by
  have := h j hj; rw [zcT] at this; omega
theorem zgo (p : GProduct) : ((((((((((decide (p.Area < 0)) || (decide (63 < p.Area))) || (decide (p.Category < 1))) || (decide (2 < p.Category))) || (decide (p.Supply < 1))) || (decide (12 < p.Supply))) || (decide (p.Units < 1))) || (decide (100000 < p.Units))) || (decide (p.Reserve < 0))) || (decide (549755813888 < p.Reserve))) = !okR p := by unfold okR; rw [Bool.not_not]
theorem zfH {l : List GProduct} (h : zaC l = true) : ∀ j, j < l.length → okR (nth l j) = true := by
  have key : ∀ m i, i + m = l.length → zao (fun (i_3 : Nat) (next2 : Unit → Bool) (_ : Unit) =>
      (bif ((((((((((decide ((nth l i_3).Area < 0)) || (decide (63 < (nth l i_3).Area))) || (decide ((nth l i_3).Category < 1))) || (decide (2 < (nth l i_3).Category))) || (decide ((nth l i_3).Supply < 1))) || (decide (12 < (nth l i_3).Supply))) || (decide ((nth l i_3).Units < 1))) || (decide (100000 < (nth l i_3).Units))) || (decide ((nth l i_3).Reserve < 0))) || (decide (549755813888 < (nth l i_3).Reserve))) then
        false
        else
        (bif decide (0 < (i_3 : Int)) then
          (bif ((decide ((nth l i_3).Area < (nth l (((i_3 : Int) - 1).toNat)).Area)) || ((decide ((nth l i_3).Area = (nth l (((i_3 : Int) - 1).toNat)).Area)) && ((decide ((nth l i_3).Category ≤ (nth l (((i_3 : Int) - 1).toNat)).Category)) || (decide (12 < wI (((nth l i_3).Supply) + ((nth l (((i_3 : Int) - 1).toNat)).Supply))))))) then
            false
            else
            next2 ())
          else
          next2 ()))) (fun _ => true) m i () = true → ∀ j, i ≤ j → j < l.length → okR (nth l j) = true := by
    intro m
    induction m with
    | zero => intro i hi _ j h1 h2; omega
    | succ m ih =>
      intro i hi h j h1 h2; rw [zff] at h; (try dsimp only at h); rw [zgo] at h
      have e : okR (nth l i) = true := by
        cases hc : okR (nth l i) with
        | true => rfl
        | false => rw [hc] at h; cases h
      rw [e, Bool.not_true, cond_false] at h; have h9 := h; by_cases hj : j = i
      · subst hj; exact e
      · refine ih (i + 1) (by omega) ?_ j (by omega) h2; generalize zao _ _ m (i + 1) () = y at h9 ⊢
        revert h9
        cases decide (0 < (i : Int))
        · exact id
        · rw [cond_true]; generalize (_ || _ : Bool) = z
          cases z
          · exact id
          · intro h; cases h
  unfold zaC at h; simp only [zaB] at h; intro j hj; exact key (l.length - 0) 0 (by omega) h j (by omega) hj
theorem CntI.next {l : List GProduct} {i : Nat} {d : List Int} (h : CntI l i d) (hs : i < l.length → 1 ≤ (nth l i).Supply) : CntI l (i + 1) d :=
  ⟨h.len, fun j hj => by
    have h1 := h.done j hj; refine ⟨h1.1, h1.2.1, fun h2 => ?_, fun h2 => h1.2.2.2 (by omega)⟩; by_cases e : j < i
    · exact h1.2.2.1 e
    · have := h1.2.2.2 (by omega); (have e2 : j = i := by omega); subst e2; have := hs hj
      omega⟩
theorem zfN (n : Nat) : zbA (n + 100000) = some true := by kernel_rfl
theorem zfy {fuel : Nat} (hf : 100000 ≤ fuel) : zbA fuel = some true := by
  obtain ⟨n, rfl⟩ : ∃ n, fuel = n + 100000 := ⟨fuel - 100000, by omega⟩; exact zfN n
theorem zex (a : List Int) : zaL a a = true := by
  unfold zaL; rw [decide_eq_false (by simp), cond_false]; simp only [zaB]
  rw [show a.length - 0 = a.length from rfl, zeL (fun _ => true) (fun i next hi => by
    rw [decide_eq_false (by simp)]; rfl)]
  simp
abbrev gS : BitVec 64 := 11400714819323198485#64
abbrev iS : BitVec 64 := 17428512612931826493#64
def zb6 (s : BitVec 64) : BitVec 64 := (zaG s).2
theorem zfS (s : BitVec 64) : (zaG s).1 = s + gS := rfl
def kB (s : BitVec 64) : BitVec 64 := -(s + gS) * iS
theorem zgf : gS * iS = 1#64 := by decide +kernel
theorem zgp (s : BitVec 64) : kB (s + gS) = kB s - 1#64 := by
  unfold kB; rw [← zgf]; generalize gS = g; generalize iS = i
  grind
theorem zgC {s : BitVec 64} (h : kB s ≠ 0#64) : (kB s).toNat = (kB (s + gS)).toNat + 1 := by
  rw [zgp, BitVec.toNat_sub]; have h1 : (kB s).toNat ≠ 0 := fun e => h (BitVec.eq_of_toNat_eq e); have h2 := (kB s).isLt; have h3 : (1#64).toNat = 1 := rfl; rw [h3]; omega
theorem zgA {s : BitVec 64} (h : (kB s).toNat ≤ 0) : kB s = 0#64 := by
  apply BitVec.eq_of_toNat_eq; rw [BitVec.toNat_zero]; omega
theorem zel {s : BitVec 64} (h : kB s = 0#64) : zb6 s = 0#64 := by
  have h1 : s + gS = 0#64 := by
    have e : kB s * gS = -(s + gS) := by
      unfold kB; rw [BitVec.mul_assoc, BitVec.mul_comm iS gS, zgf, BitVec.mul_one]
    rw [h, BitVec.zero_mul] at e; have e2 := congrArg (fun x => -x) e; simpa using e2.symm
  unfold zb6 zaG; simp only []; rw [show s + 11400714819323198485#64 = 0#64 from h1]
  decide +kernel
attribute [irreducible] kB zb6
def accB (n w : BitVec 64) : Bool := decide ((w.toNat : Int) ≤ (((18446744073709551615#64) - ((((18446744073709551615#64) % n) + (1#64)) % n)).toNat : Int))
theorem zfR {n : BitVec 64} (h : n ≠ 0#64) : ((((18446744073709551615#64) % n) + (1#64)) % n).toNat = 18446744073709551616 % n.toNat ∧ ((-n) % n).toNat = 18446744073709551616 % n.toNat := by
  have h0 : n.toNat ≠ 0 := fun e => h (BitVec.eq_of_toNat_eq e); have h1 := n.isLt; constructor
  · rw [BitVec.toNat_umod, BitVec.toNat_add, BitVec.toNat_umod]; have h2 : (18446744073709551615#64).toNat = 18446744073709551615 := rfl; have h3 : (1#64).toNat = 1 := rfl; rw [h2, h3]; have h4 := Nat.mod_lt 18446744073709551615 (show 0 < n.toNat by omega); by_cases h5 : 18446744073709551615 % n.toNat + 1 < 2 ^ 64
    · rw [Nat.mod_eq_of_lt h5, Nat.mod_add_mod]
    · omega
  · rw [BitVec.toNat_umod, BitVec.toNat_neg, Nat.mod_eq_of_lt (show 2 ^ 64 - n.toNat < 2 ^ 64 by omega)]; exact (Nat.mod_eq_sub_mod (show n.toNat ≤ 18446744073709551616 by omega)).symm
theorem zfe {n w : BitVec 64} (h : n ≠ 0#64) : ((decide (((0#64).toNat : Int) < (((-n) % n).toNat : Int))) && (decide (((-((-n) % n)).toNat : Int) ≤ (w.toNat : Int)))) = !accB n w := by
  obtain ⟨h1, h2⟩ := zfR h; unfold accB; have h0 : n.toNat ≠ 0 := fun e => h (BitVec.eq_of_toNat_eq e); have h3 := n.isLt; have h4 := Nat.mod_lt 18446744073709551616 (show 0 < n.toNat by omega); have h5 := w.isLt; rw [BitVec.toNat_sub, BitVec.toNat_neg, h1, h2]; have h6 : (18446744073709551615#64).toNat = 18446744073709551615 := rfl; have h7 : (0#64).toNat = 0 := rfl; rw [h6, h7]; generalize 18446744073709551616 % n.toNat = E at *; by_cases hE : E = 0
  · subst hE; rw [decide_eq_false (by omega), Bool.false_and, decide_eq_true (by omega)]; rfl
  · rw [decide_eq_true (by omega), Bool.true_and]; by_cases hw : 2 ^ 64 - E ≤ w.toNat
    · rw [decide_eq_true (by omega), decide_eq_false (by omega)]; rfl
    · rw [decide_eq_false (by omega), decide_eq_true (by omega)]; rfl
theorem zdO {n : BitVec 64} : accB n 0#64 = true := by
  unfold accB; rw [decide_eq_true]; have h7 : (0#64).toNat = 0 := rfl; rw [h7]; omega
def zct (n : BitVec 64) : Nat → BitVec 64 → BitVec 64 × BitVec 64
  | 0, s => (s + gS, zb6 s)
  | m + 1, s => bif accB n (zb6 s) then (s + gS, zb6 s) else zct n m (s + gS)
theorem zed (n s : BitVec 64) : zct n 0 s = (s + gS, zb6 s) := rfl
theorem zeK {n s : BitVec 64} {m : Nat} (h : accB n (zb6 s) = true) : zct n (m + 1) s = (s + gS, zb6 s) := by
  rw [zct, h]; rfl
theorem ze7 {n s : BitVec 64} {m : Nat} (h : accB n (zb6 s) = false) : zct n (m + 1) s = zct n m (s + gS) := by
  rw [zct, h]; rfl
theorem zcC {σ ρ : Type} (f : (σ → Option ρ) → σ → Option ρ) (m : Nat) (s : σ) : zaN f (m + 1) s = f (zaN f m) s := rfl
theorem zfZ {ρ : Type} {n : BitVec 64} {K : BitVec 64 → BitVec 64 → Option ρ} {f : (BitVec 64 → Option ρ) → BitVec 64 → Option ρ} (hf : ∀ next s, f next s = bif accB n (zb6 s) then K (s + gS) (zb6 s) else next (s + gS)) (m : Nat) : ∀ (s : BitVec 64), (kB s).toNat ≤ m → ∀ M, m < M → zaN f M s = K (zct n m s).1 (zct n m s).2 := by
  induction m with
  | zero =>
    intro s h M hM; obtain ⟨M', rfl⟩ : ∃ M', M = M' + 1 := ⟨M - 1, by omega⟩; (have ha : accB n (zb6 s) = true := by rw [zel (zgA h)]; exact zdO); rw [zcC, hf, zed, ha, cond_true]
  | succ m ih =>
    intro s h M hM; obtain ⟨M', rfl⟩ : ∃ M', M = M' + 1 := ⟨M - 1, by omega⟩; rw [zcC, hf]
    cases ha : accB n (zb6 s) with
    | true => rw [zeK ha, cond_true]
    | false =>
      (have hk : kB s ≠ 0#64 := fun e => by rw [zel e, zdO] at ha; cases ha); have hlt := zgC hk; rw [cond_false, ze7 ha]; exact ih (s + gS) (by omega) M' (by omega)
theorem zfQ {ρ : Type} {n : BitVec 64} {K : BitVec 64 → BitVec 64 → Option ρ} {f : (BitVec 64 × BitVec 64 → Option ρ) → BitVec 64 × BitVec 64 → Option ρ} (hf : ∀ next s, f next (zb6 s, s + gS) = bif accB n (zb6 s) then K (s + gS) (zb6 s) else next (zb6 (s + gS), s + gS + gS)) (m : Nat) : ∀ (s : BitVec 64), (kB s).toNat ≤ m → ∀ M, m < M → zaN f M (zb6 s, s + gS) = K (zct n m s).1 (zct n m s).2 := by
  induction m with
  | zero =>
    intro s h M hM; obtain ⟨M', rfl⟩ : ∃ M', M = M' + 1 := ⟨M - 1, by omega⟩; (have ha : accB n (zb6 s) = true := by rw [zel (zgA h)]; exact zdO); rw [zcC, hf, zed, ha, cond_true]
  | succ m ih =>
    intro s h M hM; obtain ⟨M', rfl⟩ : ∃ M', M = M' + 1 := ⟨M - 1, by omega⟩; rw [zcC, hf]
    cases ha : accB n (zb6 s) with
    | true => rw [zeK ha, cond_true]
    | false =>
      (have hk : kB s ≠ 0#64 := fun e => by rw [zel e, zdO] at ha; cases ha); have hlt := zgC hk; rw [cond_false, ze7 ha]; exact ih (s + gS) (by omega) M' (by omega)
theorem zgz (s : BitVec 64) : zag ⟨true, s⟩ = (zb6 s, s + gS) := by
  unfold zb6; rfl
theorem zfq : ∃ m : Nat, m = 18446744073709551616 := ⟨_, rfl⟩
noncomputable def bigN : Nat := Classical.choose zfq
theorem zfF : bigN = 18446744073709551616 := Classical.choose_spec zfq
noncomputable def numB (s : BitVec 64) (limit : Int) : Int × BitVec 64 := (wI (((zct (BitVec.ofInt 64 limit) bigN s).2 % BitVec.ofInt 64 limit).toNat : Int), (zct (BitVec.ofInt 64 limit) bigN s).1)
theorem zfp {limit : Int} (h1 : 1 ≤ limit) (h2 : limit ≤ 4611686018427387904) : (BitVec.ofInt 64 limit).toNat = limit.toNat := by
  rw [BitVec.toNat_ofInt]; omega
theorem zgc {limit : Int} (h1 : 1 ≤ limit) (h2 : limit ≤ 4611686018427387904) : BitVec.ofInt 64 limit ≠ 0#64 := fun e => by
  have := zfp h1 h2; rw [e] at this; have h7 : (0#64).toNat = 0 := rfl; omega
theorem zeq {limit : Int} (h1 : 1 ≤ limit) (h2 : limit ≤ 4611686018427387904) (s : BitVec 64) : 0 ≤ (numB s limit).1 ∧ (numB s limit).1 < limit := by
  unfold numB; have h3 := zfp h1 h2; generalize zct (BitVec.ofInt 64 limit) bigN s = q; generalize BitVec.ofInt 64 limit = n at *; have h4 := Nat.mod_lt q.2.toNat (show 0 < n.toNat by omega); have h5 : (q.2 % n).toNat = q.2.toNat % n.toNat := BitVec.toNat_umod; dsimp only; rw [h5, zdA (by omega)]; omega
theorem zgK (s : BitVec 64) : (kB s).toNat ≤ bigN := by rw [zfF]; have := (kB s).isLt; omega
theorem zeT {F m : Nat} {limit : Int} (h1 : 1 ≤ limit) (h2 : limit ≤ 4611686018427387904) (s : BitVec 64) (hk : (kB s).toNat ≤ m) (hF : m < F) : zaY F s limit = some ((zct (BitVec.ofInt 64 limit) m s).1, wI (((zct (BitVec.ofInt 64 limit) m s).2 % BitVec.ofInt 64 limit).toNat : Int)) := by
  have hn := zgc h1 h2; unfold zaY; rw [zbh hn, zbh hn]; refine zfZ (n := BitVec.ofInt 64 limit) (K := fun st w => some (st, wI ((w % BitVec.ofInt 64 limit).toNat : Int))) (fun next s => ?_) m s hk F hF; rw [zbh hn, zfS, show (zaG s).2 = zb6 s from by unfold zb6; rfl]; unfold accB
  rfl
theorem zf3 {F m : Nat} {limit : Int} (h1 : 1 ≤ limit) (h2 : limit ≤ 4611686018427387904) (s : BitVec 64) (hk : (kB s).toNat ≤ m) (hF : m < F) : zak F ⟨true, s⟩ limit = some (wI (((zct (BitVec.ofInt 64 limit) m s).2 % BitVec.ofInt 64 limit).toNat : Int), 0, (zct (BitVec.ofInt 64 limit) m s).1) := by
  have hn := zgc h1 h2; unfold zak; simp only [zaB, zgz]; rw [show zar ⟨true, s⟩ = true from rfl, Bool.not_true, cond_false, decide_eq_false (show ¬ limit < 1 by omega), decide_eq_false (show ¬ 4611686018427387904 < limit by omega), Bool.false_or, cond_false, zbh hn]; refine zfQ (n := BitVec.ofInt 64 limit) (K := fun st w => some (wI ((w % BitVec.ofInt 64 limit).toNat : Int), 0, st)) (fun next s => ?_) m s hk F hF; dsimp only; rw [zfe hn]
  cases accB (BitVec.ofInt 64 limit) (zb6 s)
  · rfl
  · rw [Bool.not_true, cond_false, cond_true, zbh hn]
theorem zfr (s : BitVec 64) (limit : Int) : numB s limit = (wI (((zct (BitVec.ofInt 64 limit) bigN s).2 % BitVec.ofInt 64 limit).toNat : Int), (zct (BitVec.ofInt 64 limit) bigN s).1) := by
  unfold numB
  with_reducible rfl
theorem zcI {F : Nat} (hF : bigN < F) {limit : Int} (h1 : 1 ≤ limit) (h2 : limit ≤ 4611686018427387904) (s : BitVec 64) : zaY F s limit = some ((numB s limit).2, (numB s limit).1) := by
  rw [zeT h1 h2 s (zgK s) hF, zfr]
theorem zdP {F : Nat} (hF : bigN < F) {limit : Int} (h1 : 1 ≤ limit) (h2 : limit ≤ 4611686018427387904) (s : BitVec 64) : zak F ⟨true, s⟩ limit = some ((numB s limit).1, 0, (numB s limit).2) := by
  rw [zf3 h1 h2 s (zgK s) hF, zfr]
attribute [irreducible] numB zct
def zgb (st home : Int) (q : GStationPlan × Int) : Prop := q.2 = 0 → q.1.Station = st ∧ q.1.Home = home ∧ 0 ≤ st ∧ st ≤ 511 ∧ 1 ≤ home ∧ home ≤ 3 ∧ (q.1.Values.length : Int) = home + 1 ∧ ∀ j, j < q.1.Values.length → 0 ≤ nth q.1.Values j ∧ nth q.1.Values j ≤ 68719476736
theorem zep {F : Nat} (hF : bigN < F) (seed st home scale : Int) : ∃ q, zaP F seed st home scale = some q ∧ zaU F seed st home scale = some q ∧ zgb st home q := by
  by_cases hok : 0 ≤ st ∧ st ≤ 511 ∧ 1 ≤ home ∧ home ≤ 3 ∧ 0 ≤ scale ∧ scale ≤ 68719476736
  · unfold zaP zaU
    have c1 : ((!(zaw st home)) || (!(zal scale))) = false := by
      unfold zaw zal; simp only [Bool.or_eq_false_iff, Bool.not_eq_false', Bool.and_eq_true, decide_eq_true_eq]; omega
    have c2 : ((((((decide (st < 0)) || (decide (511 < st))) || (decide (home < 1))) || (decide (3 < home))) || (decide (scale < 0))) || (decide (68719476736 < scale))) = false := by
      simp only [Bool.or_eq_false_iff, decide_eq_false_iff_not]; omega
    rw [c1, cond_false, c2, cond_false, show (zaj seed).isSome = true from rfl, cond_true, show (zaj seed).getD default = ⟨true, BitVec.ofInt 64 seed⟩ from rfl]; rw [zdA (show -9223372036854775808 ≤ home + 1 ∧ home + 1 ≤ 9223372036854775807 by omega), zdA (show -9223372036854775808 ≤ scale + 1 ∧ scale + 1 ≤ 9223372036854775807 by omega)]; rw [zbh (by omega), zbh (by unfold room; omega), zbh (by unfold room; omega), zdP hF (by omega) (by omega), zcI hF (by omega) (by omega), Option.bind_some, Option.bind_some]; have hb := zeq (limit := scale + 1) (by omega) (by omega) (BitVec.ofInt 64 seed); have hlen : (List.replicate (home + 1).toNat (0 : Int)).length = (home + 1).toNat := List.length_replicate; rw [zbh (by omega), zbh (by omega)]; simp only [zaB]; rw [zbh (by omega)]
    let post : Option (GStationPlan × Int) → Option (GStationPlan × Int) → Prop := fun x y => ∃ q, x = some q ∧ y = some q ∧ zgb st home q
    have h0 : ∀ j, nth (List.replicate (home + 1).toNat (0 : Int)) j = 0 := fun j => by
      unfold nth; rw [List.getD_eq_getElem?_getD, List.getElem?_replicate]
      split <;> rfl
    generalize hx : zao _ _ (home.toNat - 1) 1 ((numB (BitVec.ofInt 64 seed) (scale + 1)).2, _) = x; generalize hy : zao _ _ (home.toNat - 1) 1 ((numB (BitVec.ofInt 64 seed) (scale + 1)).2, _) = y
    show post x y
    rw [← hx, ← hy]; clear hx hy x y; generalize numB (BitVec.ofInt 64 seed) (scale + 1) = nb at *; refine zdS (n := home.toNat) (fun i (s t : BitVec 64 × List Int) => s = t ∧ s.2.length = (home + 1).toNat ∧ 0 < i ∧ ∀ j, 0 ≤ nth s.2 j ∧ nth s.2 j ≤ 68719476736) post (fun s t hR => ?_) (fun i s t next next' hi hR hn => ?_) _ _ _ _ (by omega) ?_
    · obtain ⟨rfl, h2, _, h3⟩ := hR; exact ⟨_, rfl, rfl, fun _ => ⟨rfl, rfl, hok.1, hok.2.1, hok.2.2.1, hok.2.2.2.1, by rw [h2]; omega, fun j _ => h3 j⟩⟩
    · obtain ⟨rfl, h2, hi0, h3⟩ := hR; (try dsimp only); have h4 := h3 home.toNat; rw [zbh (by omega), zbh (by omega), zdA (by omega), zdP hF (by omega) (by omega), zcI hF (by omega) (by omega), Option.bind_some, Option.bind_some]; have hb2 := zeq (limit := nth s.2 home.toNat + 1) (by omega) (by omega) s.1; refine hn _ _ ⟨rfl, by rw [List.length_set]; exact h2, by omega, fun j => ?_⟩; by_cases e : j = i
      · subst e; rw [zcR (by omega)]; omega
      · rw [zdv e]; exact h3 j
    · refine ⟨rfl, by rw [List.length_set]; exact hlen, by omega, fun j => ?_⟩; by_cases e : j = home.toNat
      · subst e; rw [zcR (by omega)]; omega
      · rw [zdv e, h0]; omega
  · unfold zaP zaU
    have c1 : ((!(zaw st home)) || (!(zal scale))) = true := by
      rw [← Bool.not_eq_false]; unfold zaw zal; simp only [Bool.or_eq_false_iff, Bool.not_eq_false', Bool.and_eq_true, decide_eq_true_eq]; omega
    have c2 : ((((((decide (st < 0)) || (decide (511 < st))) || (decide (home < 1))) || (decide (3 < home))) || (decide (scale < 0))) || (decide (68719476736 < scale))) = true := by
      rw [← Bool.not_eq_false]; simp only [Bool.or_eq_false_iff, decide_eq_false_iff_not]; omega
    rw [c1, cond_true, c2, cond_true]; exact ⟨_, rfl, rfl, fun h => by cases h⟩
structure ValsOk (n scale : Int) (v : List Int) : Prop where
  len : (v.length : Int) = n
  bd : ∀ k, k < v.length → 0 ≤ nth v k ∧ nth v k ≤ scale
  desc : ∀ k, 0 < k → k < v.length → nth v k ≤ nth v (k - 1)
def zgE (bidder : Int) (l : List GProduct) (q : GBidderPlan × Int) : Prop := q.2 = 0 → q.1.Bidder = bidder ∧ 0 ≤ bidder ∧ bidder ≤ 31 ∧ zaC l = true ∧ q.1.Values.length = l.length ∧ 0 ≤ q.1.Budget ∧ q.1.Budget ≤ 687194767360 ∧ ∀ i, i < l.length → ValsOk (nth l i).Supply 68719476736 (nth q.1.Values i)
theorem zeQ {F : Nat} (hF : bigN < F) (seed bidder : Int) (l : List GProduct) (scale : Int) (hl : l.length ≤ 100) : ∃ q, za6 F seed bidder l scale = some q ∧ zbb F seed bidder l scale = some q ∧ zgE bidder l q := by
  unfold za6 zbb; rw [pvalid]; simp only [zaB, Option.bind_some]; by_cases hok : ¬ (0 ≤ bidder ∧ bidder ≤ 31 ∧ zaC l = true ∧ 0 ≤ scale ∧ scale ≤ 68719476736)
  · have c2 : (((((decide (bidder < 0)) || (decide (31 < bidder))) || (!(zaC l))) || (decide (scale < 0))) || (decide (68719476736 < scale))) = true := by
      rw [← Bool.not_eq_false]; simp only [Bool.or_eq_false_iff, decide_eq_false_iff_not, Bool.not_eq_false']; intro h; exact hok ⟨by omega, by omega, h.1.1.2, by omega, by omega⟩
    rw [c2, cond_true]; refine ⟨(⟨0, 0, []⟩, 2), ?_, rfl, fun h => by cases h⟩; by_cases h1 : bidder < 0
    · rw [decide_eq_true h1]; rfl
    · rw [decide_eq_false h1, cond_false]; by_cases h2 : 32 ≤ bidder
      · rw [decide_eq_true h2]; rfl
      · rw [decide_eq_false h2, cond_false]
        cases h3 : zaC l with
        | false => rfl
        | true =>
          rw [Bool.not_true, cond_false]
          have h4 : zal scale = false := by
            unfold zal; rw [← Bool.not_eq_true]; simp only [Bool.and_eq_true, decide_eq_true_eq]; intro h; exact hok ⟨by omega, by omega, h3, by omega, by omega⟩
          rw [h4]; rfl
  · have hok := Decidable.not_not.1 hok; obtain ⟨b1, b2, hv, s1, s2⟩ := hok
    have c2 : (((((decide (bidder < 0)) || (decide (31 < bidder))) || (!(zaC l))) || (decide (scale < 0))) || (decide (68719476736 < scale))) = false := by
      rw [hv]; simp only [Bool.or_eq_false_iff, decide_eq_false_iff_not, Bool.not_true, and_true]; omega
    have h4 : zal scale = true := by
      unfold zal; simp only [Bool.and_eq_true, decide_eq_true_eq]; omega
    have hR := zfH hv; rw [c2, cond_false, decide_eq_false (show ¬ bidder < 0 by omega), cond_false, decide_eq_false (show ¬ 32 ≤ bidder by omega), cond_false, hv, Bool.not_true, cond_false, h4, Bool.not_true, cond_false]; rw [show (zaj seed).isSome = true from rfl, cond_true, show (zaj seed).getD default = ⟨true, BitVec.ofInt 64 seed⟩ from rfl]
    let post : Option (GBidderPlan × Int) → Option (GBidderPlan × Int) → Prop := fun x y => ∃ q, x = some q ∧ y = some q ∧ zgE bidder l q
    generalize hx : zao _ _ (l.length - 0) 0 ((⟨true, BitVec.ofInt 64 seed⟩ : GSource).state, bidder, (0 : Int), ([] : List (List Int))) = x; generalize hy : zao _ _ (l.length - 0) 0 (BitVec.ofInt 64 seed, bidder, (0 : Int), ([] : List (List Int))) = y
    show post x y
    rw [← hx, ← hy]; clear hx hy x y; refine zdx (n := l.length) (fun i (s t : BitVec 64 × Int × Int × List (List Int)) => s = t ∧ s.2.1 = bidder ∧ s.2.2.2.length = i ∧ ∀ j, j < i → ValsOk (nth l j).Supply 68719476736 (nth s.2.2.2 j)) post ⟨rfl, rfl, rfl, fun j hj => by omega⟩ (fun s t hR2 => ?_) (fun i s t next next' hi hR2 hn => ?_)
    · obtain ⟨rfl, h2, h3, h5⟩ := hR2; (try dsimp only); rw [zdA (show -9223372036854775808 ≤ scale * 10 ∧ scale * 10 ≤ 9223372036854775807 by omega), zdA (show -9223372036854775808 ≤ 10 * scale ∧ 10 * scale ≤ 9223372036854775807 by omega), zdA (by omega), zdA (by omega), zdP hF (by omega) (by omega), zcI hF (by omega) (by omega), Option.bind_some, Option.bind_some, Int.mul_comm 10 scale]; have hb2 := zeq (limit := scale * 10 + 1) (by omega) (by omega) s.1; exact ⟨_, rfl, rfl, fun _ => ⟨h2, b1, b2, hv, h3, hb2.1, by show (numB s.1 (scale * 10 + 1)).1 ≤ _; omega, h5⟩⟩
    · obtain ⟨rfl, h2, h3, h5⟩ := hR2; (try dsimp only); have hsi := ok12 hR hi; rw [zbh (by omega), zbh (by omega)]; refine zdx (n := (nth l i).Supply.toNat) (fun k (a : Int × List Int × BitVec 64) (b : BitVec 64 × Int × List Int) => a.1 = b.2.1 ∧ a.2.1 = b.2.2 ∧ a.2.2 = b.1 ∧ 0 ≤ a.1 ∧ a.1 ≤ scale ∧ ValsOk (k : Int) scale a.2.1 ∧ (0 < k → a.1 = nth a.2.1 (k - 1))) post ?_ (fun a b hA => ?_) (fun k a b nx nx' hk hA hnx => ?_)
      · refine ⟨rfl, rfl, rfl, s1, Int.le_refl _, ⟨rfl, fun k hk => ?_, fun k h1 hk => ?_⟩, fun h => by omega⟩
        · exact absurd hk (Nat.not_lt_zero _)
        · exact absurd hk (Nat.not_lt_zero _)
      · obtain ⟨e1, e2, e3, a1, a2, hvs, _⟩ := hA; obtain ⟨a0, av, sv⟩ := a; obtain ⟨bs, b0, bv⟩ := b; dsimp only at *; subst e1 e2 e3; have hvl := hvs.len; (have hlen : (s.2.2.2 ++ [av]).length = i + 1 := by rw [List.length_append, h3]; rfl); rw [zbh (by unfold room; rw [hlen]; omega), zbh (by unfold room; rw [hlen]; omega)]; refine hn _ _ ⟨rfl, h2, hlen, fun j hj => ?_⟩
        show ValsOk _ _ (nth (s.2.2.2 ++ [av]) j)
        by_cases e : j = i
        · subst e; rw [zbr h3.symm]; exact ⟨by rw [hvl]; omega, fun k hk => by have := hvs.bd k hk; omega, hvs.desc⟩
        · rw [zbB (by omega)]; exact h5 j (by omega)
      · obtain ⟨e1, e2, e3, a1, a2, hvs, hla⟩ := hA; obtain ⟨a0, av, sv⟩ := a; obtain ⟨bs, b0, bv⟩ := b; dsimp only at *; subst e1 e2 e3; have hvl := hvs.len; rw [zdA (show -9223372036854775808 ≤ a0 + 1 ∧ a0 + 1 ≤ 9223372036854775807 by omega), zdP hF (by omega) (by omega), zcI hF (by omega) (by omega), Option.bind_some, Option.bind_some]; have hb2 := zeq (limit := a0 + 1) (by omega) (by omega) sv; (try dsimp only); generalize numB sv (a0 + 1) = nb at *; (have hlen : (av ++ [nb.1]).length = av.length + 1 := by rw [List.length_append]; rfl); rw [zbh (by unfold room; rw [hlen]; omega), zbh (by unfold room; rw [hlen]; omega)]; refine hnx _ _ ⟨rfl, rfl, rfl, hb2.1, by show nb.1 ≤ scale; omega, ⟨by rw [hlen]; omega, fun j hj => ?_, fun j h1 hj => ?_⟩, fun _ => ?_⟩
        · dsimp only at hj ⊢; rw [hlen] at hj; by_cases e : j = av.length
          · rw [zbr e]; omega
          · rw [zbB (by omega)]; exact hvs.bd j (by omega)
        · dsimp only at hj ⊢; rw [hlen] at hj; rw [zbB (show j - 1 < av.length by omega)]; by_cases e : j = av.length
          · rw [zbr e]; have := hla (by omega); rw [show k - 1 = j - 1 by omega] at this; omega
          · rw [zbB (by omega)]; exact hvs.desc j h1 (by omega)
        · show nb.1 = nth (av ++ [nb.1]) (k + 1 - 1)
          rw [zbr (by omega)]
theorem zeV (a : GStationPlan) : zaR a a = true := by
  unfold zaR; rw [zex]; simp
theorem zeE (a : GBidderPlan) : za2 a a = true := by
  unfold za2; rw [show (((decide (¬ a.Bidder = a.Bidder)) || (decide (¬ a.Budget = a.Budget))) || (decide (¬ (a.Values.length : Int) = (a.Values.length : Int)))) = false by simp, cond_false]; simp only [zaB]
  rw [show a.Values.length - 0 = a.Values.length from rfl, zeL (fun _ => true) (fun i next hi => by
    rw [zex]; rfl)]
  simp
theorem zet {fuel : Nat} (hf : 18446744073709651616 ≤ fuel) (seed number home : Int) (l : List GProduct) (scale : Int) : zbn fuel seed number home l scale = some true := by
  have hk := zfy (show 100000 ≤ fuel by omega); (have hF : bigN < fuel := by rw [zfF]; omega); unfold zbn; by_cases hl : 8 < (l.length : Int)
  · rw [decide_eq_true hl, cond_true, hk]; rfl
  · rw [decide_eq_false hl, cond_false]; obtain ⟨a, h1, h2, _⟩ := zep hF seed number home scale; obtain ⟨b, h3, h4, _⟩ := zeQ hF seed number l scale (by omega); rw [h1, h2, h3, h4, Option.bind_some, Option.bind_some, Option.bind_some, Option.bind_some]; simp only [zaB]; rw [zeV, zeE]; simp [hk]
end Go.Proofs.YtlaafmiejkebgaaGreat
namespace Go.Proofs.YtlaafmiejkebgaaGreat
open Go.RowKit Go.ChangeShapes Go.WideShapes Go.Deep
def Opens {H : Type} (enc : TypeId × Value → H) (w : World) (base : Nat) (spare : Nat → Bool) (held : Bool) (t : TypeId) {α : Type} (R : List Value → α → Prop) : Prop :=
  ∀ fuel cs y, DataW.trod enc Tryz.prog w base spare held fuel t cs = some y → ∃ x, R cs x
section
variable {H : Type} {enc : TypeId × Value → H} {w : World} {base : Nat} {spare : Nat → Bool} {held : Bool}
theorem Opens.int {t : TypeId} (ht : Tryz.prog.underlying t = some (.int .i64)) : Opens enc w base spare held t (fun cs (x : Int) => cs = [.int .i64 x]) := fun fuel cs y h => by
  obtain ⟨k, hk, _⟩ := DataW.trod_int ht h; exact ⟨k, hk⟩
theorem zgl {a : Addr} {v : Value} (h : w.cell? a = some v) : Cb w a.block := by
  unfold World.cell? at h
  split at h
  all_goals (first | exact ⟨_, _, _, by assumption⟩ | simp at h | skip)
theorem Opens.any {t e : TypeId} {k : Nat} {α : Type} [Inhabited α] {R : List Value → α → Prop} (ht : Tryz.prog.underlying t = some (.slice e)) (hk : Tryz.prog.cellsOf e = k) (hpos : 0 < k) (ho : Opens enc w base spare held e R) :
    Opens enc w base spare held t (fun cs (l : List α) => ∃ v c, cs = [v] ∧ SlC (Frz.all w) v k c ∧ c.length = l.length ∧ ∀ i, i < l.length → R (nth c i) (nth l i)) := fun fuel cs y h => by
  rcases open_slice ht h with ⟨h0, _⟩ | ⟨a, len, cap, m, n, D, Pl, hcs, hb, hl, hm, hmm, _, hx⟩
  · exact ⟨[], _, [], h0, SlC.nil _ _, rfl, fun i hi => absurd hi (Nat.not_lt_zero i)⟩
  · subst hcs; (have hlm : len ≤ m := by rw [hmm]; split <;> omega)
    have each : ∀ i, i < m → ∃ x : List Value × α, x.1.length = k ∧ R x.1 x.2 ∧ ∀ j, j < k → w.cell? (a.add (i * k + j)) = x.1[j]? := fun i hi => by
      obtain ⟨cs', h1, h2⟩ := hx i hi; rw [hk] at h1; obtain ⟨_, hlen, hcell⟩ := World.cells?_some h1; obtain ⟨x, hR⟩ := ho _ _ _ h2; exact ⟨(cs', x), hlen, hR, fun j hj => by rw [← hcell j hj, add_add]⟩
    obtain ⟨X, hX⟩ := choose_lt each
    have hn : ∀ i, i < len → nth ((List.range len).map fun i => (X i).1) i = (X i).1 := fun i hi => by
      rw [zbo (by simpa using hi)]; simp
    have hn2 : ∀ i, i < len → nth ((List.range len).map fun i => (X i).2) i = (X i).2 := fun i hi => by
      rw [zbo (by simpa using hi)]; simp
    refine ⟨(List.range len).map fun i => (X i).2, _, (List.range len).map fun i => (X i).1, rfl, ⟨some a, cap, by simp, by simpa using hl, by unfold maxLen at hm; omega, fun c hc => ?_, fun hp => ?_⟩, by simp, fun i hi => ?_⟩
    · simp at hc; obtain ⟨i, hi, rfl⟩ := hc; exact (hX i (by omega)).1
    · (have hp' : 0 < len := by simpa using hp); have c0 := (hX 0 (by omega)).2.2 0 hpos; have hx0 := (hX 0 (by omega)).1; rw [List.getElem?_eq_getElem (by omega)] at c0; have hcb := zgl c0; have hs := World.cell?_spot c0; simp [Addr.add] at hs hcb; obtain ⟨b, off, sp⟩ := a; simp at hs hcb; subst hs; refine ⟨b, off, rfl, hcb, fun i hi j hj => ?_⟩; simp at hi; rw [hn i hi] at hj ⊢; have hxi := hX i (by omega); have := hxi.2.2 j (by omega); refine Eq.trans ?_ this
      show w.cell? _ = _
      rw [zcz, Nat.add_assoc]
    · simp at hi; rw [hn i hi, hn2 i hi]; exact (hX i (by omega)).2.1
theorem Opens.slC {t e : TypeId} {k : Nat} {α : Type} [Inhabited α] {en : α → List Value} (ht : Tryz.prog.underlying t = some (.slice e)) (hk : Tryz.prog.cellsOf e = k) (hpos : 0 < k) (ho : Opens enc w base spare held e (fun cs (x : α) => cs = en x)) :
    Opens enc w base spare held t (fun cs (l : List α) => ∃ v, cs = [v] ∧ SlC (Frz.all w) v k (l.map en)) := fun fuel cs y h => by
  obtain ⟨l, v, c, h1, h2, h3, h4⟩ := Opens.any ht hk hpos ho _ _ _ h; refine ⟨l, v, h1, ?_⟩
  have : c = l.map en := by
    apply List.ext_getElem (by simpa using h3); intro i hi hi2; rw [← zbo hi, h4 i (by omega), List.getElem_map, zbo (by omega)]
  rw [← this]; exact h2
theorem Opens.bytes {t e : TypeId} (ht : Tryz.prog.underlying t = some (.slice e)) (he : Tryz.prog.underlying e = some (.int .u8)) (hk : Tryz.prog.cellsOf e = 1) :
    Opens enc w base spare held t (fun cs (l : List Int) => ∃ v, cs = [v] ∧ SlC (Frz.all w) v 1 (l.map (eK .u8)) ∧ ∀ x ∈ l, 0 ≤ x ∧ x ≤ 255) := fun fuel cs y h => by
  have ho : Opens enc w base spare held e (fun cs (x : Int) => cs = eK .u8 x ∧ (0 ≤ x ∧ x ≤ 255)) := fun fuel cs y h => by
    obtain ⟨k, h1, _, h2⟩ := DataW.trod_int he h; refine ⟨k, h1, ?_⟩; (have e1 : IntKind.u8.min = 0 := by decide); (have e2 : IntKind.u8.max = 255 := by decide); simp only [Lit.wf, e1, e2, Bool.and_eq_true, decide_eq_true_eq] at h2; exact h2
  obtain ⟨l, v, c, h1, h2, h3, h4⟩ := Opens.any ht hk (by decide) ho _ _ _ h; refine ⟨l, v, h1, ?_, fun x hx => ?_⟩
  · have : c = l.map (eK .u8) := by
      apply List.ext_getElem (by simpa using h3); intro i hi hi2; rw [← zbo hi, (h4 i (by omega)).1, List.getElem_map, zbo (by omega)]
    rw [← this]; exact h2
  · obtain ⟨i, hi, e⟩ := List.mem_iff_getElem.1 hx; have := (h4 i hi).2; rw [zbo hi, e] at this; exact this
end
end Go.Proofs.YtlaafmiejkebgaaGreat
