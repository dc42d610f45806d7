/- Ys Ps Of: shortened and put together by squeeze.py. -/
import Derived.Test.YtipomhejoajjdaaGreatDoorQ07
import Derived.Deep.Slices
import Derived.ChangeArms
set_option maxRecDepth 100000
set_option maxHeartbeats 4000000
set_option linter.unusedVariables false
set_option linter.unusedSectionVars false
set_option linter.unusedSimpArgs false
namespace Go.Proofs.YtipomhejoajjdaaGreatDoor
open Go.RowKit
def zbA (fuel : Nat) (p : GProblem) (station : Int) : Option Bool :=
  (zb8 fuel p 60 60).bind fun r13 =>
  (bif !r13 then
    (zbP fuel).bind fun r15 =>
    some r15
    else
    (zbc p).bind fun r18 =>
    (zbb p station).bind fun r24 =>
    (zaP p station).bind fun r30 =>
    (zb7 p).bind fun r34 =>
    (bif !r34 then
      zaH (fun (x_3 : Bool) =>
        some x_3)
      (fun k4 =>
        (bif decide (wI ((wI ((r18.1.length : Int) + (r24.1.length : Int))) + (r30.1.length : Int)) = 0) then
          (bif decide (r18.2 = 2) then
            (bif decide (r24.2 = 2) then
              (bif decide (r30.2 = 2) then
                (zbP fuel).bind fun r58 =>
                k4 r58
                else
                k4 false)
              else
              k4 false)
            else
            k4 false)
          else
          k4 false))
      else
      zaH (fun (x_9 : Bool) =>
        (bif x_9 then
          some false
          else
          (bif decide ((zas p station) < 0) then
            zaH (fun (x_14 : Bool) =>
              some x_14)
            (fun k15 =>
              (bif decide (wI ((r24.1.length : Int) + (r30.1.length : Int)) = 0) then
                (bif decide (r24.2 = 9) then
                  (bif decide (r30.2 = 9) then
                    (zbP fuel).bind fun r89 =>
                    k15 r89
                    else
                    k15 false)
                  else
                  k15 false)
                else
                k15 false))
            else
            zaH (fun (x_19 : Bool) =>
              some x_19)
            (fun k20 =>
              (bif decide (r24.2 = 0) then
                (bif decide (r30.2 = 0) then
                  grd (0 ≤ (zas p station) ∧ (zas p station) < (p.Domains.length : Int)) <|
                  (bif (zaO r24.1 ((nth p.Domains ((zas p station).toNat)).Channels)) then
                    (zbw p station).bind fun r111 =>
                    (bif (zaO r30.1 r111) then
                      (zbP fuel).bind fun r115 =>
                      k20 r115
                      else
                      k20 false)
                    else
                    k20 false)
                  else
                  k20 false)
                else
                k20 false)))))
      (fun k10 =>
        (bif decide (¬ r18.2 = 0) then
          k10 true
          else
          (zbS p).bind fun r65 =>
          k10 (!(zaO r18.1 r65))))))
theorem zc8 (F0 : Frz) (w : World) (hF0 : F0.At w) (p : GProblem) (vp_0 : Value) (cp_0 : List (List Value)) (hp_0 : SlD GDomain.rep F0 vp_0 2 cp_0 p.Domains) (vp_1 : Value) (hp_1 : SlC F0 vp_1 5 (p.Rules.Pairs.map GPair.enc)) (vp_2 : Value) (hp_2 : SlC F0 vp_2 5 (p.Rules.Loads.map GLoad.enc)) (vp_3 : Value) (hp_3 : SlC F0 vp_3 4 (p.Rules.Caps.map GCap.enc)) (station : Int) (htab : Tab w) (fuel : Nat) (r : Bool) (hr : zbA fuel p station = some r) : Calls Tryz.prog 3 #[.agg [vp_0, vp_1, vp_2, vp_3].toArray, .int .i64 station] w fun e w' => e = .returned (.bool r) ∧ Below w.heap.size w w' := by
  have hk := hr; unfold zbA at hk; haveI := hp_0.1.oneC; haveI := hp_1.oneC; haveI := hp_2.oneC; haveI := hp_3.oneC; obtain ⟨S0, F1, rfl, hS0, hp0⟩ := zai hF0; have hM0 : ¬ (fun _ : Nat => False) 0 := fun h => h; have htk : ∀ {hs : HS} {w' : World}, Hp w (fun _ => False) hs w' → Tab w' := fun hw => htab.keptF hw; refine zak Tryz.func3 rfl rfl rfl hp0 ?_; refine T.sr ?_; refine TL.e (Ew.au rfl rfl) ?_; rintro _ _ ⟨g2, rfl, rfl⟩; refine TL.run 1 rfl ?_; refine TL.ns (T.seq (T.seq ?_)); have hq := zad hk; clear hk; obtain ⟨r13, hr13, hk⟩ := hq; (try dsimp only at hk); refine T.region ?_; refine TL.y (Yv.ag 0 rfl rfl rfl rfl) ?_; refine TL.e (Ew.ae rfl rfl rfl (fun w hw => zeG _ w (hw.fr (i := 1) rfl) p vp_0 cp_0 hp_0 vp_1 hp_1 vp_2 hp_2 vp_3 hp_3 60 60 fuel r13 hr13)) ?_; rintro _ _ ⟨rfl, rfl⟩; refine TL.run 1 rfl ?_; refine TL.ns ?_; refine T.cond rfl (fun h1 => ?_) (fun h1 => ?_)
  · replace hk := zac hk h1; refine T.seq ?_; have hq := zad hk; clear hk; obtain ⟨r15, hr15, hk⟩ := hq; (try dsimp only at hk); refine T.region ?_; refine TL.e (Ew.ae rfl rfl rfl (fun w hw => zcp _ w (hw.fr (i := 1) rfl)  fuel r15 hr15)) ?_; rintro _ _ ⟨rfl, rfl⟩; refine TL.run 1 rfl ?_; refine TL.ns (T.ret (K.aa ?_)); obtain rfl := Option.some.inj hk; exact K.ak rfl rfl (fun w' hw => ⟨rfl, hw.isBelow⟩)
  · replace hk := zab hk h1; refine T.skip (K.seq (T.seq ?_)); have hq := zad hk; clear hk; obtain ⟨r18, hr18, hk⟩ := hq; (try dsimp only at hk); refine T.region ?_; refine TL.y (Yv.ag 0 rfl rfl rfl rfl) ?_; refine TL.e (Ew.ax 1 rfl rfl rfl rfl (fun w hw hF => zdx _ w hF p vp_0 cp_0 hp_0 vp_1 hp_1 vp_2 hp_2 vp_3 hp_3 (htab.keptF hw) r18 hr18)) ?_; rintro _ _ ⟨v18_0_0, F2, le1_2, hf18_0_0, rfl, rfl⟩; haveI := hf18_0_0.oneC; refine TL.run 5 rfl ?_; refine TL.ns (T.seq ?_); have hq := zad hk; clear hk; obtain ⟨r24, hr24, hk⟩ := hq; (try dsimp only at hk); refine T.region ?_; refine TL.y (Yv.ag 0 rfl rfl rfl rfl) ?_; refine TL.run 1 rfl ?_; refine TL.e (Ew.ax 1 rfl rfl rfl rfl (fun w hw hF => zdi _ w hF p vp_0 cp_0 (SlD.mono (rep := GDomain.rep) (fun _ _ _ _ => GDomain.mono) hp_0 le1_2) vp_1 (SlC.mono hp_1 le1_2) vp_2 (SlC.mono hp_2 le1_2) vp_3 (SlC.mono hp_3 le1_2) station r24 hr24)) ?_; rintro _ _ ⟨v24_0_0, F3, le2_3, hf24_0_0, rfl, rfl⟩; have le1_3 := le1_2.trans le2_3; haveI := hf24_0_0.oneC; refine TL.run 5 rfl ?_; refine TL.ns (T.seq ?_); have hq := zad hk; clear hk; obtain ⟨r30, hr30, hk⟩ := hq; (try dsimp only at hk); refine T.region ?_; refine TL.y (Yv.ag 0 rfl rfl rfl rfl) ?_; refine TL.run 1 rfl ?_; refine TL.e (Ew.ax 1 rfl rfl rfl rfl (fun w hw hF => zcn _ w hF p vp_0 cp_0 (SlD.mono (rep := GDomain.rep) (fun _ _ _ _ => GDomain.mono) hp_0 le1_3) vp_1 (SlC.mono hp_1 le1_3) vp_2 (SlC.mono hp_2 le1_3) vp_3 (SlC.mono hp_3 le1_3) station r30 hr30)) ?_; rintro _ _ ⟨v30_0_0, F4, le3_4, hf30_0_0, rfl, rfl⟩; have le1_4 := le1_3.trans le3_4; have le2_4 := le2_3.trans le3_4; haveI := hf30_0_0.oneC; refine TL.run 5 rfl ?_; refine TL.ns (T.seq (T.seq ?_)); have hq := zad hk; clear hk; obtain ⟨r34, hr34, hk⟩ := hq; (try dsimp only at hk); refine T.region ?_; refine TL.y (Yv.ag 0 rfl rfl rfl rfl) ?_; refine TL.e (Ew.ae rfl rfl rfl (fun w hw => zeF _ w (hw.fr (i := 1) rfl) p vp_0 cp_0 (SlD.mono (rep := GDomain.rep) (fun _ _ _ _ => GDomain.mono) hp_0 le1_4) vp_1 (SlC.mono hp_1 le1_4) vp_2 (SlC.mono hp_2 le1_4) vp_3 (SlC.mono hp_3 le1_4) r34 hr34)) ?_; rintro _ _ ⟨rfl, rfl⟩; refine TL.run 1 rfl ?_; refine TL.ns ?_; refine T.cond rfl (fun h2 => ?_) (fun h2 => ?_)
    · replace hk := zac hk h2; refine T.seq ?_; (try dsimp only at hk); have hq := zae hk; clear hk; obtain ⟨k4, hk4, hk⟩ := hq; (try dsimp only at hk); refine T.aj (ι := Bool) (fun z => [(4, .bool z)]) (fun z => [.fr F4]) (fun z => k4 z = some r) ?_ ?_
      · refine T.region ?_; refine TL.run 1 rfl ?_; refine TL.y (Yv.al rfl rfl (SlC.mono hf18_0_0 le2_4) (List.length_map _)) ?_; have hm37 : r18.1.length ≤ 9223372036854775807 := (List.length_map _) ▸ (SlC.mono hf18_0_0 le2_4).max; refine TL.run 1 rfl ?_; refine TL.y (Yv.al rfl rfl (SlC.mono hf24_0_0 le3_4) (List.length_map _)) ?_; have hm39 : r24.1.length ≤ 9223372036854775807 := (List.length_map _) ▸ (SlC.mono hf24_0_0 le3_4).max; refine TL.run 2 rfl ?_; refine TL.y (Yv.al rfl rfl hf30_0_0 (List.length_map _)) ?_; have hm42 : r30.1.length ≤ 9223372036854775807 := (List.length_map _) ▸ hf30_0_0.max; refine TL.run 3 rfl ?_; refine TL.gs rfl rfl rfl (fun h5 => ?_) (fun h5 => ?_)
        · have p5 := of_decide_eq_true h5; replace hk := zac hk h5; refine TL.run 4 rfl ?_; refine TL.gs rfl rfl rfl (fun h6 => ?_) (fun h6 => ?_)
          · have p6 := of_decide_eq_true h6; replace hk := zac hk h6; refine TL.run 4 rfl ?_; refine TL.gs rfl rfl rfl (fun h7 => ?_) (fun h7 => ?_)
            · have p7 := of_decide_eq_true h7; replace hk := zac hk h7; refine TL.run 4 rfl ?_; refine TL.gs rfl rfl rfl (fun h8 => ?_) (fun h8 => ?_)
              · have p8 := of_decide_eq_true h8; replace hk := zac hk h8; have hq := zad hk; clear hk; obtain ⟨r58, hr58, hk⟩ := hq; refine TL.e (Ew.ae rfl rfl rfl (fun w hw => zcp _ w (hw.fr (i := 1) rfl)  fuel r58 hr58)) ?_; rintro _ _ ⟨rfl, rfl⟩; refine TL.run 2 rfl ?_; refine TL.nil ?_; refine K.pick [1] rfl (by decide) ?_; exact K.ah r58 hk (.c .nil) (List.Sublist.refl _)
              · have p8 := of_decide_eq_false h8; replace hk := zab hk h8; refine TL.run 3 rfl ?_; refine TL.nil ?_; refine K.pick [1] rfl (by decide) ?_; exact K.ah false hk (.c .nil) (List.Sublist.refl _)
            · have p7 := of_decide_eq_false h7; replace hk := zab hk h7; refine TL.run 7 rfl ?_; refine TL.nil ?_; refine K.pick [1] rfl (by decide) ?_; exact K.ah false hk (.c .nil) (List.Sublist.refl _)
          · have p6 := of_decide_eq_false h6; replace hk := zab hk h6; refine TL.run 11 rfl ?_; refine TL.nil ?_; refine K.pick [1] rfl (by decide) ?_; exact K.ah false hk (.c .nil) (List.Sublist.refl _)
        · have p5 := of_decide_eq_false h5; replace hk := zab hk h5; refine TL.run 15 rfl ?_; refine TL.nil ?_; refine K.pick [1] rfl (by decide) ?_; exact K.ah false hk (.c .nil) (List.Sublist.refl _)
      · rintro x_3 hk; rw [← hk4] at hk; (try dsimp only at hk); refine T.ret (K.aa ?_); obtain rfl := Option.some.inj hk; exact K.ak rfl rfl (fun w' hw => ⟨rfl, hw.isBelow⟩)
    · replace hk := zab hk h2; refine T.skip (K.seq (T.seq (T.seq ?_))); (try dsimp only at hk); have hq := zae hk; clear hk; obtain ⟨k10, hk10, hk⟩ := hq; (try dsimp only at hk); refine T.aj (ι := Bool × FzB w (fun _ => False) S0) (fun z => [(1, .int .i64 station), (2, .pointer (some ⟨g2, 0, none⟩)), (7, v24_0_0), (8, .int .i64 r24.2), (9, v30_0_0), (10, .int .i64 r30.2), (68, .bool z.1)]) (fun z => [.row g2 29 [vp_0, vp_1, vp_2, vp_3], .fr z.2]) (fun z => k10 z.1 = some r ∧ F4.toFrz.Le z.2.toFrz) ?_ ?_
      · refine T.region ?_; refine TL.run 3 rfl ?_; refine TL.gs rfl rfl rfl (fun h11 => ?_) (fun h11 => ?_)
        · have p11 := of_decide_eq_true h11; replace hk := zac hk h11; refine TL.run 6 rfl ?_; refine TL.nil ?_; exact K.ah (true, F4) ⟨hk, (Frz.Le.refl _)⟩ (.c (.c (.c (.c (.c (.c (.c .nil))))))) (List.Sublist.refl _)
        · have p11 := of_decide_eq_false h11; replace hk := zab hk h11; refine TL.run 1 rfl ?_; refine TL.y (Yv.ag 0 rfl rfl rfl rfl) ?_; have hq := zad hk; clear hk; obtain ⟨r65, hr65, hk⟩ := hq; refine TL.e (Ew.ax 1 rfl rfl rfl rfl (fun w hw hF => zdM _ w hF p vp_0 cp_0 (SlD.mono (rep := GDomain.rep) (fun _ _ _ _ => GDomain.mono) hp_0 le1_4) vp_1 (SlC.mono hp_1 le1_4) vp_2 (SlC.mono hp_2 le1_4) vp_3 (SlC.mono hp_3 le1_4) r65 hr65)) ?_; rintro _ _ ⟨v65_0_0, F6, le4_6, hf65_0_0, hq, rfl⟩; obtain rfl := hq.symm; have le2_6 := le2_4.trans le4_6; haveI := hf65_0_0.oneC; refine TL.e (Ew.ae rfl rfl rfl (fun w hw => zb3 _ w (hw.fr (i := 1) rfl) r18.1 v18_0_0 (SlC.mono hf18_0_0 le2_6) r65 v65_0_0 hf65_0_0)) ?_; rintro _ _ ⟨rfl, rfl⟩; refine TL.run 2 rfl ?_; refine TL.nil ?_; exact K.ah (!(zaO r18.1 r65), F6) ⟨hk, le4_6⟩ (.c (.c (.c (.c (.c (.c (.c .nil))))))) (List.Sublist.refl _)
      · rintro ⟨x_9, F5⟩ ⟨hk, le4_5⟩; (try dsimp only at *); rw [← hk10] at hk; (try dsimp only at hk); have le1_5 := le1_4.trans le4_5; have le3_5 := le3_4.trans le4_5; refine T.cond rfl (fun h12 => ?_) (fun h12 => ?_)
        · replace hk := zac hk h12; refine T.sr ?_; refine TL.run 1 rfl ?_; refine TL.ns (T.ret (K.aa ?_)); obtain rfl := Option.some.inj hk; exact K.ak rfl rfl (fun w' hw => ⟨rfl, hw.isBelow⟩)
        · replace hk := zab hk h12; refine T.skip (K.seq (T.sr ?_)); refine TL.y (Yv.ag 0 rfl rfl rfl rfl) ?_; refine TL.run 1 rfl ?_; refine TL.e (Ew.ae rfl rfl rfl (fun w hw => zb6 _ w (hw.fr (i := 1) rfl) p vp_0 cp_0 (SlD.mono (rep := GDomain.rep) (fun _ _ _ _ => GDomain.mono) hp_0 le1_5) vp_1 (SlC.mono hp_1 le1_5) vp_2 (SlC.mono hp_2 le1_5) vp_3 (SlC.mono hp_3 le1_5) station)) ?_; rintro _ _ ⟨rfl, rfl⟩; refine TL.run 1 rfl ?_; refine TL.ns (T.seq (T.sr ?_)); refine TL.run 2 rfl ?_; refine TL.ns ?_; refine T.cond rfl (fun h13 => ?_) (fun h13 => ?_)
          · have p13 := of_decide_eq_true h13; replace hk := zac hk h13; refine T.seq ?_; (try dsimp only at hk); have hq := zae hk; clear hk; obtain ⟨k15, hk15, hk⟩ := hq; (try dsimp only at hk); refine T.aj (ι := Bool) (fun z => [(4, .bool z)]) (fun z => [.fr F5]) (fun z => k15 z = some r) ?_ ?_
            · refine T.region ?_; refine TL.run 1 rfl ?_; refine TL.y (Yv.al rfl rfl (SlC.mono hf24_0_0 le3_5) (List.length_map _)) ?_; have hm75 : r24.1.length ≤ 9223372036854775807 := (List.length_map _) ▸ (SlC.mono hf24_0_0 le3_5).max; refine TL.run 1 rfl ?_; refine TL.y (Yv.al rfl rfl (SlC.mono hf30_0_0 le4_5) (List.length_map _)) ?_; have hm77 : r30.1.length ≤ 9223372036854775807 := (List.length_map _) ▸ (SlC.mono hf30_0_0 le4_5).max; refine TL.run 3 rfl ?_; refine TL.gs rfl rfl rfl (fun h16 => ?_) (fun h16 => ?_)
              · have p16 := of_decide_eq_true h16; replace hk := zac hk h16; refine TL.run 4 rfl ?_; refine TL.gs rfl rfl rfl (fun h17 => ?_) (fun h17 => ?_)
                · have p17 := of_decide_eq_true h17; replace hk := zac hk h17; refine TL.run 4 rfl ?_; refine TL.gs rfl rfl rfl (fun h18 => ?_) (fun h18 => ?_)
                  · have p18 := of_decide_eq_true h18; replace hk := zac hk h18; have hq := zad hk; clear hk; obtain ⟨r89, hr89, hk⟩ := hq; refine TL.e (Ew.ae rfl rfl rfl (fun w hw => zcp _ w (hw.fr (i := 1) rfl)  fuel r89 hr89)) ?_; rintro _ _ ⟨rfl, rfl⟩; refine TL.run 2 rfl ?_; refine TL.nil ?_; refine K.pick [1] rfl (by decide) ?_; exact K.ah r89 hk (.c .nil) (List.Sublist.refl _)
                  · have p18 := of_decide_eq_false h18; replace hk := zab hk h18; refine TL.run 3 rfl ?_; refine TL.nil ?_; refine K.pick [1] rfl (by decide) ?_; exact K.ah false hk (.c .nil) (List.Sublist.refl _)
                · have p17 := of_decide_eq_false h17; replace hk := zab hk h17; refine TL.run 7 rfl ?_; refine TL.nil ?_; refine K.pick [1] rfl (by decide) ?_; exact K.ah false hk (.c .nil) (List.Sublist.refl _)
              · have p16 := of_decide_eq_false h16; replace hk := zab hk h16; refine TL.run 11 rfl ?_; refine TL.nil ?_; refine K.pick [1] rfl (by decide) ?_; exact K.ah false hk (.c .nil) (List.Sublist.refl _)
            · rintro x_14 hk; rw [← hk15] at hk; (try dsimp only at hk); refine T.ret (K.aa ?_); obtain rfl := Option.some.inj hk; exact K.ak rfl rfl (fun w' hw => ⟨rfl, hw.isBelow⟩)
          · have p13 := of_decide_eq_false h13; replace hk := zab hk h13; refine T.skip (K.seq (T.seq ?_)); (try dsimp only at hk); have hq := zae hk; clear hk; obtain ⟨k20, hk20, hk⟩ := hq; (try dsimp only at hk); refine T.aj (ι := Bool × FzB w (fun _ => False) S0) (fun z => [(4, .bool z.1)]) (fun z => [.fr z.2]) (fun z => k20 z.1 = some r ∧ F5.toFrz.Le z.2.toFrz) ?_ ?_
            · refine T.region ?_; refine TL.run 3 rfl ?_; refine TL.gs rfl rfl rfl (fun h21 => ?_) (fun h21 => ?_)
              · have p21 := of_decide_eq_true h21; replace hk := zac hk h21; refine TL.run 4 rfl ?_; refine TL.gs rfl rfl rfl (fun h22 => ?_) (fun h22 => ?_)
                · have p22 := of_decide_eq_true h22; replace hk := zac hk h22; refine TL.run 1 rfl ?_; refine TL.y (Yv.fieldAddr rfl rfl) ?_; refine TL.y (Yv.a 0 rfl rfl rfl rfl) ?_; refine TL.run 1 rfl ?_; have hq : (0 ≤ (zas p station) ∧ (zas p station) < (p.Domains.length : Int)) ∧ _ := zaC hk; clear hk; obtain ⟨g102, hk⟩ := hq; refine TL.y (Yv.am (i := (zas p station).toNat) rfl rfl rfl (SlD.mono (rep := GDomain.rep) (fun _ _ _ _ => GDomain.mono) hp_0 le1_5).1 (SlD.mono (rep := GDomain.rep) (fun _ _ _ _ => GDomain.mono) hp_0 le1_5).2.1 (by omega) (by omega)) ?_; refine TL.y (Yv.aL rfl rfl (SlD.mono (rep := GDomain.rep) (fun _ _ _ _ => GDomain.mono) hp_0 le1_5).1 (SlD.mono (rep := GDomain.rep) (fun _ _ _ _ => GDomain.mono) hp_0 le1_5).2.1 (by omega)) ?_; refine TL.y (Yv.aP 1 (i := (zas p station).toNat) (j := 1) rfl rfl rfl (SlD.mono (rep := GDomain.rep) (fun _ _ _ _ => GDomain.mono) hp_0 le1_5).1 (SlD.mono (rep := GDomain.rep) (fun _ _ _ _ => GDomain.mono) hp_0 le1_5).2.1 (by omega) rfl (GDomain.c1 ((SlD.mono (rep := GDomain.rep) (fun _ _ _ _ => GDomain.mono) hp_0 le1_5).2.2 ((zas p station).toNat) (by omega))).1) ?_; have hd104_1 := (GDomain.c1 ((SlD.mono (rep := GDomain.rep) (fun _ _ _ _ => GDomain.mono) hp_0 le1_5).2.2 ((zas p station).toNat) (by omega))).2; haveI := hd104_1.oneC; refine TL.e (Ew.ae rfl rfl rfl (fun w hw => zb3 _ w (hw.fr (i := 1) rfl) r24.1 v24_0_0 (SlC.mono hf24_0_0 le3_5) ((nth p.Domains ((zas p station).toNat)).Channels) (nth (nth cp_0 ((zas p station).toNat)) 1) hd104_1)) ?_; rintro _ _ ⟨rfl, rfl⟩; refine TL.run 2 rfl ?_; refine TL.gs rfl rfl rfl (fun h23 => ?_) (fun h23 => ?_)
                  · replace hk := zac hk h23; refine TL.run 1 rfl ?_; refine TL.y (Yv.ag 0 rfl rfl rfl rfl) ?_; refine TL.run 1 rfl ?_; have hq := zad hk; clear hk; obtain ⟨r111, hr111, hk⟩ := hq; refine TL.e (Ew.ax 1 rfl rfl rfl rfl (fun w hw hF => zdu _ w hF p vp_0 cp_0 (SlD.mono (rep := GDomain.rep) (fun _ _ _ _ => GDomain.mono) hp_0 le1_5) vp_1 (SlC.mono hp_1 le1_5) vp_2 (SlC.mono hp_2 le1_5) vp_3 (SlC.mono hp_3 le1_5) station r111 hr111)) ?_; rintro _ _ ⟨v111_0_0, F8, le5_8, hf111_0_0, hq, rfl⟩; obtain rfl := hq.symm; have le4_8 := le4_5.trans le5_8; haveI := hf111_0_0.oneC; refine TL.e (Ew.ae rfl rfl rfl (fun w hw => zb3 _ w (hw.fr (i := 1) rfl) r30.1 v30_0_0 (SlC.mono hf30_0_0 le4_8) r111 v111_0_0 hf111_0_0)) ?_; rintro _ _ ⟨rfl, rfl⟩; refine TL.run 2 rfl ?_; refine TL.gs rfl rfl rfl (fun h24 => ?_) (fun h24 => ?_)
                    · replace hk := zac hk h24; have hq := zad hk; clear hk; obtain ⟨r115, hr115, hk⟩ := hq; refine TL.e (Ew.ae rfl rfl rfl (fun w hw => zcp _ w (hw.fr (i := 1) rfl)  fuel r115 hr115)) ?_; rintro _ _ ⟨rfl, rfl⟩; refine TL.run 2 rfl ?_; refine TL.nil ?_; refine K.pick [1] rfl (by decide) ?_; exact K.ah (r115, F8) ⟨hk, le5_8⟩ (.c .nil) (List.Sublist.refl _)
                    · replace hk := zab hk h24; refine TL.run 3 rfl ?_; refine TL.nil ?_; refine K.pick [1] rfl (by decide) ?_; exact K.ah (false, F8) ⟨hk, le5_8⟩ (.c .nil) (List.Sublist.refl _)
                  · replace hk := zab hk h23; refine TL.run 10 rfl ?_; refine TL.nil ?_; refine K.pick [1] rfl (by decide) ?_; exact K.ah (false, F5) ⟨hk, (Frz.Le.refl _)⟩ (.c .nil) (List.Sublist.refl _)
                · have p22 := of_decide_eq_false h22; replace hk := zab hk h22; refine TL.run 20 rfl ?_; refine TL.nil ?_; refine K.pick [1] rfl (by decide) ?_; exact K.ah (false, F5) ⟨hk, (Frz.Le.refl _)⟩ (.c .nil) (List.Sublist.refl _)
              · have p21 := of_decide_eq_false h21; replace hk := zab hk h21; refine TL.run 24 rfl ?_; refine TL.nil ?_; refine K.pick [1] rfl (by decide) ?_; exact K.ah (false, F5) ⟨hk, (Frz.Le.refl _)⟩ (.c .nil) (List.Sublist.refl _)
            · rintro ⟨x_19, F7⟩ ⟨hk, le5_7⟩; (try dsimp only at *); rw [← hk20] at hk; (try dsimp only at hk); refine T.ret ?_; obtain rfl := Option.some.inj hk; exact K.ak rfl rfl (fun w' hw => ⟨rfl, hw.isBelow⟩)
theorem zf2 {n : Nat} (h : 100000 ≤ n) : zbP n = some true := by
  obtain ⟨m, rfl⟩ : ∃ m, n = m + 100000 := ⟨n - 100000, by omega⟩
  kernel_rfl
theorem zgZ {p : GProblem} {a b : Int} {fuel : Nat} (hf : 1000 ≤ fuel) : ∃ r, zb8 fuel p a b = some r := by
  unfold zb8; simp only [zaH]; refine zfF (σ := Int) (I := fun i => 0 ≤ i ∧ i ≤ 600) (μ := fun i => (600 - i).toNat) (post := fun o => ∃ r, o = some r) ⟨by omega, by omega⟩ (by omega) ?_; intro i next hi hn; by_cases h1 : i < (p.Domains.length : Int) <;> by_cases h2 : i < 600
  · rw [decide_eq_true h1, decide_eq_true h2, Bool.and_true, cond_true, zbJ ⟨hi.1, h1⟩]
    cases decide (60 < ((nth p.Domains i.toNat).Channels.length : Int))
    · exact hn _ ⟨by omega, by omega⟩ (by omega)
    · exact ⟨_, rfl⟩
  · rw [decide_eq_false h2, Bool.and_false, cond_false]; exact ⟨_, rfl⟩
  · rw [decide_eq_false h1, Bool.false_and, cond_false]; exact ⟨_, rfl⟩
  · rw [decide_eq_false h1, Bool.false_and, cond_false]; exact ⟨_, rfl⟩
theorem zde {a b : List Int} (h : a = b) : zaO a b = true := by
  subst h; unfold zaO; rw [decide_eq_false (show ¬ ¬ (a.length : Int) = (a.length : Int) by simp), cond_false]; simp only [zaH]; rw [Nat.sub_zero, zeK (fun i => true) (fun i next hi => by simp)]; simp
theorem zgo {ρ α β : Type} [Inhabited α] {l : List α} {g : α → List β} {f : Nat → (List β → ρ) → List β → ρ} {k : List β → ρ} {s0 : List β} (hg : ∀ x, (g x).length ≤ 1) (hf : ∀ i next s, i < l.length → s.length ≤ s0.length + i → f i next s = next (s ++ g (nth l i))) : zah f k (l.length - 0) 0 s0 = k (s0 ++ l.flatMap g) := by
  have key : ∀ m i s, i + m = l.length → s.length ≤ s0.length + i → zah f k m i s = k (s ++ (l.drop i).flatMap g) := by
    intro m
    induction m with
    | zero => intro i s e _; rw [List.drop_eq_nil_of_le (by omega), List.flatMap_nil, List.append_nil]; rfl
    | succ m ih =>
      intro i s e hs; have h1 := hg (nth l i); have h2 := ih (i + 1) (s ++ g (nth l i)) (by omega) (by rw [List.length_append]; omega); rw [List.drop_eq_getElem_cons (show i < l.length by omega), List.flatMap_cons, ← za1 (show i < l.length by omega), ← List.append_assoc, ← h2]; exact hf i _ s (by omega) hs
  have := key (l.length - 0) 0 s0 (by omega) (by omega)
  rwa [List.drop_zero] at this
theorem zff {α β : Type} {l : List α} {q : α → Bool} {e : α → β} : l.flatMap (fun x => bif q x then [e x] else []) = (l.filter q).map e := by
  induction l with
  | nil => rfl
  | cons x r ih =>
    rw [List.flatMap_cons, ih]
    cases h : q x
    · rw [List.filter_cons_of_neg (by rw [h]; simp)]; rfl
    · rw [List.filter_cons_of_pos h]; rfl
theorem zdC : ∀ {a b : List Int}, a.Pairwise (· < ·) → b.Pairwise (· < ·) → (∀ x, x ∈ a ↔ x ∈ b) → a = b
  | [], [], _, _, _ => rfl
  | [], y :: b, _, _, h => absurd ((h y).2 (List.mem_cons_self ..)) (by simp)
  | x :: a, [], _, _, h => absurd ((h x).1 (List.mem_cons_self ..)) (by simp)
  | x :: a, y :: b, ha, hb, h => by
    have h1 := List.pairwise_cons.1 ha; have h2 := List.pairwise_cons.1 hb
    have e : x = y := by
      rcases List.mem_cons.1 ((h x).1 (List.mem_cons_self ..)) with e | hx
      · exact e
      · rcases List.mem_cons.1 ((h y).2 (List.mem_cons_self ..)) with e | hy
        · exact e.symm
        · have := h1.1 y hy; have := h2.1 x hx; omega
    subst e; rw [zdC h1.2 h2.2 fun z => ?_]; constructor
    · intro hz; rcases List.mem_cons.1 ((h z).1 (List.mem_cons_of_mem _ hz)) with e | h3
      · have := h1.1 z hz; omega
      · exact h3
    · intro hz; rcases List.mem_cons.1 ((h z).2 (List.mem_cons_of_mem _ hz)) with e | h3
      · have := h2.1 z hz; omega
      · exact h3
theorem zeL (s : GSet) : (zcu s).Pairwise (· < ·) := by
  unfold zcu; refine List.pairwise_map.2 ?_; (have : (memN s.words.1).Pairwise (· < ·) := by unfold memN memF; exact List.Pairwise.filter _ List.pairwise_lt_range'); (exact this.imp fun h => by omega)
theorem zf1 (s : GSet) (x : Int) : x ∈ zcu s ↔ inS s x = true := by
  unfold zcu inS; rw [List.mem_map]; constructor
  · rintro ⟨j, hj, rfl⟩; obtain ⟨_, h1, h2⟩ := memF_mem.1 hj; rw [decide_eq_true (show (0 : Int) ≤ (j : Int) by omega), decide_eq_true (show (j : Int) < 512 by omega), Bool.and_self, Bool.true_and, show ((j : Int) / 64).toNat = j / 64 by omega, show ((j : Int) % 64).toNat = j % 64 by omega]; exact h2
  · intro h; have h1 := ((Bool.and_eq_true _ _).mp ((Bool.and_eq_true _ _).mp h).1); have h2 := ((Bool.and_eq_true _ _).mp h).2; have a := of_decide_eq_true h1.1; have b := of_decide_eq_true h1.2; refine ⟨x.toNat, memF_mem.2 ⟨by omega, by omega, ?_⟩, by omega⟩; unfold sBit; rw [show x.toNat / 64 = (x / 64).toNat by omega, show x.toNat % 64 = (x % 64).toNat by omega]; exact h2
theorem zgp {α : Type} [Inhabited α] {l : List α} {f : α → Int} (h : adjB (fun a b => decide (f a < f b)) l = true) : (l.map f).Pairwise (· < ·) := by
  have h1 : ∀ i, i + 1 < l.length → f (nth l i) < f (nth l (i + 1)) := fun i hi => by
    have := of_decide_eq_true (List.all_eq_true.1 h (i + 1) (List.mem_range'_1.2 ⟨by omega, by omega⟩))
    rwa [show i + 1 - 1 = i from rfl] at this
  have h2 : ∀ d i, i + d + 1 < l.length → f (nth l i) < f (nth l (i + d + 1)) := by
    intro d
    induction d with
    | zero => intro i hi; exact h1 i hi
    | succ d ih => intro i hi; have := ih i (by omega); have := h1 (i + d + 1) (by omega); rw [show i + (d + 1) + 1 = i + d + 1 + 1 by omega]; omega
  refine List.pairwise_iff_getElem.2 fun i j hi hj hij => ?_; rw [List.length_map] at hi hj; rw [List.getElem_map, List.getElem_map, ← za1 hi, ← za1 hj]; have := h2 (j - i - 1) i (by omega)
  rwa [show i + (j - i - 1) + 1 = j by omega] at this
theorem zee {p : GProblem} (h : incD p = true) : (p.Domains.map (·.Station)).Pairwise (· < ·) := zgp h
theorem zfv {p : GProblem} (h : p.Domains.all okD = true) (i : Int) : hasD p i = anyD p i := by
  unfold hasD anyD; by_cases hi : 0 ≤ i ∧ i < 512
  · rw [decide_eq_true hi.1, decide_eq_true hi.2]; rfl
  · have e : (decide (0 ≤ i) && decide (i < 512)) = false := by
      rw [Bool.and_eq_false_iff, decide_eq_false_iff_not, decide_eq_false_iff_not]; omega
    rw [e, Bool.false_and]
    symm
    rw [List.any_eq_false]; intro d hd hx; have := zer h hd; have := of_decide_eq_true hx; omega
theorem anyD_mem {p : GProblem} {i : Int} : anyD p i = true ↔ i ∈ p.Domains.map (·.Station) := by
  unfold anyD; rw [List.any_eq_true, List.mem_map]; constructor
  · rintro ⟨d, h1, h2⟩; exact ⟨d, h1, of_decide_eq_true h2⟩
  · rintro ⟨d, h1, rfl⟩; exact ⟨d, h1, decide_eq_true rfl⟩
structure OkP (p : GProblem) : Prop where
  d : p.Domains.all okD = true
  r : zcL p.Rules = true
  i : incD p = true
  l : zeZ p = true
theorem zes {p : GProblem} (h : okP p = true) : OkP p := ⟨zbY h, zbY (zcx h), zbY (zcx (zcx h)), zcx (zcx (zcx h))⟩
theorem OkP.len {p : GProblem} (h : OkP p) : p.Domains.length ≤ 512 := zfj h.d h.i
theorem zfD {p : GProblem} (h : okP p = true) : zbc p = some (p.Domains.map (·.Station), 0) := by
  have hp := zes h; have hl := hp.len; obtain ⟨s, h3, h4⟩ := zd0 (p := p) (by unfold room; omega) (fun d hd => zer hp.d hd); unfold zbc; rw [zdH, h, h3]
  show some (zcu s, (0 : Int)) = _
  congr 2
  refine zdC (zeL s) (zee hp.i) fun x => ?_; rw [zf1, ← anyD_mem, ← zfv hp.d, h4]; rfl
theorem zeH {p : GProblem} (h : p.Domains.length ≤ 512) : zbS p = some (p.Domains.map (·.Station)) := by
  unfold zbS; simp only [zaH]; rw [zgo (g := fun d : GDomain => [d.Station]) (fun _ => Nat.le_refl _) (fun i next s hi hs => by rw [zbJ (by unfold room; simp at hs ⊢; omega)]), List.nil_append]
  congr 1
  induction p.Domains with
  | nil => rfl
  | cons d r ih => rw [List.flatMap_cons, ih]; rfl
theorem zfX {p : GProblem} (h : p.Domains.all okD = true) (s : Int) :
    (zas p s = -1 ∧ zah (fun (i_4 : Nat) (next3 : Unit → Option (List Int × Int)) (_ : Unit) => (bif decide ((nth p.Domains i_4).Station = s) then grd (room (((nth p.Domains i_4).Channels).length) 8) <| some ((nth p.Domains i_4).Channels, 0) else next3 ())) (fun (_ : Unit) => some ([], 9)) (p.Domains.length - 0) 0 () = some ([], 9)) ∨
    ∃ j, j < p.Domains.length ∧ zas p s = (j : Int) ∧ zah (fun (i_4 : Nat) (next3 : Unit → Option (List Int × Int)) (_ : Unit) => (bif decide ((nth p.Domains i_4).Station = s) then grd (room (((nth p.Domains i_4).Channels).length) 8) <| some ((nth p.Domains i_4).Channels, 0) else next3 ())) (fun (_ : Unit) => some ([], 9)) (p.Domains.length - 0) 0 () = some ((nth p.Domains j).Channels, 0) := by
  have key : ∀ m i, i + m = p.Domains.length →
      (zah (fun (i : Nat) (next : Unit → Int) (_ : Unit) => bif decide ((nth p.Domains i).Station = s) then (i : Int) else next ()) (fun _ => (-1)) m i () = -1 ∧ zah (fun (i_4 : Nat) (next3 : Unit → Option (List Int × Int)) (_ : Unit) => (bif decide ((nth p.Domains i_4).Station = s) then grd (room (((nth p.Domains i_4).Channels).length) 8) <| some ((nth p.Domains i_4).Channels, 0) else next3 ())) (fun (_ : Unit) => some ([], 9)) m i () = some ([], 9)) ∨
      ∃ j, j < p.Domains.length ∧ zah (fun (i : Nat) (next : Unit → Int) (_ : Unit) => bif decide ((nth p.Domains i).Station = s) then (i : Int) else next ()) (fun _ => (-1)) m i () = (j : Int) ∧ zah (fun (i_4 : Nat) (next3 : Unit → Option (List Int × Int)) (_ : Unit) => (bif decide ((nth p.Domains i_4).Station = s) then grd (room (((nth p.Domains i_4).Channels).length) 8) <| some ((nth p.Domains i_4).Channels, 0) else next3 ())) (fun (_ : Unit) => some ([], 9)) m i () = some ((nth p.Domains j).Channels, 0) := by
    intro m
    induction m with
    | zero => intro i e; exact .inl ⟨rfl, rfl⟩
    | succ m ih =>
      intro i e; have h2 := ih (i + 1) (by omega); have e1 : ∀ {ρ : Type} (f : Nat → (Unit → ρ) → Unit → ρ) (k : Unit → ρ), zah f k (m + 1) i () = f i (zah f k m (i + 1)) () := fun f k => rfl; rw [e1, e1]
      cases hd : decide ((nth p.Domains i).Station = s) with
      | true =>
        have h3 := List.all_eq_true.1 h _ (zcC (show i < p.Domains.length by omega)); rw [← zfY] at h3; have h4 := of_decide_eq_true (zbY (zcx h3)); refine .inr ⟨i, by omega, rfl, ?_⟩; rw [cond_true, zbJ (by unfold room; omega)]
      | false => exact h2
  exact key p.Domains.length 0 (by omega)
theorem zfC {p : GProblem} (h : okP p = true) (s : Int) : zbb p s = zah (fun (i_4 : Nat) (next3 : Unit → Option (List Int × Int)) (_ : Unit) => (bif decide ((nth p.Domains i_4).Station = s) then grd (room (((nth p.Domains i_4).Channels).length) 8) <| some ((nth p.Domains i_4).Channels, 0) else next3 ())) (fun (_ : Unit) => some ([], 9)) (p.Domains.length - 0) 0 () := by
  unfold zbb; rw [zdH, h]; rfl
def nb (s a b : Int) : List Int := bif decide (s = a) then [b] else bif decide (s = b) then [a] else []
theorem zfp (s a b : Int) : (nb s a b).length ≤ 1 := by
  unfold nb
  cases decide (s = a) <;> cases decide (s = b) <;> simp
theorem zfn {s a b x : Int} (h : a ≠ b) : x ∈ nb s a b ↔ ((decide (a = s) && decide (b = x)) || (decide (a = x) && decide (b = s))) = true := by
  unfold nb; by_cases h1 : s = a
  · subst h1; rw [decide_eq_true rfl, cond_true, List.mem_singleton, decide_eq_false (show ¬ b = s from fun e => h e.symm)]; simp [eq_comm]
  · rw [decide_eq_false h1, cond_false, decide_eq_false (show ¬ a = s from fun e => h1 e.symm)]; by_cases h2 : s = b
    · subst h2; rw [decide_eq_true rfl, cond_true, List.mem_singleton]; simp [eq_comm]
    · rw [decide_eq_false h2, cond_false, decide_eq_false (show ¬ b = s from fun e => h2 e.symm)]; simp
def zeV (p : GProblem) (s : Int) : List Int := p.Rules.Pairs.flatMap (fun c => nb s c.A c.B) ++ p.Rules.Loads.flatMap (fun c => nb s c.To c.From)
theorem zei {l : List Int} (h : l.Pairwise (· ≤ ·)) : (Lib.compact l).Pairwise (· < ·) ∧ ∀ x, x ∈ Lib.compact l ↔ x ∈ l := by
  have hD : ∀ i j, i ≤ j → j < l.length → l.toArray[i]! ≤ l.toArray[j]! := fun i j hij hj => by
    rcases Nat.lt_or_ge i j with h1 | h1
    · have := List.pairwise_iff_getElem.1 h i j (by omega) hj h1; simpa [show i < l.length by omega, hj] using this
    · (obtain rfl : i = j := by omega); exact Int.le_refl _
  have key : ∀ m, m ≤ l.length → (Lib.compactUpTo l.toArray m).Pairwise (· < ·) ∧ ∀ x, x ∈ Lib.compactUpTo l.toArray m ↔ ∃ j, j < m ∧ l.toArray[j]! = x := by
    intro m
    induction m with
    | zero => intro _; exact ⟨by simp [Lib.compactUpTo], fun x => by simp [Lib.compactUpTo]⟩
    | succ m ih =>
      intro hm; obtain ⟨h1, h2⟩ := ih (by omega); rw [Lib.compactUpTo_succ]
      cases hk : Lib.keeps l.toArray m with
      | true =>
        rw [if_pos rfl]; have hk' := of_decide_eq_true hk; refine ⟨List.pairwise_append.2 ⟨h1, List.pairwise_singleton _ _, fun a ha b hb => ?_⟩, fun x => ?_⟩
        · obtain ⟨j, hj, rfl⟩ := (h2 a).1 ha; obtain rfl := List.mem_singleton.1 hb; have a1 := hD j (m - 1) (by omega) (by omega); have a2 := hD (m - 1) m (by omega) (by omega); rcases hk' with e | e
          · omega
          · omega
        · rw [List.mem_append, h2, List.mem_singleton]; constructor
          · rintro (⟨j, hj, e⟩ | e)
            · exact ⟨j, by omega, e⟩
            · exact ⟨m, by omega, e.symm⟩
          · rintro ⟨j, hj, e⟩; rcases Nat.lt_or_ge j m with h3 | h3
            · exact .inl ⟨j, h3, e⟩
            · (obtain rfl : j = m := by omega); exact .inr e.symm
      | false =>
        rw [if_neg (by simp), List.append_nil]; refine ⟨h1, fun x => ?_⟩; have hk' := of_decide_eq_false hk; have h0 : m ≠ 0 := fun e => hk' (.inl e)
        have h3 : l.toArray[m]! = l.toArray[m - 1]! := by
          by_cases e : l.toArray[m]! = l.toArray[m - 1]!
          · exact e
          · exact absurd (.inr e) hk'
        rw [h2]; constructor
        · rintro ⟨j, hj, e⟩; exact ⟨j, by omega, e⟩
        · rintro ⟨j, hj, e⟩; rcases Nat.lt_or_ge j m with h4 | h4
          · exact ⟨j, h4, e⟩
          · (obtain rfl : j = m := by omega); exact ⟨j - 1, by omega, by rw [← h3]; exact e⟩
  obtain ⟨h1, h2⟩ := key l.length (Nat.le_refl _); refine ⟨h1, fun x => (h2 x).trans ?_⟩; constructor
  · rintro ⟨j, hj, rfl⟩; simp [hj]
  · intro hx; obtain ⟨j, hj, rfl⟩ := List.mem_iff_getElem.1 hx; exact ⟨j, hj, by simp [hj]⟩
theorem zeS {α β : Type} {l : List α} {g : α → List β} (h : ∀ x, (g x).length ≤ 1) : (l.flatMap g).length ≤ l.length := by
  induction l with
  | nil => exact Nat.le_refl _
  | cons x r ih => rw [List.flatMap_cons, List.length_append, List.length_cons]; have := h x; omega
theorem zgE {a b s : Int} {l : List Int} (h : l.length ≤ 100000) : za3 a b s l = some (l ++ nb s a b) := by
  (have h1 : ∀ z : Int, room (l ++ [z]).length 8 := fun z => by unfold room; simp; omega); unfold za3 nb; rw [zbJ (h1 b), zbJ (h1 a)]
  cases decide (s = a) <;> cases decide (s = b) <;> first | rfl | exact congrArg some (List.append_nil l).symm
theorem zeQ {p : GProblem} (h : okP p = true) (s : Int) : zaP p s = some (bif anyD p s then (Lib.compact (isort (zeV p s)), 0) else ([], 9)) := by
  have hp := zes h; have hl := hp.len; have hg := zdg hp.r; obtain ⟨t, h3, h4⟩ := zd0 (p := p) (by unfold room; omega) (fun d hd => zer hp.d hd); unfold zaP; simp only [zaH]; rw [zdH, h, h3]; simp only [Option.bind_some, Bool.not_true, cond_false]; rw [zfK, show inS t s = anyD p s from (h4 s).trans (zfv hp.d s)]; simp only [Option.bind_some]; have np := hg.np; have nl := hg.nl; rw [zgo (g := fun c : GPair => nb s c.A c.B) (fun c => zfp _ _ _) (fun i next l hi hs => by rw [zgE (by simp at hs; omega)]; rfl), List.nil_append]; have h5 := zeS (l := p.Rules.Pairs) (g := fun c : GPair => nb s c.A c.B) (fun c => zfp _ _ _); rw [zgo (g := fun c : GLoad => nb s c.To c.From) (fun c => zfp _ _ _) (fun i next l hi hs => by rw [zgE (by omega)]; rfl)]; have h6 := zeS (l := p.Rules.Loads) (g := fun c : GLoad => nb s c.To c.From) (fun c => zfp _ _ _); unfold zfc zea; rw [zbJ (by rw [List.length_append]; omega)]
  cases anyD p s <;> rfl
theorem zft {p : GProblem} {s x : Int} (h : okP p = true) : za9 p s x = true ↔ x ∈ zeV p s := by
  have hg := zdg (zes h).r
  have e : za9 p s x = (p.Rules.Pairs.any (fun c => (decide (c.A = s) && decide (c.B = x)) || (decide (c.A = x) && decide (c.B = s))) || p.Rules.Loads.any (fun c => (decide (c.To = s) && decide (c.From = x)) || (decide (c.To = x) && decide (c.From = s)))) := by
    unfold za9; simp only [zaH]
    rw [Nat.sub_zero, Nat.sub_zero, ze6 (fun i => (decide ((nth p.Rules.Pairs i).A = s) && decide ((nth p.Rules.Pairs i).B = x)) || (decide ((nth p.Rules.Pairs i).A = x) && decide ((nth p.Rules.Pairs i).B = s))) (fun i next hi => by cases ((decide ((nth p.Rules.Pairs i).A = s) && decide ((nth p.Rules.Pairs i).B = x)) || (decide ((nth p.Rules.Pairs i).A = x) && decide ((nth p.Rules.Pairs i).B = s))) <;> rfl),
      ze6 (fun i => (decide ((nth p.Rules.Loads i).To = s) && decide ((nth p.Rules.Loads i).From = x)) || (decide ((nth p.Rules.Loads i).To = x) && decide ((nth p.Rules.Loads i).From = s))) (fun i next hi => by cases ((decide ((nth p.Rules.Loads i).To = s) && decide ((nth p.Rules.Loads i).From = x)) || (decide ((nth p.Rules.Loads i).To = x) && decide ((nth p.Rules.Loads i).From = s))) <;> rfl), Bool.or_false]
    have anyR : ∀ {α : Type} [Inhabited α] (l : List α) (q : α → Bool), ((List.range l.length).any fun i => q (nth l i)) = l.any q := fun l q => by
      rw [Bool.eq_iff_iff, List.any_eq_true, List.any_eq_true]; constructor
      · rintro ⟨i, hi, h⟩; exact ⟨_, zcC (List.mem_range.1 hi), h⟩
      · rintro ⟨y, hy, h⟩; obtain ⟨i, hi, rfl⟩ := List.mem_iff_getElem.1 hy; exact ⟨i, List.mem_range.2 hi, by rw [za1 hi]; exact h⟩
    rw [anyR p.Rules.Pairs (fun c => (decide (c.A = s) && decide (c.B = x)) || (decide (c.A = x) && decide (c.B = s))), anyR p.Rules.Loads (fun c => (decide (c.To = s) && decide (c.From = x)) || (decide (c.To = x) && decide (c.From = s)))]
  rw [e, Bool.or_eq_true, List.any_eq_true, List.any_eq_true]; unfold zeV; rw [List.mem_append, List.mem_flatMap, List.mem_flatMap]
  have hp : ∀ c ∈ p.Rules.Pairs, c.A ≠ c.B := fun c hc e => by
    have := hg.p c hc; unfold zaD at this; have := of_decide_eq_true (zcx (zbY (zbY this))); omega
  have hq : ∀ c ∈ p.Rules.Loads, c.To ≠ c.From := fun c hc e => by
    have := hg.l c hc; unfold zaE at this; have := of_decide_eq_true (zcx (zbY (zbY this))); exact this e
  constructor
  · rintro (⟨c, hc, h⟩ | ⟨c, hc, h⟩)
    · exact .inl ⟨c, hc, (zfn (hp c hc)).2 h⟩
    · exact .inr ⟨c, hc, (zfn (hq c hc)).2 h⟩
  · rintro (⟨c, hc, h⟩ | ⟨c, hc, h⟩)
    · exact .inl ⟨c, hc, (zfn (hp c hc)).1 h⟩
    · exact .inr ⟨c, hc, (zfn (hq c hc)).1 h⟩
theorem zgS {p : GProblem} {s x : Int} (h : okP p = true) (hx : x ∈ zeV p s) : anyD p x = true := by
  have hp := zes h; (have h2 : zep p = true := by rw [zfs hp.r]; exact hp.l)
  have hm : ∀ {a b : Int}, anyD p a = true → anyD p b = true → x ∈ nb s a b → anyD p x = true := fun {a b} ha hb hx => by
    unfold nb at hx
    cases h1 : decide (s = a) <;> cases h3 : decide (s = b) <;> rw [h1, h3] at hx <;> simp at hx <;> subst hx <;> assumption
  unfold zeV at hx; rcases List.mem_append.1 hx with hx | hx
  · obtain ⟨c, hc, hx⟩ := List.mem_flatMap.1 hx; have := List.all_eq_true.1 (zbY h2) c hc; exact hm (zbY this) (zcx this) hx
  · obtain ⟨c, hc, hx⟩ := List.mem_flatMap.1 hx; have := List.all_eq_true.1 (zbY (zcx h2)) c hc; exact hm (zbY this) (zcx this) hx
theorem zdZ {p : GProblem} (h : okP p = true) (s : Int) : zbw p s = some (Lib.compact (isort (zeV p s))) := by
  have hp := zes h; have hl := hp.len; unfold zbw; simp only [zaH]
  rw [zgo (g := fun d : GDomain => bif za9 p s d.Station then [d.Station] else []) (fun d => by cases za9 p s d.Station <;> simp) (fun i next t hi hs => by
    rw [zbJ (by unfold room; simp at hs ⊢; omega)]
    cases za9 p s (nth p.Domains i).Station
    · rw [cond_false, cond_false, List.append_nil]
    · rfl), List.nil_append, zff]
  congr 1
  have hc := zei (zcZ (zeV p s)); refine zdC ?_ hc.1 fun x => ?_
  · exact (zee hp.i).sublist ((List.filter_sublist (l := p.Domains)).map _)
  · rw [hc.2, (zc4 (zeV p s)).mem_iff, List.mem_map]; constructor
    · rintro ⟨d, hd, rfl⟩; exact (zft h).1 (List.mem_filter.1 hd).2
    · intro hx; have h1 := zgS h hx; obtain ⟨d, hd, rfl⟩ := List.mem_map.1 (anyD_mem.1 h1); exact ⟨d, List.mem_filter.2 ⟨hd, (zft h).2 hx⟩, rfl⟩
theorem zeX {n : Nat} (h : 100000 ≤ n) (p : GProblem) (s : Int) : zbA n p s = some true := by
  unfold zbA; obtain ⟨a, ha⟩ := zgZ (p := p) (a := 60) (b := 60) (fuel := n) (by omega); simp only [zaH, ha, Option.bind_some, zf2 h, zfE]
  cases a
  · rfl
  cases hp : okP p
  · (have e1 : zbc p = some ([], 2) := by unfold zbc; rw [zdH, hp]; rfl); (have e2 : zbb p s = some ([], 2) := by unfold zbb; rw [zdH, hp]; rfl); (have e3 : zaP p s = some ([], 2) := by unfold zaP; rw [zdH, hp]; rfl); rw [e1, e2, e3]; rfl
  have hq := zes hp; have hl := hq.len; rw [zfD hp, zfC hp, zeQ hp, zeH hl, zdZ hp]; simp only [Option.bind_some, Bool.not_true, cond_false]; rw [zde rfl]; have hf := zen (p := p) (s := s); rcases zfX hq.d s with ⟨f1, f2⟩ | ⟨j, hj, f1, f2⟩
  · rw [f2, f1]; rw [f1] at hf
    have : anyD p s = false := by cases h9 : anyD p s with
      | false => rfl
      | true => rw [h9] at hf; simp at hf
    rw [this]; rfl
  · rw [f2, f1]; rw [f1] at hf
    have : anyD p s = true := by cases h9 : anyD p s with
      | true => rfl
      | false => rw [h9] at hf; simp at hf; omega
    rw [this]; simp only [Option.bind_some, cond_true]; simp only [not_true_eq_false, decide_false, decide_true, cond_true, cond_false, Bool.not_true]; rw [decide_eq_false (show ¬ (j : Int) < 0 by omega), cond_false]; rw [zbJ ⟨by omega, by omega⟩, show ((j : Int)).toNat = j by omega, zde rfl, zde rfl]
    rfl
end Go.Proofs.YtipomhejoajjdaaGreatDoor
namespace Go.Proofs.YtipomhejoajjdaaGreatDoor
open Go.RowKit Go.ChangeShapes Go.WideShapes Go.Deep
def Opens {H : Type} (enc : TypeId × Value → H) (w : World) (base : Nat) (spare : Nat → Bool) (held : Bool) (t : TypeId) {α : Type} (R : List Value → α → Prop) : Prop :=
  ∀ fuel cs y, DataW.trod enc Tryz.prog w base spare held fuel t cs = some y → ∃ x, R cs x
section
variable {H : Type} {enc : TypeId × Value → H} {w : World} {base : Nat} {spare : Nat → Bool} {held : Bool}
theorem Opens.int {t : TypeId} (ht : Tryz.prog.underlying t = some (.int .i64)) : Opens enc w base spare held t (fun cs (x : Int) => cs = [.int .i64 x]) := fun fuel cs y h => by
  obtain ⟨k, hk, _⟩ := DataW.trod_int ht h; exact ⟨k, hk⟩
theorem zgT {a : Addr} {v : Value} (h : w.cell? a = some v) : Cb w a.block := by
  unfold World.cell? at h
  split at h
  all_goals (first | exact ⟨_, _, _, by assumption⟩ | simp at h | skip)
theorem Opens.any {t e : TypeId} {k : Nat} {α : Type} [Inhabited α] {R : List Value → α → Prop} (ht : Tryz.prog.underlying t = some (.slice e)) (hk : Tryz.prog.cellsOf e = k) (hpos : 0 < k) (ho : Opens enc w base spare held e R) :
    Opens enc w base spare held t (fun cs (l : List α) => ∃ v c, cs = [v] ∧ SlC (Frz.all w) v k c ∧ c.length = l.length ∧ ∀ i, i < l.length → R (nth c i) (nth l i)) := fun fuel cs y h => by
  rcases open_slice ht h with ⟨h0, _⟩ | ⟨a, len, cap, m, n, D, Pl, hcs, hb, hl, hm, hmm, _, hx⟩
  · exact ⟨[], _, [], h0, SlC.nil _ _, rfl, fun i hi => absurd hi (Nat.not_lt_zero i)⟩
  · subst hcs; (have hlm : len ≤ m := by rw [hmm]; split <;> omega)
    have each : ∀ i, i < m → ∃ x : List Value × α, x.1.length = k ∧ R x.1 x.2 ∧ ∀ j, j < k → w.cell? (a.add (i * k + j)) = x.1[j]? := fun i hi => by
      obtain ⟨cs', h1, h2⟩ := hx i hi; rw [hk] at h1; obtain ⟨_, hlen, hcell⟩ := World.cells?_some h1; obtain ⟨x, hR⟩ := ho _ _ _ h2; exact ⟨(cs', x), hlen, hR, fun j hj => by rw [← hcell j hj, add_add]⟩
    obtain ⟨X, hX⟩ := choose_lt each
    have hn : ∀ i, i < len → nth ((List.range len).map fun i => (X i).1) i = (X i).1 := fun i hi => by
      rw [za1 (by simpa using hi)]; simp
    have hn2 : ∀ i, i < len → nth ((List.range len).map fun i => (X i).2) i = (X i).2 := fun i hi => by
      rw [za1 (by simpa using hi)]; simp
    refine ⟨(List.range len).map fun i => (X i).2, _, (List.range len).map fun i => (X i).1, rfl, ⟨some a, cap, by simp, by simpa using hl, by unfold maxLen at hm; omega, fun c hc => ?_, fun hp => ?_⟩, by simp, fun i hi => ?_⟩
    · simp at hc; obtain ⟨i, hi, rfl⟩ := hc; exact (hX i (by omega)).1
    · (have hp' : 0 < len := by simpa using hp); have c0 := (hX 0 (by omega)).2.2 0 hpos; have hx0 := (hX 0 (by omega)).1; rw [List.getElem?_eq_getElem (by omega)] at c0; have hcb := zgT c0; have hs := World.cell?_spot c0; simp [Addr.add] at hs hcb; obtain ⟨b, off, sp⟩ := a; simp at hs hcb; subst hs; refine ⟨b, off, rfl, hcb, fun i hi j hj => ?_⟩; simp at hi; rw [hn i hi] at hj ⊢; have hxi := hX i (by omega); have := hxi.2.2 j (by omega); refine Eq.trans ?_ this
      show w.cell? _ = _
      rw [zcG, Nat.add_assoc]
    · simp at hi; rw [hn i hi, hn2 i hi]; exact (hX i (by omega)).2.1
theorem Opens.slC {t e : TypeId} {k : Nat} {α : Type} [Inhabited α] {en : α → List Value} (ht : Tryz.prog.underlying t = some (.slice e)) (hk : Tryz.prog.cellsOf e = k) (hpos : 0 < k) (ho : Opens enc w base spare held e (fun cs (x : α) => cs = en x)) :
    Opens enc w base spare held t (fun cs (l : List α) => ∃ v, cs = [v] ∧ SlC (Frz.all w) v k (l.map en)) := fun fuel cs y h => by
  obtain ⟨l, v, c, h1, h2, h3, h4⟩ := Opens.any ht hk hpos ho _ _ _ h; refine ⟨l, v, h1, ?_⟩
  have : c = l.map en := by
    apply List.ext_getElem (by simpa using h3); intro i hi hi2; rw [← za1 hi, h4 i (by omega), List.getElem_map, za1 (by omega)]
  rw [← this]; exact h2
theorem Opens.slD {t e : TypeId} {k : Nat} {α : Type} [Inhabited α] {rep : Frz → List Value → α → Prop} (ht : Tryz.prog.underlying t = some (.slice e)) (hk : Tryz.prog.cellsOf e = k) (hpos : 0 < k) (ho : Opens enc w base spare held e (rep (Frz.all w))) :
    Opens enc w base spare held t (fun cs (l : List α) => ∃ v c, cs = [v] ∧ SlD rep (Frz.all w) v k c l) := fun fuel cs y h => by
  obtain ⟨l, v, c, h1, h2, h3, h4⟩ := Opens.any ht hk hpos ho _ _ _ h; exact ⟨l, v, c, h1, h2, h3, h4⟩
end
end Go.Proofs.YtipomhejoajjdaaGreatDoor
