/- Yr Ys Pc Pd Pk Pe Pl Of: shortened and put together by squeeze.py. -/
import Derived.Test.YtipomhejoajjdaaGreatQ06
import Derived.Deep.Slices
import Derived.ChangeArms
set_option maxRecDepth 100000
set_option maxHeartbeats 4000000
set_option linter.unusedVariables false
set_option linter.unusedSectionVars false
set_option linter.unusedSimpArgs false
namespace Go.Proofs.YtipomhejoajjdaaGreat
open Go.RowKit
def zaG  : GProblem :=
  (GProblem.mk [(GDomain.mk 1 [14, 15, 16]), (GDomain.mk 2 [14, 15]), (GDomain.mk 3 [15])] (GRules.mk [(GPair.mk 1 2 0 14 16), (GPair.mk 1 2 1 14 15)] [(GLoad.mk 3 2 5 14 51)] [(GCap.mk 3 4 14 51)]))
theorem zbX (F0 : Frz) (w : World) (hF0 : F0.At w)  : Calls Tryz.prog 36 #[] w fun e w' => ∃ (y : Value × List (List Value) × Value × Value × Value) (G : Frz), (SlD GDomain.rep G y.1 2 y.2.1 ((zaG).Domains) ∧ SlC G y.2.2.1 5 (((zaG).Rules.Pairs).map GPair.enc) ∧ SlC G y.2.2.2.1 5 (((zaG).Rules.Loads).map GLoad.enc) ∧ SlC G y.2.2.2.2 4 (((zaG).Rules.Caps).map GCap.enc)) ∧ e = .returned (.agg [y.1, y.2.2.1, y.2.2.2.1, y.2.2.2.2].toArray) ∧ Fx F0 w G w' := by
  obtain ⟨r, hk⟩ : ∃ r, zaG = r := ⟨_, rfl⟩; rw [hk]; unfold zaG at hk; obtain ⟨S0, F1, rfl, hS0, hp0⟩ := zak hF0; refine zao Tryz.func36 rfl rfl rfl hp0 ?_; refine T.sr ?_; refine TL.e (Ew.alloc rfl) ?_; rintro _ _ ⟨g0, rfl, rfl⟩; refine TL.nx ?_; refine TL.e (Ew.buildSlice rfl rfl rfl (by decide)) ?_; rintro _ _ ⟨g1, rfl, rfl⟩; refine TL.ay (fun w hw => hw.freezeR (i := 2) (j := 0) (by decide) rfl rfl) ?_; rintro F2 ⟨le1_2, hz2⟩; dsimp only [List.set, List.eraseIdx]; have hf2 : SlC F2.toFrz (.slice (some ⟨g1, 0, none⟩) 3 3) 1 ([14, 15, 16].map eI) := (SlK.lit hz2 rfl (Nat.le_refl _) (by decide)).toF (xs := [14, 15, 16]) rfl (fun _ => rfl); refine TL.y (Yv.build rfl rfl) ?_; refine TL.e (Ew.buildSlice rfl rfl rfl (by decide)) ?_; rintro _ _ ⟨g3, rfl, rfl⟩; refine TL.ay (fun w hw => hw.freezeR (i := 2) (j := 0) (by decide) rfl rfl) ?_; rintro F3 ⟨le2_3, hz3⟩; dsimp only [List.set, List.eraseIdx]; have le1_3 := le1_2.trans le2_3; have hf3 : SlC F3.toFrz (.slice (some ⟨g3, 0, none⟩) 2 2) 1 ([14, 15].map eI) := (SlK.lit hz3 rfl (Nat.le_refl _) (by decide)).toF (xs := [14, 15]) rfl (fun _ => rfl); refine TL.y (Yv.build rfl rfl) ?_; refine TL.e (Ew.buildSlice rfl rfl rfl (by decide)) ?_; rintro _ _ ⟨g5, rfl, rfl⟩; refine TL.ay (fun w hw => hw.freezeR (i := 2) (j := 0) (by decide) rfl rfl) ?_; rintro F4 ⟨le3_4, hz4⟩; dsimp only [List.set, List.eraseIdx]; have le1_4 := le1_3.trans le3_4; have le2_4 := le2_3.trans le3_4; have hf4 : SlC F4.toFrz (.slice (some ⟨g5, 0, none⟩) 1 1) 1 ([15].map eI) := (SlK.lit hz4 rfl (Nat.le_refl _) (by decide)).toF (xs := [15]) rfl (fun _ => rfl); refine TL.y (Yv.build rfl rfl) ?_; refine TL.e (Ew.buildSlice rfl rfl rfl (by decide)) ?_; rintro _ _ ⟨g7, rfl, rfl⟩; have hl7 : OwnD GDomain.rep F4.toFrz 2 [[.int .i64 1, (.slice (some ⟨g1, 0, none⟩) 3 3)], [.int .i64 2, (.slice (some ⟨g3, 0, none⟩) 2 2)], [.int .i64 3, (.slice (some ⟨g5, 0, none⟩) 1 1)]] [(GDomain.mk 1 [14, 15, 16]), (GDomain.mk 2 [14, 15]), (GDomain.mk 3 [15])] := (OwnD.snoc (OwnD.snoc (OwnD.snoc (OwnD.nil _ _ 2) ⟨_, rfl, (SlC.mono hf2 le2_4)⟩ rfl) ⟨_, rfl, (SlC.mono hf3 le3_4)⟩ rfl) ⟨_, rfl, hf4⟩ rfl); refine TL.y (Yv.build rfl rfl) ?_; refine TL.y (Yv.build rfl rfl) ?_; refine TL.e (Ew.buildSlice rfl rfl rfl (by decide)) ?_; rintro _ _ ⟨g10, rfl, rfl⟩; refine TL.y (Yv.build rfl rfl) ?_; refine TL.e (Ew.buildSlice rfl rfl rfl (by decide)) ?_; rintro _ _ ⟨g12, rfl, rfl⟩; refine TL.y (Yv.build rfl rfl) ?_; refine TL.e (Ew.buildSlice rfl rfl rfl (by decide)) ?_; rintro _ _ ⟨g14, rfl, rfl⟩; refine TL.y (Yv.build rfl rfl) ?_; refine TL.y (Yv.build rfl rfl) ?_; refine TL.e0 (Ew.ai 4 rfl rfl rfl rfl rfl rfl) ?_; rintro _ _ ⟨rfl, rfl⟩; refine TL.ns (T.ret ?_); refine K.ay (fun w hw => hw.freezeR (i := 5) (j := 3) (by decide) rfl rfl) ?_; rintro F5 ⟨le4_5, hz5⟩; dsimp only [List.set, List.eraseIdx]; have le1_5 := le1_4.trans le4_5; have hf5 : SlD GDomain.rep F5.toFrz (.slice (some ⟨g7, 0, none⟩) 3 3) 2 [[.int .i64 1, (.slice (some ⟨g1, 0, none⟩) 3 3)], [.int .i64 2, (.slice (some ⟨g3, 0, none⟩) 2 2)], [.int .i64 3, (.slice (some ⟨g5, 0, none⟩) 1 1)]] [(GDomain.mk 1 [14, 15, 16]), (GDomain.mk 2 [14, 15]), (GDomain.mk 3 [15])] := (SlK.lit hz5 rfl (Nat.le_refl _) (by decide)).toD (OwnD.mono (rep := GDomain.rep) (fun _ _ _ _ => GDomain.mono) hl7 le4_5) rfl; refine K.ay (fun w hw => hw.freezeR (i := 4) (j := 2) (by decide) rfl rfl) ?_; rintro F6 ⟨le5_6, hz6⟩; dsimp only [List.set, List.eraseIdx]; have le1_6 := le1_5.trans le5_6; have hf6 : SlC F6.toFrz (.slice (some ⟨g10, 0, none⟩) 2 2) 5 ([(GPair.mk 1 2 0 14 16), (GPair.mk 1 2 1 14 15)].map GPair.enc) := (SlK.lit hz6 rfl (Nat.le_refl _) (by decide)).toF (xs := [(GPair.mk 1 2 0 14 16), (GPair.mk 1 2 1 14 15)]) rfl GPair.len; refine K.ay (fun w hw => hw.freezeR (i := 3) (j := 1) (by decide) rfl rfl) ?_; rintro F7 ⟨le6_7, hz7⟩; dsimp only [List.set, List.eraseIdx]; have le1_7 := le1_6.trans le6_7; have le5_7 := le5_6.trans le6_7; have hf7 : SlC F7.toFrz (.slice (some ⟨g12, 0, none⟩) 1 1) 5 ([(GLoad.mk 3 2 5 14 51)].map GLoad.enc) := (SlK.lit hz7 rfl (Nat.le_refl _) (by decide)).toF (xs := [(GLoad.mk 3 2 5 14 51)]) rfl GLoad.len; refine K.ay (fun w hw => hw.freezeR (i := 2) (j := 0) (by decide) rfl rfl) ?_; rintro F8 ⟨le7_8, hz8⟩; dsimp only [List.set, List.eraseIdx]; have le1_8 := le1_7.trans le7_8; have le5_8 := le5_7.trans le7_8; have le6_8 := le6_7.trans le7_8; have hf8 : SlC F8.toFrz (.slice (some ⟨g14, 0, none⟩) 1 1) 4 ([(GCap.mk 3 4 14 51)].map GCap.enc) := (SlK.lit hz8 rfl (Nat.le_refl _) (by decide)).toF (xs := [(GCap.mk 3 4 14 51)]) rfl GCap.len; subst hk; exact K.aP 0 rfl rfl rfl rfl (fun w' hw => ⟨((.slice (some ⟨g7, 0, none⟩) 3 3), [[.int .i64 1, (.slice (some ⟨g1, 0, none⟩) 3 3)], [.int .i64 2, (.slice (some ⟨g3, 0, none⟩) 2 2)], [.int .i64 3, (.slice (some ⟨g5, 0, none⟩) 1 1)]], (.slice (some ⟨g10, 0, none⟩) 2 2), (.slice (some ⟨g12, 0, none⟩) 1 1), (.slice (some ⟨g14, 0, none⟩) 1 1)), F8.toFrz, ⟨(SlD.mono (rep := GDomain.rep) (fun _ _ _ _ => GDomain.mono) hf5 le5_8), (SlC.mono hf6 le6_8), (SlC.mono hf7 le7_8), hf8⟩, rfl, Fx.of hw (i := 1) rfl hS0 le1_8⟩)
def zaE (a : Int) (b : Int) (c : Int) : List GChoice :=
  [(GChoice.mk 1 a), (GChoice.mk 2 b), (GChoice.mk 3 c)]
theorem zb3 (F0 : Frz) (w : World) (hF0 : F0.At w) (a : Int) (b : Int) (c : Int) : Calls Tryz.prog 35 #[.int .i64 a, .int .i64 b, .int .i64 c] w fun e w' => ∃ (y : Value) (G : Frz), (SlC G y 2 ((zaE a b c).map GChoice.enc)) ∧ e = .returned (y) ∧ Fx F0 w G w' := by
  obtain ⟨r, hk⟩ : ∃ r, zaE a b c = r := ⟨_, rfl⟩; rw [hk]; unfold zaE at hk; obtain ⟨S0, F1, rfl, hS0, hp0⟩ := zak hF0; refine zao Tryz.func35 rfl rfl rfl hp0 ?_; refine T.sr ?_; refine TL.run 1 rfl ?_; refine TL.nx ?_; refine TL.run 1 rfl ?_; refine TL.y (Yv.build rfl rfl) ?_; refine TL.run 1 rfl ?_; refine TL.y (Yv.build rfl rfl) ?_; refine TL.run 1 rfl ?_; refine TL.y (Yv.build rfl rfl) ?_; refine TL.e (Ew.buildSlice rfl rfl rfl (by decide)) ?_; rintro _ _ ⟨g13, rfl, rfl⟩; refine TL.run 1 rfl ?_; refine TL.ns (T.ret ?_); refine K.ay (fun w hw => hw.freezeR (i := 1) (j := 0) (by decide) rfl rfl) ?_; rintro F2 ⟨le1_2, hz2⟩; dsimp only [List.set, List.eraseIdx]; have hf2 : SlC F2.toFrz (.slice (some ⟨g13, 0, none⟩) 3 3) 2 ([(GChoice.mk 1 a), (GChoice.mk 2 b), (GChoice.mk 3 c)].map GChoice.enc) := (SlK.lit hz2 rfl (Nat.le_refl _) (by decide)).toF (xs := [(GChoice.mk 1 a), (GChoice.mk 2 b), (GChoice.mk 3 c)]) rfl GChoice.len; subst hk; exact K.aj rfl rfl (fun w' hw => ⟨(.slice (some ⟨g13, 0, none⟩) 3 3), F2.toFrz, hf2, rfl, Fx.of hw (i := 0) rfl hS0 le1_2⟩)
def zbE (l : List GChoice) (kind : Int) (at_ : Int) : Option Bool :=
  (zcB (zaG) l).bind fun r12 =>
  some (((decide (r12.2 = 0)) && (decide (r12.1.Kind = kind))) && (decide (r12.1.At = at_)))
theorem zcb (F0 : Frz) (w : World) (hF0 : F0.At w) (l : List GChoice) (vl : Value) (hl : SlC F0 vl 2 (l.map GChoice.enc)) (kind : Int) (at_ : Int) (r : Bool) (hr : zbE l kind at_ = some r) : Calls Tryz.prog 34 #[vl, .int .i64 kind, .int .i64 at_] w fun e w' => e = .returned (.bool r) ∧ Below w.heap.size w w' := by
  have hk := hr; unfold zbE at hk; haveI := hl.oneC; obtain ⟨S0, F1, rfl, hS0, hp0⟩ := zak hF0; refine zao Tryz.func34 rfl rfl rfl hp0 ?_; refine T.sr ?_; refine TL.run 1 rfl ?_; refine TL.ns (T.seq ?_); have hq := zaf hk; clear hk; obtain ⟨r12, hr12, hk⟩ := hq; (try dsimp only at hk); refine T.region ?_; refine TL.e (Ew.ax 0 rfl rfl rfl rfl (fun w hw hF => zbX _ w hF )) ?_; rintro _ _ ⟨⟨v10_0_0, cs10_0_0, v10_0_1, v10_0_2, v10_0_3⟩, F2, le1_2, ⟨hf10_0_0, hf10_0_1, hf10_0_2, hf10_0_3⟩, rfl, rfl⟩; dsimp only at hf10_0_0 hf10_0_1 hf10_0_2 hf10_0_3 ⊢; haveI := hf10_0_0.1.oneC; haveI := hf10_0_1.oneC; haveI := hf10_0_2.oneC; haveI := hf10_0_3.oneC; refine TL.run 1 rfl ?_; refine TL.e (Ew.ae rfl rfl rfl (fun w hw => zeo _ w (hw.fr (i := 0) rfl) (zaG) v10_0_0 cs10_0_0 hf10_0_0 v10_0_1 hf10_0_1 v10_0_2 hf10_0_2 v10_0_3 hf10_0_3 l vl (SlC.mono hl le1_2) r12 hr12)) ?_; rintro _ _ ⟨rfl, rfl⟩; refine TL.run 3 rfl ?_; refine TL.e (Ew.alloc rfl) ?_; rintro _ _ ⟨g7, rfl, rfl⟩; refine TL.e0 (Ew.ai 0 rfl rfl rfl rfl rfl rfl) ?_; rintro _ _ ⟨rfl, rfl⟩; refine TL.run 1 rfl ?_; refine TL.ns (T.seq ?_); refine T.ah (ι := Unit) (fun z => [(6, .bool (((decide (r12.2 = 0)) && (decide (r12.1.Kind = kind))) && (decide (r12.1.At = at_))))]) (fun z => [.row g7 35 [.int .i64 r12.1.Kind, .int .i64 r12.1.At], .fr F2]) (fun z => True) ?_ ?_
  · refine T.region ?_; refine TL.run 3 rfl ?_; refine TL.gs rfl rfl rfl (fun h1 => ?_) (fun h1 => ?_)
    · have p1 := of_decide_eq_true h1; refine TL.y (Yv.fieldAddr rfl rfl) ?_; refine TL.y (Yv.aa 0 rfl rfl rfl rfl) ?_; refine TL.run 4 rfl ?_; refine TL.gs rfl rfl rfl (fun h2 => ?_) (fun h2 => ?_)
      · have p2 := of_decide_eq_true h2; refine TL.y (Yv.fieldAddr rfl rfl) ?_; refine TL.y (Yv.aa 0 rfl rfl rfl rfl) ?_; refine TL.run 4 rfl ?_; refine TL.nil ?_; exact K.ag () trivial (.b (zcE (zaF h1 h2)) .nil) (List.Sublist.refl _)
      · have p2 := of_decide_eq_false h2; refine TL.run 6 rfl ?_; refine TL.nil ?_; exact K.ag () trivial (.b (zat (zaF h1 h2)).symm .nil) (List.Sublist.refl _)
    · have p1 := of_decide_eq_false h1; refine TL.run 12 rfl ?_; refine TL.nil ?_; exact K.ag () trivial (.b (zat (zat h1)).symm .nil) (List.Sublist.refl _)
  · rintro _ _; refine T.ret ?_; obtain rfl := Option.some.inj hk; exact K.aj rfl rfl (fun w' hw => ⟨rfl, hw.isBelow⟩)
def zb5 (fuel : Nat)  : Option Bool :=
  (zbE (zaE 14 14 15) 3 0).bind fun r11 =>
  zaI (fun (x_1 : Bool) =>
    (bif x_1 then
      some false
      else
      grd (0 ≤ 2 ∧ 2 ≤ ((zaE 15 14 15).length : Int)) <|
      (zbJ (zaG) ((zaE 15 14 15).take 2)).bind fun r38 =>
      (zbJ (zaG) [(GChoice.mk 3 16)]).bind fun r45 =>
      (zbJ (zaG) [(GChoice.mk 4 15)]).bind fun r52 =>
      (bif ((((((((decide (¬ r38.2 = 0)) || (decide (¬ r45.2 = 0))) || (decide (¬ r52.2 = 0))) || (decide (¬ r38.1.Kind = 0))) || (decide (¬ r45.1.Kind = 1))) || (decide (¬ r45.1.At = 2))) || (decide (¬ r52.1.Kind = 2))) || (decide (¬ r52.1.At = 0))) then
        some false
        else
        (zb7 (zaG) 2).bind fun r92 =>
        (zbn (zaG) [1, 3]).bind fun r98 =>
        (zcw fuel (GProblem.mk [(GDomain.mk 0 [2, 3])] (GRules.mk [] [] []))).bind fun r106 =>
        some (((((((((decide (r92.2 = 0)) && (decide (r98.2 = 0))) && (decide (r106.2 = 0))) && (zaZ r92.1 [1, 3])) && (decide ((r98.1.Domains.length : Int) = 2))) && (decide ((r98.1.Rules.Pairs.length : Int) = 0))) && (decide ((r98.1.Rules.Loads.length : Int) = 0))) && (decide ((r98.1.Rules.Caps.length : Int) = 1))) && ((u8s r106.1) == ([1, 0, 3, 0, 0, 0] : List UInt8))))))
  (fun k2 =>
    (bif !r11 then
      k2 true
      else
      (zbE (zaE 14 15 15) 3 1).bind fun r15 =>
      (bif !r15 then
        k2 true
        else
        (zbE (zaE 15 14 15) 0 0).bind fun r20 =>
        (bif !r20 then
          k2 true
          else
          (zbE (zaE 16 15 15) 4 0).bind fun r25 =>
          (bif !r25 then
            k2 true
            else
            grd (0 ≤ 2 ∧ 2 ≤ ((zaE 15 14 15).length : Int)) <|
            (zbE ((zaE 15 14 15).take 2) 1 2).bind fun r31 =>
            k2 (!r31))))))
theorem zcU (F0 : Frz) (w : World) (hF0 : F0.At w)  (fuel : Nat) (r : Bool) (hr : zb5 fuel = some r) : Calls Tryz.prog 10 #[] w fun e w' => e = .returned (.bool r) ∧ Below w.heap.size w w' := by
  have hk := hr; unfold zb5 at hk; obtain ⟨S0, F1, rfl, hS0, hp0⟩ := zak hF0; refine zao Tryz.func10 rfl rfl rfl hp0 ?_; refine T.sr ?_; refine TL.run 1 rfl ?_; refine TL.ns (T.seq (T.seq ?_)); have hq := zaf hk; clear hk; obtain ⟨r11, hr11, hk⟩ := hq; (try dsimp only at hk); have hq := zae hk; clear hk; obtain ⟨k2, hk2, hk⟩ := hq; (try dsimp only at hk); refine T.ah (ι := Bool × FzB w (fun _ => False) S0) (fun z => [(33, .bool z.1)]) (fun z => [.fr z.2]) (fun z => k2 z.1 = some r ∧ F1.toFrz.Le z.2.toFrz) ?_ ?_
  · refine T.region ?_; refine TL.e (Ew.ax 0 rfl rfl rfl rfl (fun w hw hF => zb3 _ w hF 14 14 15)) ?_; rintro _ _ ⟨v10_0_0, F3, le1_3, hf10_0_0, hq, rfl⟩; obtain rfl := hq.symm; haveI := hf10_0_0.oneC; refine TL.e (Ew.ae rfl rfl rfl (fun w hw => zcb _ w (hw.fr (i := 0) rfl) (zaE 14 14 15) v10_0_0 hf10_0_0 3 0 r11 hr11)) ?_; rintro _ _ ⟨rfl, rfl⟩; refine TL.run 2 rfl ?_; refine TL.gs rfl rfl rfl (fun h3 => ?_) (fun h3 => ?_)
    · replace hk := zaa hk h3; refine TL.run 20 rfl ?_; refine TL.nil ?_; exact K.ag (true, F3) ⟨hk, le1_3⟩ (.c .nil) (List.Sublist.refl _)
    · replace hk := zab hk h3; refine TL.e (Ew.ax 0 rfl rfl rfl rfl (fun w hw hF => zb3 _ w hF 14 15 15)) ?_; rintro _ _ ⟨v14_0_0, F4, le3_4, hf14_0_0, hq, rfl⟩; obtain rfl := hq.symm; have le1_4 := le1_3.trans le3_4; haveI := hf14_0_0.oneC; have hq := zaf hk; clear hk; obtain ⟨r15, hr15, hk⟩ := hq; refine TL.e (Ew.ae rfl rfl rfl (fun w hw => zcb _ w (hw.fr (i := 0) rfl) (zaE 14 15 15) v14_0_0 hf14_0_0 3 1 r15 hr15)) ?_; rintro _ _ ⟨rfl, rfl⟩; refine TL.run 3 rfl ?_; refine TL.gs rfl rfl rfl (fun h4 => ?_) (fun h4 => ?_)
      · replace hk := zaa hk h4; refine TL.run 15 rfl ?_; refine TL.nil ?_; exact K.ag (true, F4) ⟨hk, le1_4⟩ (.c .nil) (List.Sublist.refl _)
      · replace hk := zab hk h4; refine TL.e (Ew.ax 0 rfl rfl rfl rfl (fun w hw hF => zb3 _ w hF 15 14 15)) ?_; rintro _ _ ⟨v19_0_0, F5, le4_5, hf19_0_0, hq, rfl⟩; obtain rfl := hq.symm; have le1_5 := le1_4.trans le4_5; haveI := hf19_0_0.oneC; have hq := zaf hk; clear hk; obtain ⟨r20, hr20, hk⟩ := hq; refine TL.e (Ew.ae rfl rfl rfl (fun w hw => zcb _ w (hw.fr (i := 0) rfl) (zaE 15 14 15) v19_0_0 hf19_0_0 0 0 r20 hr20)) ?_; rintro _ _ ⟨rfl, rfl⟩; refine TL.run 3 rfl ?_; refine TL.gs rfl rfl rfl (fun h5 => ?_) (fun h5 => ?_)
        · replace hk := zaa hk h5; refine TL.run 10 rfl ?_; refine TL.nil ?_; exact K.ag (true, F5) ⟨hk, le1_5⟩ (.c .nil) (List.Sublist.refl _)
        · replace hk := zab hk h5; refine TL.e (Ew.ax 0 rfl rfl rfl rfl (fun w hw hF => zb3 _ w hF 16 15 15)) ?_; rintro _ _ ⟨v24_0_0, F6, le5_6, hf24_0_0, hq, rfl⟩; obtain rfl := hq.symm; have le1_6 := le1_5.trans le5_6; haveI := hf24_0_0.oneC; have hq := zaf hk; clear hk; obtain ⟨r25, hr25, hk⟩ := hq; refine TL.e (Ew.ae rfl rfl rfl (fun w hw => zcb _ w (hw.fr (i := 0) rfl) (zaE 16 15 15) v24_0_0 hf24_0_0 4 0 r25 hr25)) ?_; rintro _ _ ⟨rfl, rfl⟩; refine TL.run 3 rfl ?_; refine TL.gs rfl rfl rfl (fun h6 => ?_) (fun h6 => ?_)
          · replace hk := zaa hk h6; refine TL.run 5 rfl ?_; refine TL.nil ?_; exact K.ag (true, F6) ⟨hk, le1_6⟩ (.c .nil) (List.Sublist.refl _)
          · replace hk := zab hk h6; refine TL.e (Ew.ax 0 rfl rfl rfl rfl (fun w hw hF => zb3 _ w hF 15 14 15)) ?_; rintro _ _ ⟨v29_0_0, F7, le6_7, hf29_0_0, hq, rfl⟩; obtain rfl := hq.symm; have le1_7 := le1_6.trans le6_7; haveI := hf29_0_0.oneC; have hq : (0 ≤ 2 ∧ 2 ≤ ((zaE 15 14 15).length : Int)) ∧ _ := zaB hk; clear hk; obtain ⟨g30h, hk⟩ := hq; refine TL.y (Yv.bt (i := 2) rfl rfl rfl hf29_0_0 (List.length_map _) (show (2 : Int) = ((2 : Nat) : Int) from rfl) (by omega)) ?_; have hs30_ : SlC F7.toFrz (zdn v29_0_0 0 2 2) 2 (((zaE 15 14 15).take 2).map GChoice.enc) := hf29_0_0.sliceh (i := 2) (by omega); haveI := hs30_.oneC; have hq := zaf hk; clear hk; obtain ⟨r31, hr31, hk⟩ := hq; refine TL.e (Ew.ae rfl rfl rfl (fun w hw => zcb _ w (hw.fr (i := 0) rfl) ((zaE 15 14 15).take 2) (zdn v29_0_0 0 2 2) hs30_ 1 2 r31 hr31)) ?_; rintro _ _ ⟨rfl, rfl⟩; refine TL.run 2 rfl ?_; refine TL.nil ?_; exact K.ag (!r31, F7) ⟨hk, le1_7⟩ (.c .nil) (List.Sublist.refl _)
  · rintro ⟨x_1, F2⟩ ⟨hk, le1_2⟩; (try dsimp only at *); rw [← hk2] at hk; (try dsimp only at hk); refine T.cond rfl (fun h7 => ?_) (fun h7 => ?_)
    · replace hk := zaa hk h7; refine T.sr ?_; refine TL.run 1 rfl ?_; refine TL.ns (T.ret (K.a ?_)); obtain rfl := Option.some.inj hk; exact K.aj rfl rfl (fun w' hw => ⟨rfl, hw.isBelow⟩)
    · replace hk := zab hk h7; refine T.skip (K.seq (T.seq ?_)); have hq : (0 ≤ 2 ∧ 2 ≤ ((zaE 15 14 15).length : Int)) ∧ _ := zaB hk; clear hk; obtain ⟨g37h, hk⟩ := hq; have hq := zaf hk; clear hk; obtain ⟨r38, hr38, hk⟩ := hq; (try dsimp only at hk); refine T.region ?_; refine TL.e (Ew.ax 0 rfl rfl rfl rfl (fun w hw hF => zbX _ w hF )) ?_; rintro _ _ ⟨⟨v35_0_0, cs35_0_0, v35_0_1, v35_0_2, v35_0_3⟩, F8, le2_8, ⟨hf35_0_0, hf35_0_1, hf35_0_2, hf35_0_3⟩, rfl, rfl⟩; dsimp only at hf35_0_0 hf35_0_1 hf35_0_2 hf35_0_3 ⊢; haveI := hf35_0_0.1.oneC; haveI := hf35_0_1.oneC; haveI := hf35_0_2.oneC; haveI := hf35_0_3.oneC; refine TL.e (Ew.ax 0 rfl rfl rfl rfl (fun w hw hF => zb3 _ w hF 15 14 15)) ?_; rintro _ _ ⟨v36_0_0, F9, le8_9, hf36_0_0, hq, rfl⟩; obtain rfl := hq.symm; haveI := hf36_0_0.oneC; refine TL.y (Yv.bt (i := 2) rfl rfl rfl hf36_0_0 (List.length_map _) (show (2 : Int) = ((2 : Nat) : Int) from rfl) (by omega)) ?_; have hs37_ : SlC F9.toFrz (zdn v36_0_0 0 2 2) 2 (((zaE 15 14 15).take 2).map GChoice.enc) := hf36_0_0.sliceh (i := 2) (by omega); haveI := hs37_.oneC; refine TL.e (Ew.ae rfl rfl rfl (fun w hw => zcq _ w (hw.fr (i := 0) rfl) (zaG) v35_0_0 cs35_0_0 (SlD.mono (rep := GDomain.rep) (fun _ _ _ _ => GDomain.mono) hf35_0_0 le8_9) v35_0_1 (SlC.mono hf35_0_1 le8_9) v35_0_2 (SlC.mono hf35_0_2 le8_9) v35_0_3 (SlC.mono hf35_0_3 le8_9) ((zaE 15 14 15).take 2) (zdn v36_0_0 0 2 2) hs37_ r38 hr38)) ?_; rintro _ _ ⟨rfl, rfl⟩; refine TL.run 3 rfl ?_; refine TL.e (Ew.alloc rfl) ?_; rintro _ _ ⟨g1, rfl, rfl⟩; refine TL.e0 (Ew.ai 0 rfl rfl rfl rfl rfl rfl) ?_; rintro _ _ ⟨rfl, rfl⟩; refine TL.run 1 rfl ?_; refine TL.ns (T.seq ?_); have hq := zaf hk; clear hk; obtain ⟨r45, hr45, hk⟩ := hq; (try dsimp only at hk); refine T.region ?_; refine TL.e (Ew.ax 1 rfl rfl rfl rfl (fun w hw hF => zbX _ w hF )) ?_; rintro _ _ ⟨⟨v42_0_0, cs42_0_0, v42_0_1, v42_0_2, v42_0_3⟩, F10, le9_10, ⟨hf42_0_0, hf42_0_1, hf42_0_2, hf42_0_3⟩, rfl, rfl⟩; dsimp only at hf42_0_0 hf42_0_1 hf42_0_2 hf42_0_3 ⊢; haveI := hf42_0_0.1.oneC; haveI := hf42_0_1.oneC; haveI := hf42_0_2.oneC; haveI := hf42_0_3.oneC; refine TL.y (Yv.build rfl rfl) ?_; refine TL.e (Ew.buildSlice rfl rfl rfl (by decide)) ?_; rintro _ _ ⟨g44, rfl, rfl⟩; refine TL.ay (fun w hw => hw.freezeR (i := 2) (j := 0) (by decide) rfl rfl) ?_; rintro F11 ⟨le10_11, hz11⟩; dsimp only [List.set, List.eraseIdx]; have hf11 : SlC F11.toFrz (.slice (some ⟨g44, 0, none⟩) 1 1) 2 ([(GChoice.mk 3 16)].map GChoice.enc) := (SlK.lit hz11 rfl (Nat.le_refl _) (by decide)).toF (xs := [(GChoice.mk 3 16)]) rfl GChoice.len; refine TL.e (Ew.ae rfl rfl rfl (fun w hw => zcq _ w (hw.fr (i := 1) rfl) (zaG) v42_0_0 cs42_0_0 (SlD.mono (rep := GDomain.rep) (fun _ _ _ _ => GDomain.mono) hf42_0_0 le10_11) v42_0_1 (SlC.mono hf42_0_1 le10_11) v42_0_2 (SlC.mono hf42_0_2 le10_11) v42_0_3 (SlC.mono hf42_0_3 le10_11) [(GChoice.mk 3 16)] (.slice (some ⟨g44, 0, none⟩) 1 1) hf11 r45 hr45)) ?_; rintro _ _ ⟨rfl, rfl⟩; refine TL.run 3 rfl ?_; refine TL.e (Ew.alloc rfl) ?_; rintro _ _ ⟨g3, rfl, rfl⟩; refine TL.e0 (Ew.ai 0 rfl rfl rfl rfl rfl rfl) ?_; rintro _ _ ⟨rfl, rfl⟩; refine TL.run 1 rfl ?_; refine TL.ns (T.seq ?_); have hq := zaf hk; clear hk; obtain ⟨r52, hr52, hk⟩ := hq; (try dsimp only at hk); refine T.region ?_; refine TL.e (Ew.ax 2 rfl rfl rfl rfl (fun w hw hF => zbX _ w hF )) ?_; rintro _ _ ⟨⟨v49_0_0, cs49_0_0, v49_0_1, v49_0_2, v49_0_3⟩, F12, le11_12, ⟨hf49_0_0, hf49_0_1, hf49_0_2, hf49_0_3⟩, rfl, rfl⟩; dsimp only at hf49_0_0 hf49_0_1 hf49_0_2 hf49_0_3 ⊢; haveI := hf49_0_0.1.oneC; haveI := hf49_0_1.oneC; haveI := hf49_0_2.oneC; haveI := hf49_0_3.oneC; refine TL.y (Yv.build rfl rfl) ?_; refine TL.e (Ew.buildSlice rfl rfl rfl (by decide)) ?_; rintro _ _ ⟨g51, rfl, rfl⟩; refine TL.ay (fun w hw => hw.freezeR (i := 3) (j := 0) (by decide) rfl rfl) ?_
      rintro F13 ⟨le12_13, hz13⟩; dsimp only [List.set, List.eraseIdx]; have hf13 : SlC F13.toFrz (.slice (some ⟨g51, 0, none⟩) 1 1) 2 ([(GChoice.mk 4 15)].map GChoice.enc) := (SlK.lit hz13 rfl (Nat.le_refl _) (by decide)).toF (xs := [(GChoice.mk 4 15)]) rfl GChoice.len; refine TL.e (Ew.ae rfl rfl rfl (fun w hw => zcq _ w (hw.fr (i := 2) rfl) (zaG) v49_0_0 cs49_0_0 (SlD.mono (rep := GDomain.rep) (fun _ _ _ _ => GDomain.mono) hf49_0_0 le12_13) v49_0_1 (SlC.mono hf49_0_1 le12_13) v49_0_2 (SlC.mono hf49_0_2 le12_13) v49_0_3 (SlC.mono hf49_0_3 le12_13) [(GChoice.mk 4 15)] (.slice (some ⟨g51, 0, none⟩) 1 1) hf13 r52 hr52)) ?_; rintro _ _ ⟨rfl, rfl⟩; refine TL.run 3 rfl ?_; refine TL.e (Ew.alloc rfl) ?_; rintro _ _ ⟨g5, rfl, rfl⟩; refine TL.e0 (Ew.ai 0 rfl rfl rfl rfl rfl rfl) ?_; rintro _ _ ⟨rfl, rfl⟩; refine TL.run 1 rfl ?_; refine TL.ns (T.seq (T.seq ?_)); refine T.ah (ι := Unit) (fun z => [(89, .bool ((((((((decide (¬ r38.2 = 0)) || (decide (¬ r45.2 = 0))) || (decide (¬ r52.2 = 0))) || (decide (¬ r38.1.Kind = 0))) || (decide (¬ r45.1.Kind = 1))) || (decide (¬ r45.1.At = 2))) || (decide (¬ r52.1.Kind = 2))) || (decide (¬ r52.1.At = 0))))]) (fun z => [.row g5 35 [.int .i64 r52.1.Kind, .int .i64 r52.1.At], .row g3 35 [.int .i64 r45.1.Kind, .int .i64 r45.1.At], .row g1 35 [.int .i64 r38.1.Kind, .int .i64 r38.1.At], .fr F13]) (fun z => True) ?_ ?_
      · refine T.region ?_; refine TL.run 3 rfl ?_; refine TL.gs rfl rfl rfl (fun h8 => ?_) (fun h8 => ?_)
        · have p8 := of_decide_eq_true h8; refine TL.run 32 rfl ?_; refine TL.nil ?_; exact K.ag () trivial (.b (zbb (zbb (zbb (zbb (zbb (zbb (zbb h8))))))).symm .nil) (List.Sublist.refl _)
        · have p8 := of_decide_eq_false h8; refine TL.run 4 rfl ?_; refine TL.gs rfl rfl rfl (fun h9 => ?_) (fun h9 => ?_)
          · have p9 := of_decide_eq_true h9; refine TL.run 28 rfl ?_; refine TL.nil ?_; exact K.ag () trivial (.b (zbb (zbb (zbb (zbb (zbb (zbb (zbv h8 h9))))))).symm .nil) (List.Sublist.refl _)
          · have p9 := of_decide_eq_false h9; refine TL.run 4 rfl ?_; refine TL.gs rfl rfl rfl (fun h10 => ?_) (fun h10 => ?_)
            · have p10 := of_decide_eq_true h10; refine TL.run 24 rfl ?_; refine TL.nil ?_; exact K.ag () trivial (.b (zbb (zbb (zbb (zbb (zbb (zbv (zbv h8 h9) h10)))))).symm .nil) (List.Sublist.refl _)
            · have p10 := of_decide_eq_false h10; refine TL.y (Yv.fieldAddr rfl rfl) ?_; refine TL.y (Yv.aa 2 rfl rfl rfl rfl) ?_; refine TL.run 3 rfl ?_; refine TL.gs rfl rfl rfl (fun h11 => ?_) (fun h11 => ?_)
              · have p11 := of_decide_eq_true h11; refine TL.run 19 rfl ?_; refine TL.nil ?_; exact K.ag () trivial (.b (zbb (zbb (zbb (zbb (zbv (zbv (zbv h8 h9) h10) h11))))).symm .nil) (List.Sublist.refl _)
              · have p11 := of_decide_eq_false h11; refine TL.y (Yv.fieldAddr rfl rfl) ?_; refine TL.y (Yv.aa 1 rfl rfl rfl rfl) ?_; refine TL.run 3 rfl ?_; refine TL.gs rfl rfl rfl (fun h12 => ?_) (fun h12 => ?_)
                · have p12 := of_decide_eq_true h12; refine TL.run 14 rfl ?_; refine TL.nil ?_; exact K.ag () trivial (.b (zbb (zbb (zbb (zbv (zbv (zbv (zbv h8 h9) h10) h11) h12)))).symm .nil) (List.Sublist.refl _)
                · have p12 := of_decide_eq_false h12; refine TL.y (Yv.fieldAddr rfl rfl) ?_; refine TL.y (Yv.aa 1 rfl rfl rfl rfl) ?_; refine TL.run 3 rfl ?_; refine TL.gs rfl rfl rfl (fun h13 => ?_) (fun h13 => ?_)
                  · have p13 := of_decide_eq_true h13; refine TL.run 9 rfl ?_; refine TL.nil ?_; exact K.ag () trivial (.b (zbb (zbb (zbv (zbv (zbv (zbv (zbv h8 h9) h10) h11) h12) h13))).symm .nil) (List.Sublist.refl _)
                  · have p13 := of_decide_eq_false h13; refine TL.y (Yv.fieldAddr rfl rfl) ?_; refine TL.y (Yv.aa 0 rfl rfl rfl rfl) ?_; refine TL.run 3 rfl ?_; refine TL.gs rfl rfl rfl (fun h14 => ?_) (fun h14 => ?_)
                    · have p14 := of_decide_eq_true h14; refine TL.run 4 rfl ?_; refine TL.nil ?_; exact K.ag () trivial (.b (zbb (zbv (zbv (zbv (zbv (zbv (zbv h8 h9) h10) h11) h12) h13) h14)).symm .nil) (List.Sublist.refl _)
                    · have p14 := of_decide_eq_false h14; refine TL.y (Yv.fieldAddr rfl rfl) ?_; refine TL.y (Yv.aa 0 rfl rfl rfl rfl) ?_; refine TL.run 2 rfl ?_; refine TL.nil ?_; exact K.ag () trivial (.b (or_f (zbv (zbv (zbv (zbv (zbv (zbv h8 h9) h10) h11) h12) h13) h14)) .nil) (List.Sublist.refl _)
      · rintro _ _; refine T.cond rfl (fun h15 => ?_) (fun h15 => ?_)
        · replace hk := zaa hk h15; refine T.sr ?_; refine TL.run 1 rfl ?_; refine TL.ns (T.ret (K.a ?_)); obtain rfl := Option.some.inj hk; exact K.aj rfl rfl (fun w' hw => ⟨rfl, hw.isBelow⟩)
        · have p15 := h15; (try simp only [nfB] at p15); replace hk := zab hk h15; refine T.skip (K.seq (T.seq ?_)); have hq := zaf hk; clear hk; obtain ⟨r92, hr92, hk⟩ := hq; (try dsimp only at hk); refine T.region ?_; refine TL.e (Ew.ax 3 rfl rfl rfl rfl (fun w hw hF => zbX _ w hF )) ?_; rintro _ _ ⟨⟨v91_0_0, cs91_0_0, v91_0_1, v91_0_2, v91_0_3⟩, F14, le13_14, ⟨hf91_0_0, hf91_0_1, hf91_0_2, hf91_0_3⟩, rfl, rfl⟩; dsimp only at hf91_0_0 hf91_0_1 hf91_0_2 hf91_0_3 ⊢; haveI := hf91_0_0.1.oneC; haveI := hf91_0_1.oneC; haveI := hf91_0_2.oneC; haveI := hf91_0_3.oneC; refine TL.e (Ew.ax 3 rfl rfl rfl rfl (fun w hw hF => zdl _ w hF (zaG) v91_0_0 cs91_0_0 hf91_0_0 v91_0_1 hf91_0_1 v91_0_2 hf91_0_2 v91_0_3 hf91_0_3 2 r92 hr92)) ?_; rintro _ _ ⟨v92_0_0, F15, le14_15, hf92_0_0, rfl, rfl⟩; haveI := hf92_0_0.oneC; refine TL.run 5 rfl ?_; refine TL.ns (T.seq ?_); have hq := zaf hk; clear hk; obtain ⟨r98, hr98, hk⟩ := hq; (try dsimp only at hk); refine T.region ?_; refine TL.e (Ew.ax 3 rfl rfl rfl rfl (fun w hw hF => zbX _ w hF )) ?_; rintro _ _ ⟨⟨v96_0_0, cs96_0_0, v96_0_1, v96_0_2, v96_0_3⟩, F16, le15_16, ⟨hf96_0_0, hf96_0_1, hf96_0_2, hf96_0_3⟩, rfl, rfl⟩; dsimp only at hf96_0_0 hf96_0_1 hf96_0_2 hf96_0_3 ⊢; haveI := hf96_0_0.1.oneC; haveI := hf96_0_1.oneC; haveI := hf96_0_2.oneC; haveI := hf96_0_3.oneC; refine TL.e (Ew.buildSlice rfl rfl rfl (by decide)) ?_; rintro _ _ ⟨g97, rfl, rfl⟩; refine TL.ay (fun w hw => hw.freezeR (i := 4) (j := 0) (by decide) rfl rfl) ?_; rintro F17 ⟨le16_17, hz17⟩; dsimp only [List.set, List.eraseIdx]; have le15_17 := le15_16.trans le16_17; have hf17 : SlC F17.toFrz (.slice (some ⟨g97, 0, none⟩) 2 2) 1 ([1, 3].map eI) := (SlK.lit hz17 rfl (Nat.le_refl _) (by decide)).toF (xs := [1, 3]) rfl (fun _ => rfl); refine TL.e (Ew.ax 3 rfl rfl rfl rfl (fun w hw hF => zcH _ w hF (zaG) v96_0_0 cs96_0_0 (SlD.mono (rep := GDomain.rep) (fun _ _ _ _ => GDomain.mono) hf96_0_0 le16_17) v96_0_1 (SlC.mono hf96_0_1 le16_17) v96_0_2 (SlC.mono hf96_0_2 le16_17) v96_0_3 (SlC.mono hf96_0_3 le16_17) [1, 3] (.slice (some ⟨g97, 0, none⟩) 2 2) hf17 r98 hr98)) ?_; rintro _ _ ⟨⟨v98_0_0, cs98_0_0, v98_0_1, v98_0_2, v98_0_3⟩, F18, le17_18, ⟨hf98_0_0, hf98_0_1, hf98_0_2, hf98_0_3⟩, rfl, rfl⟩; dsimp only at hf98_0_0 hf98_0_1 hf98_0_2 hf98_0_3 ⊢; have le15_18 := le15_17.trans le17_18; haveI := hf98_0_0.1.oneC; haveI := hf98_0_1.oneC; haveI := hf98_0_2.oneC; haveI := hf98_0_3.oneC; refine TL.run 3 rfl ?_; refine TL.e (Ew.alloc rfl) ?_; rintro _ _ ⟨g8, rfl, rfl⟩; refine TL.e0 (Ew.ai 0 rfl rfl rfl rfl rfl rfl) ?_; rintro _ _ ⟨rfl, rfl⟩; refine TL.run 1 rfl ?_; refine TL.ns (T.seq ?_); have hq := zaf hk; clear hk; obtain ⟨r106, hr106, hk⟩ := hq; (try dsimp only at hk); refine T.region ?_; refine TL.e (Ew.buildSlice rfl rfl rfl (by decide)) ?_; rintro _ _ ⟨g102, rfl, rfl⟩; refine TL.ay (fun w hw => hw.freezeR (i := 5) (j := 0) (by decide) rfl rfl) ?_; rintro F19 ⟨le18_19, hz19⟩; dsimp only [List.set, List.eraseIdx]; have le15_19 := le15_18.trans le18_19; have hf19 : SlC F19.toFrz (.slice (some ⟨g102, 0, none⟩) 2 2) 1 ([2, 3].map eI) := (SlK.lit hz19 rfl (Nat.le_refl _) (by decide)).toF (xs := [2, 3]) rfl (fun _ => rfl); refine TL.y (Yv.build rfl rfl) ?_; refine TL.e (Ew.buildSlice rfl rfl rfl (by decide)) ?_; rintro _ _ ⟨g104, rfl, rfl⟩; have hl104 : OwnD GDomain.rep F19.toFrz 2 [[.int .i64 0, (.slice (some ⟨g102, 0, none⟩) 2 2)]] [(GDomain.mk 0 [2, 3])] := (OwnD.snoc (OwnD.nil _ _ 2) ⟨_, rfl, hf19⟩ rfl); refine TL.ay (fun w hw => hw.freezeR (i := 5) (j := 0) (by decide) rfl rfl) ?_; rintro F20 ⟨le19_20, hz20⟩; dsimp only [List.set, List.eraseIdx]; have le15_20 := le15_19.trans le19_20; have le18_20 := le18_19.trans le19_20; have hf20 : SlD GDomain.rep F20.toFrz (.slice (some ⟨g104, 0, none⟩) 1 1) 2 [[.int .i64 0, (.slice (some ⟨g102, 0, none⟩) 2 2)]] [(GDomain.mk 0 [2, 3])] := (SlK.lit hz20 rfl (Nat.le_refl _) (by decide)).toD (OwnD.mono (rep := GDomain.rep) (fun _ _ _ _ => GDomain.mono) hl104 le19_20) rfl; refine TL.y (Yv.build rfl rfl) ?_; refine TL.e (Ew.ax 4 rfl rfl rfl rfl (fun w hw hF => zdZ _ w hF (GProblem.mk [(GDomain.mk 0 [2, 3])] (GRules.mk [] [] [])) (.slice (some ⟨g104, 0, none⟩) 1 1) [[.int .i64 0, (.slice (some ⟨g102, 0, none⟩) 2 2)]] hf20 (.slice none 0 0) (SlC.nil _ 5) (.slice none 0 0) (SlC.nil _ 5) (.slice none 0 0) (SlC.nil _ 4) fuel r106 hr106)) ?_; rintro _ _ ⟨v106_0_0, F21, le20_21, hf106_0_0, rfl, rfl⟩; have le15_21 := le15_20.trans le20_21; have le18_21 := le18_20.trans le20_21; haveI := hf106_0_0.oneC; refine TL.run 5 rfl ?_; refine TL.ns (T.seq ?_); refine T.ah (ι := FzB w (fun _ => False) S0) (fun z => [(0, .bool (((((((((decide (r92.2 = 0)) && (decide (r98.2 = 0))) && (decide (r106.2 = 0))) && (zaZ r92.1 [1, 3])) && (decide ((r98.1.Domains.length : Int) = 2))) && (decide ((r98.1.Rules.Pairs.length : Int) = 0))) && (decide ((r98.1.Rules.Loads.length : Int) = 0))) && (decide ((r98.1.Rules.Caps.length : Int) = 1))) && ((u8s r106.1) == ([1, 0, 3, 0, 0, 0] : List UInt8))))]) (fun z => [.row g8 29 [v98_0_0, v98_0_1, v98_0_2, v98_0_3], .row g5 35 [.int .i64 r52.1.Kind, .int .i64 r52.1.At], .row g3 35 [.int .i64 r45.1.Kind, .int .i64 r45.1.At], .row g1 35 [.int .i64 r38.1.Kind, .int .i64 r38.1.At], .fr z]) (fun z => F21.toFrz.Le z.toFrz) ?_ ?_
          · refine T.region ?_; refine TL.run 3 rfl ?_; refine TL.gs rfl rfl rfl (fun h16 => ?_) (fun h16 => ?_)
            · have p16 := of_decide_eq_true h16; refine TL.run 4 rfl ?_; refine TL.gs rfl rfl rfl (fun h17 => ?_) (fun h17 => ?_)
              · have p17 := of_decide_eq_true h17; refine TL.run 4 rfl ?_; refine TL.gs rfl rfl rfl (fun h18 => ?_) (fun h18 => ?_)
                · have p18 := of_decide_eq_true h18; refine TL.run 1 rfl ?_; refine TL.e (Ew.buildSlice rfl rfl rfl (by decide)) ?_; rintro _ _ ⟨g121, rfl, rfl⟩; refine TL.ay (fun w hw => hw.freezeR (i := 5) (j := 0) (by decide) rfl rfl) ?_; rintro F23 ⟨le21_23, hz23⟩; dsimp only [List.set, List.eraseIdx]; have le15_23 := le15_21.trans le21_23; have le18_23 := le18_21.trans le21_23; have hf23 : SlC F23.toFrz (.slice (some ⟨g121, 0, none⟩) 2 2) 1 ([1, 3].map eI) := (SlK.lit hz23 rfl (Nat.le_refl _) (by decide)).toF (xs := [1, 3]) rfl (fun _ => rfl); refine TL.e (Ew.ae rfl rfl rfl (fun w hw => zcx _ w (hw.fr (i := 4) rfl) r92.1 v92_0_0 (SlC.mono hf92_0_0 le15_23) [1, 3] (.slice (some ⟨g121, 0, none⟩) 2 2) hf23)) ?_; rintro _ _ ⟨rfl, rfl⟩; refine TL.run 2 rfl ?_; refine TL.gs rfl rfl rfl (fun h19 => ?_) (fun h19 => ?_)
                  · refine TL.y (Yv.fieldAddr rfl rfl) ?_; refine TL.y (Yv.aa 0 rfl rfl rfl rfl) ?_; refine TL.y (Yv.al rfl rfl (SlD.mono (rep := GDomain.rep) (fun _ _ _ _ => GDomain.mono) hf98_0_0 le18_23).1 (SlD.mono (rep := GDomain.rep) (fun _ _ _ _ => GDomain.mono) hf98_0_0 le18_23).2.1) ?_; have hm127 : r98.1.Domains.length ≤ 9223372036854775807 := (SlD.mono (rep := GDomain.rep) (fun _ _ _ _ => GDomain.mono) hf98_0_0 le18_23).2.1 ▸ (SlD.mono (rep := GDomain.rep) (fun _ _ _ _ => GDomain.mono) hf98_0_0 le18_23).1.max; refine TL.run 3 rfl ?_; refine TL.gs rfl rfl rfl (fun h20 => ?_) (fun h20 => ?_)
                    · have p20 := of_decide_eq_true h20; refine TL.y (Yv.fieldAddr rfl rfl) ?_; refine TL.y (Yv.fieldAddr rfl rfl) ?_; refine TL.y (Yv.aa 0 rfl rfl rfl rfl) ?_; refine TL.y (Yv.al rfl rfl (SlC.mono hf98_0_1 le18_23) (List.length_map _)) ?_; have hm134 : r98.1.Rules.Pairs.length ≤ 9223372036854775807 := (List.length_map _) ▸ (SlC.mono hf98_0_1 le18_23).max; refine TL.run 3 rfl ?_; refine TL.gs rfl rfl rfl (fun h21 => ?_) (fun h21 => ?_)
                      · have p21 := of_decide_eq_true h21; refine TL.y (Yv.fieldAddr rfl rfl) ?_; refine TL.y (Yv.fieldAddr rfl rfl) ?_; refine TL.y (Yv.aa 0 rfl rfl rfl rfl) ?_; refine TL.y (Yv.al rfl rfl (SlC.mono hf98_0_2 le18_23) (List.length_map _)) ?_; have hm141 : r98.1.Rules.Loads.length ≤ 9223372036854775807 := (List.length_map _) ▸ (SlC.mono hf98_0_2 le18_23).max; refine TL.run 3 rfl ?_; refine TL.gs rfl rfl rfl (fun h22 => ?_) (fun h22 => ?_)
                        · have p22 := of_decide_eq_true h22; refine TL.y (Yv.fieldAddr rfl rfl) ?_; refine TL.y (Yv.fieldAddr rfl rfl) ?_; refine TL.y (Yv.aa 0 rfl rfl rfl rfl) ?_; refine TL.y (Yv.al rfl rfl (SlC.mono hf98_0_3 le18_23) (List.length_map _)) ?_; have hm148 : r98.1.Rules.Caps.length ≤ 9223372036854775807 := (List.length_map _) ▸ (SlC.mono hf98_0_3 le18_23).max; refine TL.run 3 rfl ?_; refine TL.gs rfl rfl rfl (fun h23 => ?_) (fun h23 => ?_)
                          · have p23 := of_decide_eq_true h23; refine TL.run 1 rfl ?_; refine TL.y (Yv.bN 4 (e := 5) (by kernel_rfl) (by kernel_rfl) (by kernel_rfl) rfl rfl rfl (SlC.mono hf106_0_0 le21_23)) ?_; refine TL.y (Yv.bD (a := (u8s r106.1)) (b := ([1, 0, 3, 0, 0, 0] : List UInt8)) rfl rfl rfl) ?_; refine TL.run 2 rfl ?_; refine TL.nil ?_; exact K.ag F23 le21_23 (.b (zcE (zaF (zaF (zaF (zaF (zaF (zaF (zaF h16 h17) h18) h19) h20) h21) h22) h23)) .nil) (List.Sublist.refl _)
                          · have p23 := of_decide_eq_false h23; refine TL.run 5 rfl ?_; refine TL.nil ?_; exact K.ag F23 le21_23 (.b (zat (zaF (zaF (zaF (zaF (zaF (zaF (zaF h16 h17) h18) h19) h20) h21) h22) h23)).symm .nil) (List.Sublist.refl _)
                        · have p22 := of_decide_eq_false h22; refine TL.run 12 rfl ?_; refine TL.nil ?_; exact K.ag F23 le21_23 (.b (zat (zat (zaF (zaF (zaF (zaF (zaF (zaF h16 h17) h18) h19) h20) h21) h22))).symm .nil) (List.Sublist.refl _)
                      · have p21 := of_decide_eq_false h21; refine TL.run 19 rfl ?_; refine TL.nil ?_; exact K.ag F23 le21_23 (.b (zat (zat (zat (zaF (zaF (zaF (zaF (zaF h16 h17) h18) h19) h20) h21)))).symm .nil) (List.Sublist.refl _)
                    · have p20 := of_decide_eq_false h20; refine TL.run 26 rfl ?_; refine TL.nil ?_; exact K.ag F23 le21_23 (.b (zat (zat (zat (zat (zaF (zaF (zaF (zaF h16 h17) h18) h19) h20))))).symm .nil) (List.Sublist.refl _)
                  · refine TL.run 32 rfl ?_; refine TL.nil ?_; exact K.ag F23 le21_23 (.b (zat (zat (zat (zat (zat (zaF (zaF (zaF h16 h17) h18) h19)))))).symm .nil) (List.Sublist.refl _)
                · have p18 := of_decide_eq_false h18; refine TL.run 37 rfl ?_; refine TL.nil ?_; exact K.ag F21 (Frz.Le.refl _) (.b (zat (zat (zat (zat (zat (zat (zaF (zaF h16 h17) h18))))))).symm .nil) (List.Sublist.refl _)
              · have p17 := of_decide_eq_false h17; refine TL.run 41 rfl ?_; refine TL.nil ?_; exact K.ag F21 (Frz.Le.refl _) (.b (zat (zat (zat (zat (zat (zat (zat (zaF h16 h17)))))))).symm .nil) (List.Sublist.refl _)
            · have p16 := of_decide_eq_false h16; refine TL.run 45 rfl ?_; refine TL.nil ?_; exact K.ag F21 (Frz.Le.refl _) (.b (zat (zat (zat (zat (zat (zat (zat (zat h16)))))))).symm .nil) (List.Sublist.refl _)
          · rintro F22 le21_22; (try dsimp only at *); refine T.ret ?_; obtain rfl := Option.some.inj hk; exact K.aj rfl rfl (fun w' hw => ⟨rfl, hw.isBelow⟩)
def zbl (fuel : Nat) (p : GProblem) (l : List GChoice) (stations : List Int) : Option Bool :=
  zaI (fun (x_1 : Bool) =>
    (bif x_1 then
      (zb5 fuel).bind fun r27 =>
      some r27
      else
      grd (room ([] ++ stations).length 8) <|
      (zbn p ([] ++ stations)).bind fun r33 =>
      (zcc l ([] ++ stations)).bind fun r39 =>
      (bif !(zaZ ([] ++ stations) stations) then
        some false
        else
        (zbU p stations).bind fun r49 =>
        (bif ((decide (¬ r33.2 = r49.2)) || (!(zb1 r33.1 r49.1))) then
          some false
          else
          (bif ((!(zbz l)) || (!(zaU stations))) then
            zaI (fun (x_11 : Bool) =>
              some x_11)
            (fun k12 =>
              (bif decide ((r39.1.length : Int) = 0) then
                (bif decide (r39.2 = 2) then
                  (zb5 fuel).bind fun r77 =>
                  k12 r77
                  else
                  k12 false)
                else
                k12 false))
            else
            zaI (fun (x_15 : Bool) =>
              some x_15)
            (fun k16 =>
              (bif decide (r39.2 = 0) then
                (zcG l stations).bind fun r85 =>
                (bif (zbW r39.1 r85) then
                  (zb5 fuel).bind fun r89 =>
                  k16 r89
                  else
                  k16 false)
                else
                k16 false)))))))
  (fun k2 =>
    (bif decide (70 < (l.length : Int)) then
      k2 true
      else
      (bif decide (70 < (stations.length : Int)) then
        k2 true
        else
        (zck fuel p 60 60).bind fun r24 =>
        k2 (!r24))))
theorem zcJ (F0 : Frz) (w : World) (hF0 : F0.At w) (p : GProblem) (vp_0 : Value) (cp_0 : List (List Value)) (hp_0 : SlD GDomain.rep F0 vp_0 2 cp_0 p.Domains) (vp_1 : Value) (hp_1 : SlC F0 vp_1 5 (p.Rules.Pairs.map GPair.enc)) (vp_2 : Value) (hp_2 : SlC F0 vp_2 5 (p.Rules.Loads.map GLoad.enc)) (vp_3 : Value) (hp_3 : SlC F0 vp_3 4 (p.Rules.Caps.map GCap.enc)) (l : List GChoice) (vl : Value) (hl : SlC F0 vl 2 (l.map GChoice.enc)) (stations : List Int) (vstations : Value) (hstations : SlC F0 vstations 1 (stations.map eI)) (fuel : Nat) (r : Bool) (hr : zbl fuel p l stations = some r) : Calls Tryz.prog 4 #[.agg [vp_0, vp_1, vp_2, vp_3].toArray, vl, vstations] w fun e w' => e = .returned (.bool r) ∧ Below w.heap.size w w' := by
  have hk := hr; unfold zbl at hk; haveI := hp_0.1.oneC; haveI := hp_1.oneC; haveI := hp_2.oneC; haveI := hp_3.oneC; haveI := hl.oneC; haveI := hstations.oneC; obtain ⟨S0, F1, rfl, hS0, hp0⟩ := zak hF0; refine zao Tryz.func4 rfl rfl rfl hp0 ?_; refine T.sr ?_; refine TL.e (Ew.aw rfl rfl) ?_; rintro _ _ ⟨g3, rfl, rfl⟩; refine TL.run 1 rfl ?_; refine TL.ns (T.seq (T.seq ?_)); (try dsimp only at hk); have hq := zae hk; clear hk; obtain ⟨k2, hk2, hk⟩ := hq; (try dsimp only at hk); refine T.ah (ι := Bool) (fun z => [(1, vl), (2, vstations), (3, .pointer (some ⟨g3, 0, none⟩)), (26, .bool z)]) (fun z => [.row g3 29 [vp_0, vp_1, vp_2, vp_3], .fr F1]) (fun z => k2 z = some r) ?_ ?_
  · refine T.region ?_; refine TL.run 1 rfl ?_; refine TL.y (Yv.al rfl rfl hl (List.length_map _)) ?_; have hm15 : l.length ≤ 9223372036854775807 := (List.length_map _) ▸ hl.max; refine TL.run 2 rfl ?_; refine TL.gs rfl rfl rfl (fun h3 => ?_) (fun h3 => ?_)
    · have p3 := of_decide_eq_true h3; replace hk := zaa hk h3; refine TL.run 9 rfl ?_; refine TL.nil ?_; exact K.ag true hk (.c (.c (.c (.c .nil)))) (List.Sublist.refl _)
    · have p3 := of_decide_eq_false h3; replace hk := zab hk h3; refine TL.run 1 rfl ?_; refine TL.y (Yv.al rfl rfl hstations (List.length_map _)) ?_; have hm19 : stations.length ≤ 9223372036854775807 := (List.length_map _) ▸ hstations.max; refine TL.run 3 rfl ?_; refine TL.gs rfl rfl rfl (fun h4 => ?_) (fun h4 => ?_)
      · have p4 := of_decide_eq_true h4; replace hk := zaa hk h4; refine TL.run 4 rfl ?_; refine TL.nil ?_; exact K.ag true hk (.c (.c (.c (.c .nil)))) (List.Sublist.refl _)
      · have p4 := of_decide_eq_false h4; replace hk := zab hk h4; refine TL.y (Yv.am 0 rfl rfl rfl rfl) ?_; have hq := zaf hk; clear hk; obtain ⟨r24, hr24, hk⟩ := hq; refine TL.e (Ew.ae rfl rfl rfl (fun w hw => zeL _ w (hw.fr (i := 1) rfl) p vp_0 cp_0 hp_0 vp_1 hp_1 vp_2 hp_2 vp_3 hp_3 60 60 fuel r24 hr24)) ?_; rintro _ _ ⟨rfl, rfl⟩; refine TL.run 2 rfl ?_; refine TL.nil ?_; exact K.ag (!r24) hk (.c (.c (.c (.c .nil)))) (List.Sublist.refl _)
  · rintro x_1 hk; rw [← hk2] at hk; (try dsimp only at hk); refine T.cond rfl (fun h5 => ?_) (fun h5 => ?_)
    · replace hk := zaa hk h5; refine T.seq ?_; have hq := zaf hk; clear hk; obtain ⟨r27, hr27, hk⟩ := hq; (try dsimp only at hk); refine T.region ?_; refine TL.e (Ew.ae rfl rfl rfl (fun w hw => zcU _ w (hw.fr (i := 1) rfl)  fuel r27 hr27)) ?_; rintro _ _ ⟨rfl, rfl⟩; refine TL.run 1 rfl ?_; refine TL.ns (T.ret (K.a ?_)); obtain rfl := Option.some.inj hk; exact K.aj rfl rfl (fun w' hw => ⟨rfl, hw.isBelow⟩)
    · replace hk := zab hk h5; refine T.skip (K.seq (T.seq ?_)); have hq : (room ([] ++ stations).length 8) ∧ _ := zaB hk; clear hk; obtain ⟨g29, hk⟩ := hq; (try dsimp only at hk); refine T.region ?_; refine TL.run 1 rfl ?_; refine TL.slNil 3 1 ?_; refine TL.e (Ew.aX 0 2 (zfQ (fun _ => inferInstance)) rfl rfl rfl rfl rfl hstations (zf7 (xs := ([] : List Int))) (zfK (xs := ([] : List Int))) g29 (by decide)) ?_; rintro v29 _ ⟨hv29, rfl⟩; refine TL.run 1 rfl ?_; refine TL.ns (T.seq ?_); refine T.ay (fun w hw => hw.freezeS (i := 2) (j := 0) (by decide) rfl rfl) ?_; rintro F2 ⟨le1_2, hz2⟩; dsimp only [List.set, List.eraseIdx]; have hf2 := hz2.toF rfl (fun _ => rfl); haveI := hf2.oneC; have hq := zaf hk; clear hk; obtain ⟨r33, hr33, hk⟩ := hq; (try dsimp only at hk); refine T.region ?_; refine TL.y (Yv.am 0 rfl rfl rfl rfl) ?_; refine TL.run 1 rfl ?_; refine TL.e (Ew.ax 1 rfl rfl rfl rfl (fun w hw hF => zcH _ w hF p vp_0 cp_0 (SlD.mono (rep := GDomain.rep) (fun _ _ _ _ => GDomain.mono) hp_0 le1_2) vp_1 (SlC.mono hp_1 le1_2) vp_2 (SlC.mono hp_2 le1_2) vp_3 (SlC.mono hp_3 le1_2) ([] ++ stations) v29 hf2 r33 hr33)) ?_; rintro _ _ ⟨⟨v33_0_0, cs33_0_0, v33_0_1, v33_0_2, v33_0_3⟩, F3, le2_3, ⟨hf33_0_0, hf33_0_1, hf33_0_2, hf33_0_3⟩, rfl, rfl⟩; dsimp only at hf33_0_0 hf33_0_1 hf33_0_2 hf33_0_3 ⊢; have le1_3 := le1_2.trans le2_3; haveI := hf33_0_0.1.oneC; haveI := hf33_0_1.oneC; haveI := hf33_0_2.oneC; haveI := hf33_0_3.oneC; refine TL.run 3 rfl ?_; refine TL.e (Ew.alloc rfl) ?_; rintro _ _ ⟨g8, rfl, rfl⟩; refine TL.e0 (Ew.ai 0 rfl rfl rfl rfl rfl rfl) ?_; rintro _ _ ⟨rfl, rfl⟩; refine TL.run 1 rfl ?_; refine TL.ns (T.seq ?_); have hq := zaf hk; clear hk; obtain ⟨r39, hr39, hk⟩ := hq; (try dsimp only at hk); refine T.region ?_; refine TL.run 2 rfl ?_; refine TL.e (Ew.ax 2 rfl rfl rfl rfl (fun w hw hF => zew _ w hF l vl (SlC.mono hl le1_3) ([] ++ stations) v29 (SlC.mono hf2 le2_3) r39 hr39)) ?_; rintro _ _ ⟨v39_0_0, F4, le3_4, hf39_0_0, rfl, rfl⟩; have le1_4 := le1_3.trans le3_4; have le2_4 := le2_3.trans le3_4; haveI := hf39_0_0.oneC; refine TL.run 5 rfl ?_; refine TL.ns (T.seq (T.sr ?_)); refine TL.run 2 rfl ?_; refine TL.e (Ew.ae rfl rfl rfl (fun w hw => zcx _ w (hw.fr (i := 2) rfl) ([] ++ stations) v29 (SlC.mono hf2 le2_4) stations vstations (SlC.mono hstations le1_4))) ?_; rintro _ _ ⟨rfl, rfl⟩; refine TL.run 1 rfl ?_; refine TL.ns ?_; refine T.cond rfl (fun h6 => ?_) (fun h6 => ?_)
      · replace hk := zaa hk h6; refine T.sr ?_; refine TL.run 1 rfl ?_; refine TL.ns (T.ret (K.a ?_)); obtain rfl := Option.some.inj hk; exact K.aj rfl rfl (fun w' hw => ⟨rfl, hw.isBelow⟩)
      · replace hk := zab hk h6; refine T.skip (K.seq (T.seq ?_)); have hq := zaf hk; clear hk; obtain ⟨r49, hr49, hk⟩ := hq; (try dsimp only at hk); refine T.region ?_; refine TL.y (Yv.am 1 rfl rfl rfl rfl) ?_; refine TL.run 1 rfl ?_; refine TL.e (Ew.ax 2 rfl rfl rfl rfl (fun w hw hF => zdX _ w hF p vp_0 cp_0 (SlD.mono (rep := GDomain.rep) (fun _ _ _ _ => GDomain.mono) hp_0 le1_4) vp_1 (SlC.mono hp_1 le1_4) vp_2 (SlC.mono hp_2 le1_4) vp_3 (SlC.mono hp_3 le1_4) stations vstations (SlC.mono hstations le1_4) r49 hr49)) ?_; rintro _ _ ⟨⟨v49_0_0, cs49_0_0, v49_0_1, v49_0_2, v49_0_3⟩, F5, le4_5, ⟨hf49_0_0, hf49_0_1, hf49_0_2, hf49_0_3⟩, rfl, rfl⟩; dsimp only at hf49_0_0 hf49_0_1 hf49_0_2 hf49_0_3 ⊢; have le1_5 := le1_4.trans le4_5; have le3_5 := le3_4.trans le4_5; haveI := hf49_0_0.1.oneC; haveI := hf49_0_1.oneC; haveI := hf49_0_2.oneC; haveI := hf49_0_3.oneC; refine TL.run 3 rfl ?_; refine TL.e (Ew.alloc rfl) ?_; rintro _ _ ⟨g12, rfl, rfl⟩; refine TL.e0 (Ew.ai 0 rfl rfl rfl rfl rfl rfl) ?_; rintro _ _ ⟨rfl, rfl⟩; refine TL.run 1 rfl ?_; refine TL.ns (T.seq (T.seq ?_)); refine T.ah (ι := Unit) (fun z => [(1, vl), (2, vstations), (10, v39_0_0), (11, .int .i64 r39.2), (60, .bool ((decide (¬ r33.2 = r49.2)) || (!(zb1 r33.1 r49.1))))]) (fun z => [.row g12 29 [v49_0_0, v49_0_1, v49_0_2, v49_0_3], .row g8 29 [v33_0_0, v33_0_1, v33_0_2, v33_0_3], .row g3 29 [vp_0, vp_1, vp_2, vp_3], .fr F5]) (fun z => True) ?_ ?_
        · refine T.region ?_; refine TL.run 4 rfl ?_; refine TL.gs rfl rfl rfl (fun h7 => ?_) (fun h7 => ?_)
          · have p7 := of_decide_eq_true h7; refine TL.run 5 rfl ?_; refine TL.nil ?_; exact K.ag () trivial (.c (.c (.c (.c (.b (zbb h7).symm .nil))))) (List.Sublist.refl _)
          · have p7 := of_decide_eq_false h7; refine TL.y (Yv.am 1 rfl rfl rfl rfl) ?_; refine TL.y (Yv.am 0 rfl rfl rfl rfl) ?_; refine TL.e (Ew.ae rfl rfl rfl (fun w hw => zeX _ w (hw.fr (i := 3) rfl) r33.1 v33_0_0 cs33_0_0 (SlD.mono (rep := GDomain.rep) (fun _ _ _ _ => GDomain.mono) hf33_0_0 le3_5) v33_0_1 (SlC.mono hf33_0_1 le3_5) v33_0_2 (SlC.mono hf33_0_2 le3_5) v33_0_3 (SlC.mono hf33_0_3 le3_5) r49.1 v49_0_0 cs49_0_0 hf49_0_0 v49_0_1 hf49_0_1 v49_0_2 hf49_0_2 v49_0_3 hf49_0_3)) ?_; rintro _ _ ⟨rfl, rfl⟩; refine TL.run 2 rfl ?_; refine TL.nil ?_; exact K.ag () trivial (.c (.c (.c (.c (.b (or_f h7) .nil))))) (List.Sublist.refl _)
        · rintro _ _; refine T.cond rfl (fun h8 => ?_) (fun h8 => ?_)
          · replace hk := zaa hk h8; refine T.sr ?_; refine TL.run 1 rfl ?_; refine TL.ns (T.ret (K.a ?_)); obtain rfl := Option.some.inj hk; exact K.aj rfl rfl (fun w' hw => ⟨rfl, hw.isBelow⟩)
          · have p8 := h8; (try simp only [nfB] at p8); replace hk := zab hk h8; refine T.skip (K.seq (T.seq (T.seq ?_))); refine T.ah (ι := Unit) (fun z => [(1, vl), (2, vstations), (10, v39_0_0), (11, .int .i64 r39.2), (68, .bool ((!(zbz l)) || (!(zaU stations))))]) (fun z => [.row g12 29 [v49_0_0, v49_0_1, v49_0_2, v49_0_3], .row g8 29 [v33_0_0, v33_0_1, v33_0_2, v33_0_3], .row g3 29 [vp_0, vp_1, vp_2, vp_3], .fr F5]) (fun z => True) ?_ ?_
            · refine T.region ?_; refine TL.run 1 rfl ?_; refine TL.e (Ew.ae rfl rfl rfl (fun w hw => zdK _ w (hw.fr (i := 3) rfl) l vl (SlC.mono hl le1_5))) ?_; rintro _ _ ⟨rfl, rfl⟩; refine TL.run 2 rfl ?_; refine TL.gs rfl rfl rfl (fun h9 => ?_) (fun h9 => ?_)
              · refine TL.run 4 rfl ?_; refine TL.nil ?_; exact K.ag () trivial (.c (.c (.c (.c (.b (zbb h9).symm .nil))))) (List.Sublist.refl _)
              · refine TL.run 1 rfl ?_; refine TL.e (Ew.ae rfl rfl rfl (fun w hw => zcs _ w (hw.fr (i := 3) rfl) stations vstations (SlC.mono hstations le1_5))) ?_; rintro _ _ ⟨rfl, rfl⟩; refine TL.run 2 rfl ?_; refine TL.nil ?_; exact K.ag () trivial (.c (.c (.c (.c (.b (or_f h9) .nil))))) (List.Sublist.refl _)
            · rintro _ _; refine T.cond rfl (fun h10 => ?_) (fun h10 => ?_)
              · replace hk := zaa hk h10; refine T.seq ?_; (try dsimp only at hk); have hq := zae hk; clear hk; obtain ⟨k12, hk12, hk⟩ := hq; (try dsimp only at hk); refine T.ah (ι := Bool) (fun z => [(6, .bool z)]) (fun z => [.fr F5]) (fun z => k12 z = some r) ?_ ?_
                · refine T.region ?_; refine TL.run 1 rfl ?_; refine TL.y (Yv.al rfl rfl (SlC.mono hf39_0_0 le4_5) (List.length_map _)) ?_; have hm70 : r39.1.length ≤ 9223372036854775807 := (List.length_map _) ▸ (SlC.mono hf39_0_0 le4_5).max; refine TL.run 2 rfl ?_; refine TL.gs rfl rfl rfl (fun h13 => ?_) (fun h13 => ?_)
                  · have p13 := of_decide_eq_true h13; replace hk := zaa hk h13; refine TL.run 4 rfl ?_; refine TL.gs rfl rfl rfl (fun h14 => ?_) (fun h14 => ?_)
                    · have p14 := of_decide_eq_true h14; replace hk := zaa hk h14; have hq := zaf hk; clear hk; obtain ⟨r77, hr77, hk⟩ := hq; refine TL.e (Ew.ae rfl rfl rfl (fun w hw => zcU _ w (hw.fr (i := 3) rfl)  fuel r77 hr77)) ?_; rintro _ _ ⟨rfl, rfl⟩; refine TL.run 2 rfl ?_; refine TL.nil ?_; refine K.pick [3] rfl (by decide) ?_; exact K.ag r77 hk (.c .nil) (List.Sublist.refl _)
                    · have p14 := of_decide_eq_false h14; replace hk := zab hk h14; refine TL.run 3 rfl ?_; refine TL.nil ?_; refine K.pick [3] rfl (by decide) ?_; exact K.ag false hk (.c .nil) (List.Sublist.refl _)
                  · have p13 := of_decide_eq_false h13; replace hk := zab hk h13; refine TL.run 7 rfl ?_; refine TL.nil ?_; refine K.pick [3] rfl (by decide) ?_; exact K.ag false hk (.c .nil) (List.Sublist.refl _)
                · rintro x_11 hk; rw [← hk12] at hk; (try dsimp only at hk); refine T.ret (K.a ?_); obtain rfl := Option.some.inj hk; exact K.aj rfl rfl (fun w' hw => ⟨rfl, hw.isBelow⟩)
              · replace hk := zab hk h10; refine T.skip (K.seq (T.seq ?_)); (try dsimp only at hk); have hq := zae hk; clear hk; obtain ⟨k16, hk16, hk⟩ := hq; (try dsimp only at hk); refine T.ah (ι := Bool × FzB w (fun _ => False) S0) (fun z => [(6, .bool z.1)]) (fun z => [.fr z.2]) (fun z => k16 z.1 = some r ∧ F5.toFrz.Le z.2.toFrz) ?_ ?_
                · refine T.region ?_; refine TL.run 3 rfl ?_; refine TL.gs rfl rfl rfl (fun h17 => ?_) (fun h17 => ?_)
                  · have p17 := of_decide_eq_true h17; replace hk := zaa hk h17; refine TL.run 3 rfl ?_; have hq := zaf hk; clear hk; obtain ⟨r85, hr85, hk⟩ := hq; refine TL.e (Ew.ax 3 rfl rfl rfl rfl (fun w hw hF => zeW _ w hF l vl (SlC.mono hl le1_5) stations vstations (SlC.mono hstations le1_5) r85 hr85)) ?_; rintro _ _ ⟨v85_0_0, F7, le5_7, hf85_0_0, hq, rfl⟩; obtain rfl := hq.symm; have le4_7 := le4_5.trans le5_7; haveI := hf85_0_0.oneC; refine TL.e (Ew.ae rfl rfl rfl (fun w hw => zd0 _ w (hw.fr (i := 3) rfl) r39.1 v39_0_0 (SlC.mono hf39_0_0 le4_7) r85 v85_0_0 hf85_0_0)) ?_; rintro _ _ ⟨rfl, rfl⟩; refine TL.run 2 rfl ?_; refine TL.gs rfl rfl rfl (fun h18 => ?_) (fun h18 => ?_)
                    · replace hk := zaa hk h18; have hq := zaf hk; clear hk; obtain ⟨r89, hr89, hk⟩ := hq; refine TL.e (Ew.ae rfl rfl rfl (fun w hw => zcU _ w (hw.fr (i := 3) rfl)  fuel r89 hr89)) ?_; rintro _ _ ⟨rfl, rfl⟩; refine TL.run 2 rfl ?_; refine TL.nil ?_; refine K.pick [3] rfl (by decide) ?_; exact K.ag (r89, F7) ⟨hk, le5_7⟩ (.c .nil) (List.Sublist.refl _)
                    · replace hk := zab hk h18; refine TL.run 3 rfl ?_; refine TL.nil ?_; refine K.pick [3] rfl (by decide) ?_; exact K.ag (false, F7) ⟨hk, le5_7⟩ (.c .nil) (List.Sublist.refl _)
                  · have p17 := of_decide_eq_false h17; replace hk := zab hk h17; refine TL.run 10 rfl ?_; refine TL.nil ?_; refine K.pick [3] rfl (by decide) ?_; exact K.ag (false, F5) ⟨hk, (Frz.Le.refl _)⟩ (.c .nil) (List.Sublist.refl _)
                · rintro ⟨x_15, F6⟩ ⟨hk, le5_6⟩; (try dsimp only at *); rw [← hk16] at hk; (try dsimp only at hk); refine T.ret ?_; obtain rfl := Option.some.inj hk; exact K.aj rfl rfl (fun w' hw => ⟨rfl, hw.isBelow⟩)
theorem zfP (b : Bool) : (bif b then true else false) = b := by cases b <;> rfl
theorem zem {n : Nat} (h : 100000 ≤ n) : zb5 n = some true := by
  obtain ⟨m, rfl⟩ : ∃ m, n = m + 100000 := ⟨n - 100000, by omega⟩
  kernel_rfl
theorem zgM {p : GProblem} {a b : Int} {fuel : Nat} (hf : 1000 ≤ fuel) : ∃ r, zck fuel p a b = some r := by
  unfold zck; simp only [zaI]; refine zfJ (σ := Int) (I := fun i => 0 ≤ i ∧ i ≤ 600) (μ := fun i => (600 - i).toNat) (post := fun o => ∃ r, o = some r) ⟨by omega, by omega⟩ (by omega) ?_; intro i next hi hn; by_cases h1 : i < (p.Domains.length : Int) <;> by_cases h2 : i < 600
  · rw [decide_eq_true h1, decide_eq_true h2, Bool.and_true, cond_true, zbp ⟨hi.1, h1⟩]
    cases decide (60 < ((nth p.Domains i.toNat).Channels.length : Int))
    · exact hn _ ⟨by omega, by omega⟩ (by omega)
    · exact ⟨_, rfl⟩
  · rw [decide_eq_false h2, Bool.and_false, cond_false]; exact ⟨_, rfl⟩
  · rw [decide_eq_false h1, Bool.false_and, cond_false]; exact ⟨_, rfl⟩
  · rw [decide_eq_false h1, Bool.false_and, cond_false]; exact ⟨_, rfl⟩
theorem allEq {α : Type} [Inhabited α] [DecidableEq α] {a b : List α} (hl : a.length = b.length) : ((List.range a.length).all fun i => decide (nth a i = nth b i)) = decide (a = b) := by
  rw [Bool.eq_iff_iff, List.all_eq_true, decide_eq_true_eq]; constructor
  · intro h; refine List.ext_getElem hl fun i h1 h2 => ?_; have := of_decide_eq_true (h i (List.mem_range.2 h1))
    rwa [zbc h1, zbc h2] at this
  · rintro rfl i _; simp
theorem zfv {α : Type} [Inhabited α] [DecidableEq α] {a b : List α} {r : α → α → Bool} {k : Unit → Bool} (hr : ∀ x y, r x y = !decide (x = y)) (hl : a.length = b.length) : zah (fun (i : Nat) (next : Unit → Bool) (_ : Unit) => bif r (nth a i) (nth b i) then false else next ()) k (a.length - 0) 0 () = (decide (a = b) && k ()) := by
  rw [Nat.sub_zero, zel (fun i => decide (nth a i = nth b i)) (fun i next hi => by rw [hr]; cases decide (nth a i = nth b i) <;> rfl), allEq hl]
theorem zgA {α : Type} [Inhabited α] [DecidableEq α] {a b : List α} {r : α → α → Bool} (hr : ∀ x y, r x y = !decide (x = y)) : (bif decide (¬ (a.length : Int) = (b.length : Int)) then false else zah (fun (i : Nat) (next : Unit → Bool) (_ : Unit) => bif r (nth a i) (nth b i) then false else next ()) (fun _ => true) (a.length - 0) 0 ()) = decide (a = b) := by
  by_cases hl : a.length = b.length
  · rw [decide_eq_false (by omega), cond_false, zfv hr hl, Bool.and_true]
  · rw [decide_eq_true (by omega), cond_true, decide_eq_false (fun e => hl (by rw [e]))]
theorem zgB (x y : GPair) : (decide (x.A = y.A) && decide (x.B = y.B) && decide (x.Offset = y.Offset) && decide (x.Low = y.Low) && decide (x.High = y.High)) = decide (x = y) := by
  rw [Bool.eq_iff_iff]; cases x; cases y; simp [and_assoc]
theorem zgR (x y : GLoad) : (decide (x.To = y.To) && decide (x.From = y.From) && decide (x.Weight = y.Weight) && decide (x.Low = y.Low) && decide (x.High = y.High)) = decide (x = y) := by
  rw [Bool.eq_iff_iff]; cases x; cases y; simp [and_assoc]
theorem zg0 (x y : GCap) : (decide (x.Station = y.Station) && decide (x.Max = y.Max) && decide (x.Low = y.Low) && decide (x.High = y.High)) = decide (x = y) := by
  rw [Bool.eq_iff_iff]; cases x; cases y; simp [and_assoc]
theorem zeD (a b : List Int) : zaZ a b = decide (a = b) := zgA (r := fun x y : Int => decide (¬ x = y)) fun x y => by by_cases h : x = y <;> simp [h]
theorem zg4 (x y : GDomain) : (decide (x.Station = y.Station) && decide (x.Channels = y.Channels)) = decide (x = y) := by
  rw [Bool.eq_iff_iff]; cases x; cases y; simp
theorem zfA (a b : List GDomain) : zbd a b = decide (a = b) := zgA (r := fun x y : GDomain => decide (¬ x.Station = y.Station) || !zaZ x.Channels y.Channels) fun x y => by
  rw [zeD, ← zg4]; by_cases h : x.Station = y.Station <;> simp [h]
theorem zfk (a b : GRules) : zbe a b = (decide (a.Pairs = b.Pairs) && (decide (a.Loads = b.Loads) && decide (a.Caps = b.Caps))) := by
  unfold zbe; by_cases h1 : a.Pairs.length = b.Pairs.length
  · by_cases h2 : a.Loads.length = b.Loads.length
    · by_cases h3 : a.Caps.length = b.Caps.length
      · rw [decide_eq_false (by omega), decide_eq_false (by omega), decide_eq_false (by omega)]
        show zah _ (fun _ => zah _ (fun _ => zah _ (fun _ => true) (a.Caps.length - 0) 0 ()) (a.Loads.length - 0) 0 ()) (a.Pairs.length - 0) 0 () = _
        rw [zfv (r := fun x y : GPair => !(decide (x.A = y.A) && decide (x.B = y.B) && decide (x.Offset = y.Offset) && decide (x.Low = y.Low) && decide (x.High = y.High))) (fun x y => by rw [zgB]) h1,
          zfv (r := fun x y : GLoad => !(decide (x.To = y.To) && decide (x.From = y.From) && decide (x.Weight = y.Weight) && decide (x.Low = y.Low) && decide (x.High = y.High))) (fun x y => by rw [zgR]) h2,
          zfv (r := fun x y : GCap => !(decide (x.Station = y.Station) && decide (x.Max = y.Max) && decide (x.Low = y.Low) && decide (x.High = y.High))) (fun x y => by rw [zg0]) h3, Bool.and_true]
      · rw [decide_eq_true (show ¬ (a.Caps.length : Int) = b.Caps.length by omega), Bool.or_true, cond_true, decide_eq_false (show ¬ a.Caps = b.Caps from fun e => h3 (by rw [e])), Bool.and_false, Bool.and_false]
    · rw [decide_eq_true (show ¬ (a.Loads.length : Int) = b.Loads.length by omega), Bool.or_true, Bool.true_or, cond_true, decide_eq_false (show ¬ a.Loads = b.Loads from fun e => h2 (by rw [e])), Bool.false_and, Bool.and_false]
  · rw [decide_eq_true (show ¬ (a.Pairs.length : Int) = b.Pairs.length by omega), Bool.true_or, Bool.true_or, cond_true, decide_eq_false (show ¬ a.Pairs = b.Pairs from fun e => h1 (by rw [e])), Bool.false_and]
def eqP (p q : GProblem) : Bool := decide (p.Domains = q.Domains) && (decide (p.Rules.Pairs = q.Rules.Pairs) && (decide (p.Rules.Loads = q.Rules.Loads) && decide (p.Rules.Caps = q.Rules.Caps)))
theorem zg6 (p q : GProblem) : zb1 p q = eqP p q := by
  unfold zb1 eqP; rw [zfA, zfk]
theorem zgf (p : GProblem) : eqP p p = true := by
  unfold eqP; simp
theorem zfl (l : List GChoice) : zaD l = zbz l := by
  have e1 : zaD l = (List.range' 0 (l.length - 0)).all fun i => (zad (nth l i).Station && zam (nth l i).Channel 2 51) && !(decide (0 < (i : Int)) && decide ((nth l i).Station ≤ (nth l (((i : Int) - 1).toNat)).Station)) := by
    refine (zby (k := fun _ => true) (z := false) (fun i => (zad (nth l i).Station && zam (nth l i).Channel 2 51) && !(decide (0 < (i : Int)) && decide ((nth l i).Station ≤ (nth l (((i : Int) - 1).toNat)).Station))) (fun i next h1 h2 => ?_)).trans ?_
    · cases zad (nth l i).Station <;> cases zam (nth l i).Channel 2 51 <;> cases (decide (0 < (i : Int)) && decide ((nth l i).Station ≤ (nth l (((i : Int) - 1).toNat)).Station)) <;> rfl
    · exact zfP _
  rw [e1]; symm; refine (zby (k := fun _ => true) (z := false) (fun i => (zad (nth l i).Station && zam (nth l i).Channel 2 51) && !(decide (0 < (i : Int)) && decide ((nth l i).Station ≤ (nth l (((i : Int) - 1).toNat)).Station))) (fun i next h1 h2 => ?_)).trans ?_
  · rw [zcF (nth l i).Channel 2, zcF 51]; unfold zam
    show (bif (((!zad (nth l i).Station || _) || _) || _) then _ else _) = _
    cases zad (nth l i).Station <;> cases decide (2 ≤ (nth l i).Channel) <;> cases decide ((nth l i).Channel ≤ 51) <;> cases (decide (0 < (i : Int)) && decide ((nth l i).Station ≤ (nth l (((i : Int) - 1).toNat)).Station)) <;> rfl
  · exact zfP _
def onL : List GChoice → Int → Int
  | [], _ => 0
  | x :: r, n => bif decide (x.Station = n) then x.Channel else onL r n
def TabC (l : List GChoice) (c : Vec 512 Int) : Prop := ∀ n, n < 512 → Vec.get c n = onL l (n : Int)
theorem TabC.get {l : List GChoice} {c : Vec 512 Int} (h : TabC l c) {i : Int} (hi : 0 ≤ i ∧ i < 512) : Vec.get c i.toNat = onL l i := by
  rw [h _ (by omega), show ((i.toNat : Nat) : Int) = i by omega]
theorem zgX (l : List Int) (v : Int) : zal l v = l.any fun x => decide (x = v) := by
  have h := zfR (f := fun (i : Nat) (next : Unit → Bool) (_ : Unit) => bif decide (nth l i = v) then true else next ()) (k := fun _ => false) (n := l.length - 0) (fun i => decide (nth l i = v)) (fun i next hi => by cases decide (nth l i = v) <;> rfl); rw [Nat.sub_zero, zeY (q := fun x => decide (x = v)), Bool.or_false] at h; exact h
theorem zfB (a b : List GChoice) : zbW a b = decide (a = b) := zgA (r := fun x y : GChoice => !(decide (x.Station = y.Station) && decide (x.Channel = y.Channel))) fun x y => by
  have : (decide (x.Station = y.Station) && decide (x.Channel = y.Channel)) = decide (x = y) := by
    rw [Bool.eq_iff_iff]; cases x; cases y; simp
  rw [this]
def okS (l : List Int) : Bool := l.all zad && adjB (fun a b => decide (a < b)) l
theorem zde (l : List Int) : za1 l = some (okS l) := by
  have e1 : zaS l = l.all zad := zen; have e2 : zaR l = some (adjB (fun a b => decide (a < b)) l) := zfC zfZ; unfold za1 okS; rw [e1, e2]; simp only [zaI, Option.bind_some]
  cases l.all zad <;> rfl
theorem zdy (l : List Int) : zaU l = okS l := by
  refine (zby (k := fun _ => true) (z := false) (fun i => zad (nth l i) && (bif decide (0 < (i : Int)) then decide (nth l (i - 1) < nth l i) else true)) (fun i next h1 h2 => ?_)).trans ?_
  · rw [show ((i : Int) - 1).toNat = i - 1 by omega, zfu (nth l i) (nth l (i - 1))]
    show (bif (!zad (nth l i) || _) then _ else _) = _
    cases zad (nth l i) <;> cases decide (0 < (i : Int)) <;> cases decide (nth l (i - 1) < nth l i) <;> rfl
  · rw [zfP, zdh l zad (fun a b => decide (a < b))]; rfl
theorem zfn {l : List Int} (h : okS l = true) : ∀ x ∈ l, 0 ≤ x ∧ x < 512 := fun x hx => by
  have := zdF (List.all_eq_true.1 (zb9 h) x hx); omega
theorem zdr {l : List Int} {s : GSet} (hs : ∀ i : Int, inS s i = ((decide (0 ≤ i) && decide (i < 512)) && l.any fun x => decide (x = i))) (h : okS l = true) (i : Int) : inS s i = zal l i := by
  rw [hs, zgX]; by_cases hi : 0 ≤ i ∧ i < 512
  · rw [decide_eq_true hi.1, decide_eq_true hi.2]; rfl
  · have e : (decide (0 ≤ i) && decide (i < 512)) = false := by
      rw [Bool.and_eq_false_iff, decide_eq_false_iff_not, decide_eq_false_iff_not]; omega
    rw [e, Bool.false_and]
    symm
    rw [List.any_eq_false]; intro x hx hd; have := zfn h x hx; have := of_decide_eq_true hd; omega
theorem zeh {x y : BitVec 64} : ((x &&& ~~~y).toNat : Int) = ((0#64).toNat : Int) ↔ ∀ b, b < 64 → x.getLsbD b = true → y.getLsbD b = true := by
  constructor
  · intro h b hb hx; have h1 : x &&& ~~~y = 0#64 := BitVec.eq_of_toNat_eq (Int.ofNat.inj h); have h2 := congrArg (fun z => z.getLsbD b) h1; simp only [BitVec.getLsbD_and, BitVec.getLsbD_not, hx, hb, decide_true, Bool.true_and, BitVec.getLsbD_zero, Bool.not_eq_false'] at h2; exact h2
  · intro h
    have h1 : x &&& ~~~y = 0#64 := BitVec.eq_of_getLsbD_eq fun b hb => by
      rw [BitVec.getLsbD_and, BitVec.getLsbD_not]
      cases hx : x.getLsbD b
      · simp
      · rw [h b hb hx]; simp
    rw [h1]
theorem zgq (s o : GSet) : zas s o = true ↔ ∀ n, n < 512 → wS s.words n = true → wS o.words n = true := by
  have e : zas s o = (List.range 8).all fun i => !decide (¬ (((Vec.get s.words i) &&& ~~~(Vec.get o.words i)).toNat : Int) = ((0#64).toNat : Int)) := by
    unfold zas; refine (zel (f := fun (i : Nat) (next : Unit → Bool) (_ : Unit) => bif decide (¬ (((Vec.get s.words i) &&& ~~~(Vec.get o.words i)).toNat : Int) = ((0#64).toNat : Int)) then false else next ()) (k := fun _ => true) (n := 8) (fun i => !decide (¬ (((Vec.get s.words i) &&& ~~~(Vec.get o.words i)).toNat : Int) = ((0#64).toNat : Int))) (fun i next hi => ?_)).trans (Bool.and_true _)
    cases decide (¬ (((Vec.get s.words i) &&& ~~~(Vec.get o.words i)).toNat : Int) = ((0#64).toNat : Int)) <;> rfl
  rw [e, List.all_eq_true]; constructor
  · intro h n hn hw; have h1 := h (n / 64) (List.mem_range.2 (by omega)); rw [Bool.not_eq_true', decide_eq_false_iff_not, Decidable.not_not, zeh] at h1; exact h1 _ (by omega) hw
  · intro h i hi; have hi := List.mem_range.1 hi; rw [Bool.not_eq_true', decide_eq_false_iff_not, Decidable.not_not, zeh]; intro b hb hx; have := h (i * 64 + b) (by omega); unfold wS at this; rw [show (i * 64 + b) / 64 = i by omega, show (i * 64 + b) % 64 = b by omega] at this; exact this hx
theorem zge {s : GSet} {n : Nat} (hn : n < 512) : wS s.words n = inS s (n : Int) := by
  unfold wS inS; rw [decide_eq_true (show (0 : Int) ≤ n by omega), decide_eq_true (show (n : Int) < 512 by omega), show ((n : Int) / 64).toNat = n / 64 by omega, show ((n : Int) % 64).toNat = n % 64 by omega]; rfl
theorem zfz {l : List Int} {p : GProblem} {s o : GSet} (hs : ∀ i : Int, inS s i = ((decide (0 ≤ i) && decide (i < 512)) && l.any fun x => decide (x = i))) (h : okS l = true) (ho : ∀ i : Int, inS o i = hasD p i) : zas s o = l.all (anyD p) := by
  rw [Bool.eq_iff_iff, zgq, List.all_eq_true]; constructor
  · intro h1 x hx; have hr := zfn h x hx; have h2 := h1 x.toNat (by omega); rw [zge (by omega), zge (by omega), show ((x.toNat : Nat) : Int) = x by omega, hs, ho] at h2; rw [zcS (List.all_eq_true.1 (zb9 h) x hx)]; refine h2 ?_; rw [decide_eq_true hr.1, decide_eq_true hr.2]; exact List.any_eq_true.2 ⟨x, hx, decide_eq_true rfl⟩
  · intro h1 n hn hw; rw [zge hn, hs] at hw; obtain ⟨x, hx, e⟩ := List.any_eq_true.1 (zdf hw); have e := of_decide_eq_true e; subst e; rw [zge hn, ho, ← zcS (List.all_eq_true.1 (zb9 h) _ hx)]; exact h1 _ hx
def zgT (l : List GChoice) (st : List Int) : List GChoice := (List.range (l.length - 0)).foldl (fun s i => bif zal st (nth l i).Station then s ++ [nth l i] else s) []
theorem zfX {l : List GChoice} {st : List Int} (hl : l.length ≤ 100000) : zcG l st = some (zgT l st) := by
  refine (zbZ (k := fun s : List GChoice => some s) (n := l.length - 0) (s := [])
    (f := fun (i_5 : Nat) (next4 : List GChoice → Option (List GChoice)) (out_3 : List GChoice) =>
      (bif (zal st ((nth l i_5).Station)) then
        grd (room (out_3 ++ [(nth l i_5)]).length 16) <|
        next4 (out_3 ++ [(nth l i_5)])
        else
        next4 out_3))
    (fun i s => s.length ≤ i) (fun i s => bif zal st (nth l i).Station then s ++ [nth l i] else s) (by simp) (fun i s hi hs => ?_) (fun i next s hi hs => ?_)).1
  · cases zal st (nth l i).Station
    · show s.length ≤ i + 1; omega
    · show (s ++ [nth l i]).length ≤ i + 1; rw [List.length_append]; simp; exact hs
  · cases zal st (nth l i).Station
    · rfl
    · rw [cond_true, cond_true, zbp (by unfold room; rw [List.length_append]; simp; omega)]
theorem zgW {l : List GChoice} {st : List Int} (hl : l.length ≤ 100000) : zcc l st = some (bif zaD l && okS st then (zgT l st, 0) else ([], 2)) := by
  unfold zcc; simp only [zaI, zde, Option.bind_some]
  cases zaD l
  · rfl
  cases h2 : okS st
  · rfl
  simp only [Bool.not_true, cond_false, Bool.and_self, cond_true]; obtain ⟨s, h3, h4⟩ := of_x (l := st) (zfn h2); rw [h3, Option.bind_some]
  refine (zbZ (k := fun s : List GChoice => some (s, (0 : Int))) (n := l.length - 0) (s := [])
    (f := fun (i_9 : Nat) (next8 : List GChoice → Option (List GChoice × Int)) (some_7 : List GChoice) =>
          (zag s ((nth l i_9).Station)).bind fun r33 =>
          (bif r33 then
            grd (room (some_7 ++ [(nth l i_9)]).length 16) <|
            next8 (some_7 ++ [(nth l i_9)])
            else
            next8 some_7))
    (fun i s => s.length ≤ i) (fun i s => bif zal st (nth l i).Station then s ++ [nth l i] else s) (by simp) (fun i s hi hs => ?_) (fun i next s hi hs => ?_)).1
  · cases zal st (nth l i).Station
    · show s.length ≤ i + 1; omega
    · show (s ++ [nth l i]).length ≤ i + 1; rw [List.length_append]; simp; exact hs
  · rw [zdW, zdr h4 h2, Option.bind_some]
    cases zal st (nth l i).Station
    · rfl
    · rw [cond_true, cond_true, zbp (by unfold room; rw [List.length_append]; simp; omega)]
abbrev RS := List GDomain × List GPair × List GLoad × List GCap
def gD (p : GProblem) (st : List Int) (i : Nat) (s : RS) : RS := bif zal st (nth p.Domains i).Station then (s.1 ++ [nth p.Domains i], s.2.1, s.2.2.1, s.2.2.2) else (s.1, s.2.1, s.2.2.1, s.2.2.2)
def gP (p : GProblem) (st : List Int) (i : Nat) (s : RS) : RS := bif zal st (nth p.Rules.Pairs i).A && zal st (nth p.Rules.Pairs i).B then (s.1, s.2.1 ++ [nth p.Rules.Pairs i], s.2.2.1, s.2.2.2) else (s.1, s.2.1, s.2.2.1, s.2.2.2)
def gL (p : GProblem) (st : List Int) (i : Nat) (s : RS) : RS := bif zal st (nth p.Rules.Loads i).To && zal st (nth p.Rules.Loads i).From then (s.1, s.2.1, s.2.2.1 ++ [nth p.Rules.Loads i], s.2.2.2) else (s.1, s.2.1, s.2.2.1, s.2.2.2)
def gC (p : GProblem) (st : List Int) (i : Nat) (s : RS) : RS := bif zal st (nth p.Rules.Caps i).Station then (s.1, s.2.1, s.2.2.1, s.2.2.2 ++ [nth p.Rules.Caps i]) else (s.1, s.2.1, s.2.2.1, s.2.2.2)
def zct (g : Nat → RS → RS) (n : Nat) (s : RS) : RS := (List.range n).foldl (fun s i => g i s) s
theorem zgE {ρ : Type} {p : GProblem} {st : List Int} {f : Nat → (RS → ρ) → RS → ρ} {K : RS → ρ} (hn : p.Domains.length ≤ 5000) (hf : ∀ i next s, i < p.Domains.length → (∀ x : GDomain, room (s.1 ++ [x]).length 32) → f i next s = next (gD p st i s)) : zah f K (p.Domains.length - 0) 0 ([], [], [], []) = K (zct (gD p st) (p.Domains.length - 0) ([], [], [], [])) ∧ ((zct (gD p st) (p.Domains.length - 0) ([], [], [], [])).2 = ([], [], [])) := by
  have h := zbZ (f := f) (k := K) (n := p.Domains.length - 0) (s := ([], [], [], [])) (fun i s => s.1.length ≤ i ∧ s.2 = ([], [], [])) (gD p st) ⟨by simp, rfl⟩ (fun i s hi hs => by
      unfold gD
      cases zal st (nth p.Domains i).Station
      · exact ⟨by show s.1.length ≤ i + 1; omega, hs.2⟩
      · exact ⟨by show (s.1 ++ [_]).length ≤ i + 1; rw [List.length_append]; simp; exact hs.1, hs.2⟩) (fun i next s hi hs => hf i next s (by omega) (fun x => by unfold room; rw [List.length_append]; simp; omega))
  exact ⟨h.1, h.2.2⟩
theorem zgI {ρ : Type} {p : GProblem} {st : List Int} {f : Nat → (RS → ρ) → RS → ρ} {K : RS → ρ} {s0 : RS} (h0 : s0.2 = ([], [], [])) (hn : p.Rules.Pairs.length ≤ 5000) (hf : ∀ i next s, i < p.Rules.Pairs.length → (∀ x : GPair, room (s.2.1 ++ [x]).length 40) → f i next s = next (gP p st i s)) : zah f K (p.Rules.Pairs.length - 0) 0 s0 = K (zct (gP p st) (p.Rules.Pairs.length - 0) s0) ∧ ((zct (gP p st) (p.Rules.Pairs.length - 0) s0).2.2 = ([], [])) := by
  have h := zbZ (f := f) (k := K) (n := p.Rules.Pairs.length - 0) (s := s0) (fun i s => s.2.1.length ≤ i ∧ s.2.2 = ([], [])) (gP p st) (by rw [h0]; exact ⟨by simp, rfl⟩) (fun i s hi hs => by
      unfold gP
      cases zal st (nth p.Rules.Pairs i).A && zal st (nth p.Rules.Pairs i).B
      · exact ⟨by show s.2.1.length ≤ i + 1; omega, hs.2⟩
      · exact ⟨by show (s.2.1 ++ [_]).length ≤ i + 1; rw [List.length_append]; simp; exact hs.1, hs.2⟩) (fun i next s hi hs => hf i next s (by omega) (fun x => by unfold room; rw [List.length_append]; simp; omega))
  exact ⟨h.1, h.2.2⟩
theorem zgK {ρ : Type} {p : GProblem} {st : List Int} {f : Nat → (RS → ρ) → RS → ρ} {K : RS → ρ} {s0 : RS} (h0 : s0.2.2 = ([], [])) (hn : p.Rules.Loads.length ≤ 5000) (hf : ∀ i next s, i < p.Rules.Loads.length → (∀ x : GLoad, room (s.2.2.1 ++ [x]).length 40) → f i next s = next (gL p st i s)) : zah f K (p.Rules.Loads.length - 0) 0 s0 = K (zct (gL p st) (p.Rules.Loads.length - 0) s0) ∧ ((zct (gL p st) (p.Rules.Loads.length - 0) s0).2.2.2 = []) := by
  have h := zbZ (f := f) (k := K) (n := p.Rules.Loads.length - 0) (s := s0) (fun i s => s.2.2.1.length ≤ i ∧ s.2.2.2 = []) (gL p st) (by rw [h0]; exact ⟨by simp, rfl⟩) (fun i s hi hs => by
      unfold gL
      cases zal st (nth p.Rules.Loads i).To && zal st (nth p.Rules.Loads i).From
      · exact ⟨by show s.2.2.1.length ≤ i + 1; omega, hs.2⟩
      · exact ⟨by show (s.2.2.1 ++ [_]).length ≤ i + 1; rw [List.length_append]; simp; exact hs.1, hs.2⟩) (fun i next s hi hs => hf i next s (by omega) (fun x => by unfold room; rw [List.length_append]; simp; omega))
  exact ⟨h.1, h.2.2⟩
theorem zg2 {ρ : Type} {p : GProblem} {st : List Int} {f : Nat → (RS → ρ) → RS → ρ} {K : RS → ρ} {s0 : RS} (h0 : s0.2.2.2 = []) (hn : p.Rules.Caps.length ≤ 5000) (hf : ∀ i next s, i < p.Rules.Caps.length → (∀ x : GCap, room (s.2.2.2 ++ [x]).length 32) → f i next s = next (gC p st i s)) : zah f K (p.Rules.Caps.length - 0) 0 s0 = K (zct (gC p st) (p.Rules.Caps.length - 0) s0) := by
  have h := zbZ (f := f) (k := K) (n := p.Rules.Caps.length - 0) (s := s0) (fun i s => s.2.2.2.length ≤ i) (gC p st) (by rw [h0]; simp) (fun i s hi hs => by
      unfold gC
      cases zal st (nth p.Rules.Caps i).Station
      · show s.2.2.2.length ≤ i + 1; omega
      · show (s.2.2.2 ++ [_]).length ≤ i + 1; rw [List.length_append]; simp; exact hs) (fun i next s hi hs => hf i next s (by omega) (fun x => by unfold room; rw [List.length_append]; simp; omega))
  exact h.1
def zgt (p : GProblem) (st : List Int) : RS := zct (gC p st) (p.Rules.Caps.length - 0) (zct (gL p st) (p.Rules.Loads.length - 0) (zct (gP p st) (p.Rules.Pairs.length - 0) (zct (gD p st) (p.Domains.length - 0) ([], [], [], []))))
def restP (p : GProblem) (st : List Int) : GProblem := ⟨(zgt p st).1, ⟨(zgt p st).2.1, (zgt p st).2.2.1, (zgt p st).2.2.2⟩⟩
def zgh (p : GProblem) (st : List Int) : GProblem × Int := bif okP p && okS st then (bif st.all (anyD p) then (restP p st, 0) else (⟨[], ⟨[], [], []⟩⟩, 9)) else (⟨[], ⟨[], [], []⟩⟩, 2)
theorem zgD {d : GDomain} (h : okD d = true) : d.Channels.length ≤ 50 := by
  rw [← zfM] at h; have := of_decide_eq_true (zb9 (zdf h)); omega
theorem inv1 {p : GProblem} {st : List Int} (h : p.Domains.length ≤ 5000) : (zct (gD p st) (p.Domains.length - 0) ([], [], [], [])).2 = ([], [], []) := (zgE (ρ := Unit) (f := fun i next s => next (gD p st i s)) (K := fun _ => ()) h (fun _ _ _ _ _ => rfl)).2
theorem inv2 {p : GProblem} {st : List Int} {s0 : RS} (h0 : s0.2 = ([], [], [])) (h : p.Rules.Pairs.length ≤ 5000) : (zct (gP p st) (p.Rules.Pairs.length - 0) s0).2.2 = ([], []) := (zgI (ρ := Unit) (f := fun i next s => next (gP p st i s)) (K := fun _ => ()) h0 h (fun _ _ _ _ _ => rfl)).2
theorem inv3 {p : GProblem} {st : List Int} {s0 : RS} (h0 : s0.2.2 = ([], [])) (h : p.Rules.Loads.length ≤ 5000) : (zct (gL p st) (p.Rules.Loads.length - 0) s0).2.2.2 = [] := (zgK (ρ := Unit) (f := fun i next s => next (gL p st i s)) (K := fun _ => ()) h0 h (fun _ _ _ _ _ => rfl)).2
theorem zfH (p : GProblem) (st : List Int) : zbn p st = some (zgh p st) := by
  unfold zbn zgh; rw [zgC, zde]
  cases h1 : okP p
  · rfl
  cases h2 : okS st
  · rfl
  have hD := zb9 h1; have hg := zdq (zb9 (zdf h1)); have hi := zb9 (zdf (zdf h1)); have hl := zeQ hD hi; have g1 := hg.np; have g2 := hg.nl; have g3 := hg.nc; obtain ⟨s, h3, h4⟩ := of_x (l := st) (zfn h2); obtain ⟨o, m3, m4⟩ := ze5 (p := p) (by unfold room; omega) (fun d hd => zfq hD hd)
  show (zbS st).bind _ = _
  rw [h3]
  show (za3 p).bind _ = _
  rw [m3]
  show (bif !(zas s o) then _ else _) = _
  rw [zfz h4 h2 m4]
  cases st.all (anyD p)
  · rfl
  refine (zgE (st := st) (by omega) (fun i next s hin hr => ?_)).1.trans ?_
  · rw [zdW, zdr h4 h2, Option.bind_some]; unfold gD
    cases zal st (nth p.Domains i).Station
    · rfl
    · rw [cond_true, cond_true, zbp (by have := zgD (List.all_eq_true.1 hD _ (zdg hin)); unfold room; omega), zbp (hr _)]
  refine (zgI (st := st) (s0 := zct (gD p st) (p.Domains.length - 0) ([], [], [], [])) (inv1 (by omega)) (by omega) (fun i next s hin hr => ?_)).1.trans ?_
  · rw [zdW, zdW, zdr h4 h2, zdr h4 h2, Option.bind_some]; unfold gP
    show (bif zal st (nth p.Rules.Pairs i).A then _ else _) = _
    cases zal st (nth p.Rules.Pairs i).A
    · rfl
    · cases zal st (nth p.Rules.Pairs i).B
      · rfl
      · show grd _ _ = _
        rw [zbp (hr _)]; rfl
  refine (zgK (st := st) (s0 := zct (gP p st) (p.Rules.Pairs.length - 0) (zct (gD p st) (p.Domains.length - 0) ([], [], [], []))) (inv2 (inv1 (by omega)) (by omega)) (by omega) (fun i next s hin hr => ?_)).1.trans ?_
  · rw [zdW, zdW, zdr h4 h2, zdr h4 h2, Option.bind_some]; unfold gL
    show (bif zal st (nth p.Rules.Loads i).To then _ else _) = _
    cases zal st (nth p.Rules.Loads i).To
    · rfl
    · cases zal st (nth p.Rules.Loads i).From
      · rfl
      · show grd _ _ = _
        rw [zbp (hr _)]; rfl
  refine (zg2 (st := st) (s0 := zct (gL p st) (p.Rules.Loads.length - 0) (zct (gP p st) (p.Rules.Pairs.length - 0) (zct (gD p st) (p.Domains.length - 0) ([], [], [], [])))) (inv3 (inv2 (inv1 (by omega)) (by omega)) (by omega)) (by omega) (fun i next s hin hr => ?_)).trans ?_
  · rw [zdW, zdr h4 h2, Option.bind_some]; unfold gC
    cases zal st (nth p.Rules.Caps i).Station
    · rfl
    · rw [cond_true, cond_true, zbp (hr _)]
  rfl
theorem zfE {σ ρ : Type} {f : Nat → (σ → ρ) → σ → ρ} {k : σ → ρ} {z : ρ} {n : Nat} {s : σ} (q : Nat → Bool) (hf : ∀ i next, i < n → f i next s = bif q i then next s else z) : zah f k n 0 s = bif (List.range n).all q then k s else z := by
  have key : ∀ m i, i + m = n → zah f k m i s = bif (List.range' i m).all q then k s else z := by
    intro m
    induction m with
    | zero => intro i _; rfl
    | succ m ih =>
      intro i e
      show f i (zah f k m (i + 1)) s = _
      rw [hf i _ (by omega), ih (i + 1) (by omega), List.range'_succ, List.all_cons]
      cases q i <;> rfl
  rw [key n 0 (by omega), List.range_eq_range']
theorem zeK (p : GProblem) (st : List Int) : zbU p st = some (zgh p st) := by
  unfold zbU zgh; rw [zfy, zdy]
  cases h1 : okP p
  · rfl
  cases h2 : okS st
  · rfl
  have hD := zb9 h1; have hg := zdq (zb9 (zdf h1)); have hi := zb9 (zdf (zdf h1)); have hl := zeQ hD hi; have g1 := hg.np; have g2 := hg.nl; have g3 := hg.nc; refine (zfE (n := st.length - 0) (s := (([], [], [], []) : RS)) (z := some ((⟨[], ⟨[], [], []⟩⟩ : GProblem), (9 : Int))) (fun i => anyD p (nth st i)) (fun i next hin => ?_)).trans ?_
  · rw [zey]; cases anyD p (nth st i) <;> rfl
  rw [Nat.sub_zero, zcD (q := anyD p)]
  cases st.all (anyD p)
  · rfl
  refine (zgE (st := st) (by omega) (fun i next s hin hr => ?_)).1.trans ?_
  · unfold gD
    cases zal st (nth p.Domains i).Station
    · rfl
    · rw [cond_true, cond_true, zbp (hr _)]
  refine (zgI (st := st) (s0 := zct (gD p st) (p.Domains.length - 0) ([], [], [], [])) (inv1 (by omega)) (by omega) (fun i next s hin hr => ?_)).1.trans ?_
  · unfold gP
    cases zal st (nth p.Rules.Pairs i).A && zal st (nth p.Rules.Pairs i).B
    · rfl
    · rw [cond_true, cond_true, zbp (hr _)]
  refine (zgK (st := st) (s0 := zct (gP p st) (p.Rules.Pairs.length - 0) (zct (gD p st) (p.Domains.length - 0) ([], [], [], []))) (inv2 (inv1 (by omega)) (by omega)) (by omega) (fun i next s hin hr => ?_)).1.trans ?_
  · unfold gL
    cases zal st (nth p.Rules.Loads i).To && zal st (nth p.Rules.Loads i).From
    · rfl
    · rw [cond_true, cond_true, zbp (hr _)]
  refine (zg2 (st := st) (s0 := zct (gL p st) (p.Rules.Loads.length - 0) (zct (gP p st) (p.Rules.Pairs.length - 0) (zct (gD p st) (p.Domains.length - 0) ([], [], [], [])))) (inv3 (inv2 (inv1 (by omega)) (by omega)) (by omega)) (by omega) (fun i next s hin hr => ?_)).trans ?_
  · unfold gC
    cases zal st (nth p.Rules.Caps i).Station
    · rfl
    · rw [cond_true, cond_true, zbp (hr _)]
  rfl
theorem zd1 {n : Nat} (h : 100000 ≤ n) (p : GProblem) (l : List GChoice) (st : List Int) : zbl n p l st = some true := by
  unfold zbl; obtain ⟨a, ha⟩ := zgM (p := p) (a := 60) (b := 60) (fuel := n) (by omega); by_cases h7 : 70 < (l.length : Int)
  · simp only [zaI, decide_eq_true h7, cond_true, zem h, Option.bind_some]
  by_cases h8 : 70 < (st.length : Int)
  · simp only [zaI, decide_eq_false h7, cond_false, decide_eq_true h8, cond_true, zem h, Option.bind_some]
  simp only [zaI, decide_eq_false h7, decide_eq_false h8, cond_false, ha, Option.bind_some, zem h, List.nil_append, zfH, zeK, zeD, zg6, zgf, decide_true, Bool.not_true, zgW (l := l) (st := st) (by omega), zfX (l := l) (st := st) (by omega), ← zfl, zdy, zfB]
  cases a
  · rfl
  simp only [Bool.not_true, cond_false]; rw [zbp (by unfold room; omega)]
  cases zaD l <;> cases okS st <;> simp
end Go.Proofs.YtipomhejoajjdaaGreat
namespace Go.Proofs.YtipomhejoajjdaaGreat
open Go.RowKit Go.ChangeShapes Go.WideShapes Go.Deep
def Opens {H : Type} (enc : TypeId × Value → H) (w : World) (base : Nat) (spare : Nat → Bool) (held : Bool) (t : TypeId) {α : Type} (R : List Value → α → Prop) : Prop :=
  ∀ fuel cs y, DataW.trod enc Tryz.prog w base spare held fuel t cs = some y → ∃ x, R cs x
section
variable {H : Type} {enc : TypeId × Value → H} {w : World} {base : Nat} {spare : Nat → Bool} {held : Bool}
theorem Opens.int {t : TypeId} (ht : Tryz.prog.underlying t = some (.int .i64)) : Opens enc w base spare held t (fun cs (x : Int) => cs = [.int .i64 x]) := fun fuel cs y h => by
  obtain ⟨k, hk, _⟩ := DataW.trod_int ht h; exact ⟨k, hk⟩
theorem zgS {a : Addr} {v : Value} (h : w.cell? a = some v) : Cb w a.block := by
  unfold World.cell? at h
  split at h
  all_goals (first | exact ⟨_, _, _, by assumption⟩ | simp at h | skip)
theorem Opens.any {t e : TypeId} {k : Nat} {α : Type} [Inhabited α] {R : List Value → α → Prop} (ht : Tryz.prog.underlying t = some (.slice e)) (hk : Tryz.prog.cellsOf e = k) (hpos : 0 < k) (ho : Opens enc w base spare held e R) :
    Opens enc w base spare held t (fun cs (l : List α) => ∃ v c, cs = [v] ∧ SlC (Frz.all w) v k c ∧ c.length = l.length ∧ ∀ i, i < l.length → R (nth c i) (nth l i)) := fun fuel cs y h => by
  rcases open_slice ht h with ⟨h0, _⟩ | ⟨a, len, cap, m, n, D, Pl, hcs, hb, hl, hm, hmm, _, hx⟩
  · exact ⟨[], _, [], h0, SlC.nil _ _, rfl, fun i hi => absurd hi (Nat.not_lt_zero i)⟩
  · subst hcs; (have hlm : len ≤ m := by rw [hmm]; split <;> omega)
    have each : ∀ i, i < m → ∃ x : List Value × α, x.1.length = k ∧ R x.1 x.2 ∧ ∀ j, j < k → w.cell? (a.add (i * k + j)) = x.1[j]? := fun i hi => by
      obtain ⟨cs', h1, h2⟩ := hx i hi; rw [hk] at h1; obtain ⟨_, hlen, hcell⟩ := World.cells?_some h1; obtain ⟨x, hR⟩ := ho _ _ _ h2; exact ⟨(cs', x), hlen, hR, fun j hj => by rw [← hcell j hj, add_add]⟩
    obtain ⟨X, hX⟩ := choose_lt each
    have hn : ∀ i, i < len → nth ((List.range len).map fun i => (X i).1) i = (X i).1 := fun i hi => by
      rw [zbc (by simpa using hi)]; simp
    have hn2 : ∀ i, i < len → nth ((List.range len).map fun i => (X i).2) i = (X i).2 := fun i hi => by
      rw [zbc (by simpa using hi)]; simp
    refine ⟨(List.range len).map fun i => (X i).2, _, (List.range len).map fun i => (X i).1, rfl, ⟨some a, cap, by simp, by simpa using hl, by unfold maxLen at hm; omega, fun c hc => ?_, fun hp => ?_⟩, by simp, fun i hi => ?_⟩
    · simp at hc; obtain ⟨i, hi, rfl⟩ := hc; exact (hX i (by omega)).1
    · (have hp' : 0 < len := by simpa using hp); have c0 := (hX 0 (by omega)).2.2 0 hpos; have hx0 := (hX 0 (by omega)).1; rw [List.getElem?_eq_getElem (by omega)] at c0; have hcb := zgS c0; have hs := World.cell?_spot c0; simp [Addr.add] at hs hcb; obtain ⟨b, off, sp⟩ := a; simp at hs hcb; subst hs; refine ⟨b, off, rfl, hcb, fun i hi j hj => ?_⟩; simp at hi; rw [hn i hi] at hj ⊢; have hxi := hX i (by omega); have := hxi.2.2 j (by omega); refine Eq.trans ?_ this
      show w.cell? _ = _
      rw [zcN, Nat.add_assoc]
    · simp at hi; rw [hn i hi, hn2 i hi]; exact (hX i (by omega)).2.1
theorem Opens.slC {t e : TypeId} {k : Nat} {α : Type} [Inhabited α] {en : α → List Value} (ht : Tryz.prog.underlying t = some (.slice e)) (hk : Tryz.prog.cellsOf e = k) (hpos : 0 < k) (ho : Opens enc w base spare held e (fun cs (x : α) => cs = en x)) :
    Opens enc w base spare held t (fun cs (l : List α) => ∃ v, cs = [v] ∧ SlC (Frz.all w) v k (l.map en)) := fun fuel cs y h => by
  obtain ⟨l, v, c, h1, h2, h3, h4⟩ := Opens.any ht hk hpos ho _ _ _ h; refine ⟨l, v, h1, ?_⟩
  have : c = l.map en := by
    apply List.ext_getElem (by simpa using h3); intro i hi hi2; rw [← zbc hi, h4 i (by omega), List.getElem_map, zbc (by omega)]
  rw [← this]; exact h2
theorem Opens.slD {t e : TypeId} {k : Nat} {α : Type} [Inhabited α] {rep : Frz → List Value → α → Prop} (ht : Tryz.prog.underlying t = some (.slice e)) (hk : Tryz.prog.cellsOf e = k) (hpos : 0 < k) (ho : Opens enc w base spare held e (rep (Frz.all w))) :
    Opens enc w base spare held t (fun cs (l : List α) => ∃ v c, cs = [v] ∧ SlD rep (Frz.all w) v k c l) := fun fuel cs y h => by
  obtain ⟨l, v, c, h1, h2, h3, h4⟩ := Opens.any ht hk hpos ho _ _ _ h; exact ⟨l, v, c, h1, h2, h3, h4⟩
end
end Go.Proofs.YtipomhejoajjdaaGreat
