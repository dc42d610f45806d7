/- Yr Ys Pc Pd Pk Pe Pl Pm Pn Vd Pt: shortened and put together by squeeze.py. -/
import Derived.Test.YtipomhejoajjdaaGreatQ08
set_option maxRecDepth 100000
set_option maxHeartbeats 4000000
set_option linter.unusedVariables false
set_option linter.unusedSectionVars false
set_option linter.unusedSimpArgs false
namespace Go.Proofs.YtipomhejoajjdaaGreat
open Go.RowKit
def za1  : GProblem :=
  (GProblem.mk [(GDomain.mk 1 [14, 15, 16]), (GDomain.mk 2 [14, 15]), (GDomain.mk 3 [15])] (GRules.mk [(GPair.mk 1 2 0 14 16), (GPair.mk 1 2 1 14 15)] [(GLoad.mk 3 2 5 14 51)] [(GCap.mk 3 4 14 51)]))
theorem zcJ (F0 : Frz) (w : World) (hF0 : F0.At w)  : Calls Tryz.prog 36 #[] w fun e w' => ∃ (y : Value × List (List Value) × Value × Value × Value) (G : Frz), (SlD GDomain.rep G y.1 2 y.2.1 ((za1).Domains) ∧ SlC G y.2.2.1 5 (((za1).Rules.Pairs).map GPair.enc) ∧ SlC G y.2.2.2.1 5 (((za1).Rules.Loads).map GLoad.enc) ∧ SlC G y.2.2.2.2 4 (((za1).Rules.Caps).map GCap.enc)) ∧ e = .returned (.agg [y.1, y.2.2.1, y.2.2.2.1, y.2.2.2.2].toArray) ∧ Fx F0 w G w' := by
  obtain ⟨r, hk⟩ : ∃ r, za1 = r := ⟨_, rfl⟩; rw [hk]; unfold za1 at hk; obtain ⟨S0, F1, rfl, hS0, hp0⟩ := zal hF0; refine zam Tryz.func36 rfl rfl rfl hp0 ?_; refine T.sr ?_; refine TL.e (Ew.alloc rfl) ?_; rintro _ _ ⟨g0, rfl, rfl⟩; refine TL.nx ?_; refine TL.e (Ew.buildSlice rfl rfl rfl (by decide)) ?_; rintro _ _ ⟨g1, rfl, rfl⟩; refine TL.ay (fun w hw => hw.freezeR (i := 2) (j := 0) (by decide) rfl rfl) ?_; rintro F2 ⟨le1_2, hz2⟩; dsimp only [List.set, List.eraseIdx]; have hf2 : SlC F2.toFrz (.slice (some ⟨g1, 0, none⟩) 3 3) 1 ([14, 15, 16].map eI) := (SlK.lit hz2 rfl (Nat.le_refl _) (by decide)).toF (xs := [14, 15, 16]) rfl (fun _ => rfl); refine TL.y (Yv.build rfl rfl) ?_; refine TL.e (Ew.buildSlice rfl rfl rfl (by decide)) ?_; rintro _ _ ⟨g3, rfl, rfl⟩; refine TL.ay (fun w hw => hw.freezeR (i := 2) (j := 0) (by decide) rfl rfl) ?_; rintro F3 ⟨le2_3, hz3⟩; dsimp only [List.set, List.eraseIdx]; have le1_3 := le1_2.trans le2_3; have hf3 : SlC F3.toFrz (.slice (some ⟨g3, 0, none⟩) 2 2) 1 ([14, 15].map eI) := (SlK.lit hz3 rfl (Nat.le_refl _) (by decide)).toF (xs := [14, 15]) rfl (fun _ => rfl); refine TL.y (Yv.build rfl rfl) ?_; refine TL.e (Ew.buildSlice rfl rfl rfl (by decide)) ?_; rintro _ _ ⟨g5, rfl, rfl⟩; refine TL.ay (fun w hw => hw.freezeR (i := 2) (j := 0) (by decide) rfl rfl) ?_; rintro F4 ⟨le3_4, hz4⟩; dsimp only [List.set, List.eraseIdx]; have le1_4 := le1_3.trans le3_4; have le2_4 := le2_3.trans le3_4; have hf4 : SlC F4.toFrz (.slice (some ⟨g5, 0, none⟩) 1 1) 1 ([15].map eI) := (SlK.lit hz4 rfl (Nat.le_refl _) (by decide)).toF (xs := [15]) rfl (fun _ => rfl); refine TL.y (Yv.build rfl rfl) ?_; refine TL.e (Ew.buildSlice rfl rfl rfl (by decide)) ?_; rintro _ _ ⟨g7, rfl, rfl⟩; have hl7 : OwnD GDomain.rep F4.toFrz 2 [[.int .i64 1, (.slice (some ⟨g1, 0, none⟩) 3 3)], [.int .i64 2, (.slice (some ⟨g3, 0, none⟩) 2 2)], [.int .i64 3, (.slice (some ⟨g5, 0, none⟩) 1 1)]] [(GDomain.mk 1 [14, 15, 16]), (GDomain.mk 2 [14, 15]), (GDomain.mk 3 [15])] := (OwnD.snoc (OwnD.snoc (OwnD.snoc (OwnD.nil _ _ 2) ⟨_, rfl, (SlC.mono hf2 le2_4)⟩ rfl) ⟨_, rfl, (SlC.mono hf3 le3_4)⟩ rfl) ⟨_, rfl, hf4⟩ rfl); refine TL.y (Yv.build rfl rfl) ?_; refine TL.y (Yv.build rfl rfl) ?_; refine TL.e (Ew.buildSlice rfl rfl rfl (by decide)) ?_; rintro _ _ ⟨g10, rfl, rfl⟩; refine TL.y (Yv.build rfl rfl) ?_; refine TL.e (Ew.buildSlice rfl rfl rfl (by decide)) ?_; rintro _ _ ⟨g12, rfl, rfl⟩; refine TL.y (Yv.build rfl rfl) ?_; refine TL.e (Ew.buildSlice rfl rfl rfl (by decide)) ?_; rintro _ _ ⟨g14, rfl, rfl⟩; refine TL.y (Yv.build rfl rfl) ?_; refine TL.y (Yv.build rfl rfl) ?_; refine TL.e0 (Ew.ah 4 rfl rfl rfl rfl rfl rfl) ?_; rintro _ _ ⟨rfl, rfl⟩; refine TL.ns (T.ret ?_); refine K.ay (fun w hw => hw.freezeR (i := 5) (j := 3) (by decide) rfl rfl) ?_; rintro F5 ⟨le4_5, hz5⟩; dsimp only [List.set, List.eraseIdx]; have le1_5 := le1_4.trans le4_5; have hf5 : SlD GDomain.rep F5.toFrz (.slice (some ⟨g7, 0, none⟩) 3 3) 2 [[.int .i64 1, (.slice (some ⟨g1, 0, none⟩) 3 3)], [.int .i64 2, (.slice (some ⟨g3, 0, none⟩) 2 2)], [.int .i64 3, (.slice (some ⟨g5, 0, none⟩) 1 1)]] [(GDomain.mk 1 [14, 15, 16]), (GDomain.mk 2 [14, 15]), (GDomain.mk 3 [15])] := (SlK.lit hz5 rfl (Nat.le_refl _) (by decide)).toD (OwnD.mono (rep := GDomain.rep) (fun _ _ _ _ => GDomain.mono) hl7 le4_5) rfl; refine K.ay (fun w hw => hw.freezeR (i := 4) (j := 2) (by decide) rfl rfl) ?_; rintro F6 ⟨le5_6, hz6⟩; dsimp only [List.set, List.eraseIdx]; have le1_6 := le1_5.trans le5_6; have hf6 : SlC F6.toFrz (.slice (some ⟨g10, 0, none⟩) 2 2) 5 ([(GPair.mk 1 2 0 14 16), (GPair.mk 1 2 1 14 15)].map GPair.enc) := (SlK.lit hz6 rfl (Nat.le_refl _) (by decide)).toF (xs := [(GPair.mk 1 2 0 14 16), (GPair.mk 1 2 1 14 15)]) rfl GPair.len; refine K.ay (fun w hw => hw.freezeR (i := 3) (j := 1) (by decide) rfl rfl) ?_; rintro F7 ⟨le6_7, hz7⟩; dsimp only [List.set, List.eraseIdx]; have le1_7 := le1_6.trans le6_7; have le5_7 := le5_6.trans le6_7; have hf7 : SlC F7.toFrz (.slice (some ⟨g12, 0, none⟩) 1 1) 5 ([(GLoad.mk 3 2 5 14 51)].map GLoad.enc) := (SlK.lit hz7 rfl (Nat.le_refl _) (by decide)).toF (xs := [(GLoad.mk 3 2 5 14 51)]) rfl GLoad.len; refine K.ay (fun w hw => hw.freezeR (i := 2) (j := 0) (by decide) rfl rfl) ?_; rintro F8 ⟨le7_8, hz8⟩; dsimp only [List.set, List.eraseIdx]; have le1_8 := le1_7.trans le7_8; have le5_8 := le5_7.trans le7_8; have le6_8 := le6_7.trans le7_8; have hf8 : SlC F8.toFrz (.slice (some ⟨g14, 0, none⟩) 1 1) 4 ([(GCap.mk 3 4 14 51)].map GCap.enc) := (SlK.lit hz8 rfl (Nat.le_refl _) (by decide)).toF (xs := [(GCap.mk 3 4 14 51)]) rfl GCap.len; subst hk; exact K.aO 0 rfl rfl rfl rfl (fun w' hw => ⟨((.slice (some ⟨g7, 0, none⟩) 3 3), [[.int .i64 1, (.slice (some ⟨g1, 0, none⟩) 3 3)], [.int .i64 2, (.slice (some ⟨g3, 0, none⟩) 2 2)], [.int .i64 3, (.slice (some ⟨g5, 0, none⟩) 1 1)]], (.slice (some ⟨g10, 0, none⟩) 2 2), (.slice (some ⟨g12, 0, none⟩) 1 1), (.slice (some ⟨g14, 0, none⟩) 1 1)), F8.toFrz, ⟨(SlD.mono (rep := GDomain.rep) (fun _ _ _ _ => GDomain.mono) hf5 le5_8), (SlC.mono hf6 le6_8), (SlC.mono hf7 le7_8), hf8⟩, rfl, Fx.of hw (i := 1) rfl hS0 le1_8⟩)
def zaW (a : Int) (b : Int) (c : Int) : List GChoice :=
  [(GChoice.mk 1 a), (GChoice.mk 2 b), (GChoice.mk 3 c)]
theorem zcR (F0 : Frz) (w : World) (hF0 : F0.At w) (a : Int) (b : Int) (c : Int) : Calls Tryz.prog 35 #[.int .i64 a, .int .i64 b, .int .i64 c] w fun e w' => ∃ (y : Value) (G : Frz), (SlC G y 2 ((zaW a b c).map GChoice.enc)) ∧ e = .returned (y) ∧ Fx F0 w G w' := by
  obtain ⟨r, hk⟩ : ∃ r, zaW a b c = r := ⟨_, rfl⟩; rw [hk]; unfold zaW at hk; obtain ⟨S0, F1, rfl, hS0, hp0⟩ := zal hF0; refine zam Tryz.func35 rfl rfl rfl hp0 ?_; refine T.sr ?_; refine TL.run 1 rfl ?_; refine TL.nx ?_; refine TL.run 1 rfl ?_; refine TL.y (Yv.build rfl rfl) ?_; refine TL.run 1 rfl ?_; refine TL.y (Yv.build rfl rfl) ?_; refine TL.run 1 rfl ?_; refine TL.y (Yv.build rfl rfl) ?_; refine TL.e (Ew.buildSlice rfl rfl rfl (by decide)) ?_; rintro _ _ ⟨g13, rfl, rfl⟩; refine TL.run 1 rfl ?_; refine TL.ns (T.ret ?_); refine K.ay (fun w hw => hw.freezeR (i := 1) (j := 0) (by decide) rfl rfl) ?_; rintro F2 ⟨le1_2, hz2⟩; dsimp only [List.set, List.eraseIdx]; have hf2 : SlC F2.toFrz (.slice (some ⟨g13, 0, none⟩) 3 3) 2 ([(GChoice.mk 1 a), (GChoice.mk 2 b), (GChoice.mk 3 c)].map GChoice.enc) := (SlK.lit hz2 rfl (Nat.le_refl _) (by decide)).toF (xs := [(GChoice.mk 1 a), (GChoice.mk 2 b), (GChoice.mk 3 c)]) rfl GChoice.len; subst hk; exact K.aj rfl rfl (fun w' hw => ⟨(.slice (some ⟨g13, 0, none⟩) 3 3), F2.toFrz, hf2, rfl, Fx.of hw (i := 0) rfl hS0 le1_2⟩)
def zcb (l : List GChoice) (kind : Int) (at_ : Int) : Option Bool :=
  (zdC (za1) l).bind fun r12 =>
  some (((decide (r12.2 = 0)) && (decide (r12.1.Kind = kind))) && (decide (r12.1.At = at_)))
theorem zc0 (F0 : Frz) (w : World) (hF0 : F0.At w) (l : List GChoice) (vl : Value) (hl : SlC F0 vl 2 (l.map GChoice.enc)) (kind : Int) (at_ : Int) (r : Bool) (hr : zcb l kind at_ = some r) : Calls Tryz.prog 34 #[vl, .int .i64 kind, .int .i64 at_] w fun e w' => e = .returned (.bool r) ∧ Below w.heap.size w w' := by
  have hk := hr; unfold zcb at hk; haveI := hl.oneC; obtain ⟨S0, F1, rfl, hS0, hp0⟩ := zal hF0; refine zam Tryz.func34 rfl rfl rfl hp0 ?_; refine T.sr ?_; refine TL.run 1 rfl ?_; refine TL.ns (T.seq ?_); have hq := zae hk; clear hk; obtain ⟨r12, hr12, hk⟩ := hq; (try dsimp only at hk); refine T.region ?_; refine TL.e (Ew.aw 0 rfl rfl rfl rfl (fun w hw hF => zcJ _ w hF )) ?_; rintro _ _ ⟨⟨v10_0_0, cs10_0_0, v10_0_1, v10_0_2, v10_0_3⟩, F2, le1_2, ⟨hf10_0_0, hf10_0_1, hf10_0_2, hf10_0_3⟩, rfl, rfl⟩; dsimp only at hf10_0_0 hf10_0_1 hf10_0_2 hf10_0_3 ⊢; haveI := hf10_0_0.1.oneC; haveI := hf10_0_1.oneC; haveI := hf10_0_2.oneC; haveI := hf10_0_3.oneC; refine TL.run 1 rfl ?_; refine TL.e (Ew.ag rfl rfl rfl (fun w hw => zfq _ w (hw.fr (i := 0) rfl) (za1) v10_0_0 cs10_0_0 hf10_0_0 v10_0_1 hf10_0_1 v10_0_2 hf10_0_2 v10_0_3 hf10_0_3 l vl (SlC.mono hl le1_2) r12 hr12)) ?_; rintro _ _ ⟨rfl, rfl⟩; refine TL.run 3 rfl ?_; refine TL.e (Ew.alloc rfl) ?_; rintro _ _ ⟨g7, rfl, rfl⟩; refine TL.e0 (Ew.ah 0 rfl rfl rfl rfl rfl rfl) ?_; rintro _ _ ⟨rfl, rfl⟩; refine TL.run 1 rfl ?_; refine TL.ns (T.seq ?_); refine T.af (ι := Unit) (fun z => [(6, .bool (((decide (r12.2 = 0)) && (decide (r12.1.Kind = kind))) && (decide (r12.1.At = at_))))]) (fun z => [.row g7 35 [.int .i64 r12.1.Kind, .int .i64 r12.1.At], .fr F2]) (fun z => True) ?_ ?_
  · refine T.region ?_; refine TL.run 3 rfl ?_; refine TL.gs rfl rfl rfl (fun h1 => ?_) (fun h1 => ?_)
    · have p1 := of_decide_eq_true h1; refine TL.y (Yv.fieldAddr rfl rfl) ?_; refine TL.y (Yv.aa 0 rfl rfl rfl rfl) ?_; refine TL.run 4 rfl ?_; refine TL.gs rfl rfl rfl (fun h2 => ?_) (fun h2 => ?_)
      · have p2 := of_decide_eq_true h2; refine TL.y (Yv.fieldAddr rfl rfl) ?_; refine TL.y (Yv.aa 0 rfl rfl rfl rfl) ?_; refine TL.run 4 rfl ?_; refine TL.nil ?_; exact K.ai () trivial (.b (zdE (zaX h1 h2)) .nil) (List.Sublist.refl _)
      · have p2 := of_decide_eq_false h2; refine TL.run 6 rfl ?_; refine TL.nil ?_; exact K.ai () trivial (.b (zaG (zaX h1 h2)).symm .nil) (List.Sublist.refl _)
    · have p1 := of_decide_eq_false h1; refine TL.run 12 rfl ?_; refine TL.nil ?_; exact K.ai () trivial (.b (zaG (zaG h1)).symm .nil) (List.Sublist.refl _)
  · rintro _ _; refine T.ret ?_; obtain rfl := Option.some.inj hk; exact K.aj rfl rfl (fun w' hw => ⟨rfl, hw.isBelow⟩)
def zcV (fuel : Nat)  : Option Bool :=
  (zcb (zaW 14 14 15) 3 0).bind fun r11 =>
  zaH (fun (x_1 : Bool) =>
    (bif x_1 then
      some false
      else
      grd (0 ≤ 2 ∧ 2 ≤ ((zaW 15 14 15).length : Int)) <|
      (zce (za1) ((zaW 15 14 15).take 2)).bind fun r38 =>
      (zce (za1) [(GChoice.mk 3 16)]).bind fun r45 =>
      (zce (za1) [(GChoice.mk 4 15)]).bind fun r52 =>
      (bif ((((((((decide (¬ r38.2 = 0)) || (decide (¬ r45.2 = 0))) || (decide (¬ r52.2 = 0))) || (decide (¬ r38.1.Kind = 0))) || (decide (¬ r45.1.Kind = 1))) || (decide (¬ r45.1.At = 2))) || (decide (¬ r52.1.Kind = 2))) || (decide (¬ r52.1.At = 0))) then
        some false
        else
        (zcY (za1) 2).bind fun r92 =>
        (zc7 (za1) [1, 3]).bind fun r98 =>
        (zbL fuel (GProblem.mk [(GDomain.mk 0 [2, 3])] (GRules.mk [] [] []))).bind fun r106 =>
        some (((((((((decide (r92.2 = 0)) && (decide (r98.2 = 0))) && (decide (r106.2 = 0))) && (zbw r92.1 [1, 3])) && (decide ((r98.1.Domains.length : Int) = 2))) && (decide ((r98.1.Rules.Pairs.length : Int) = 0))) && (decide ((r98.1.Rules.Loads.length : Int) = 0))) && (decide ((r98.1.Rules.Caps.length : Int) = 1))) && ((u8s r106.1) == ([1, 0, 3, 0, 0, 0] : List UInt8))))))
  (fun k2 =>
    (bif !r11 then
      k2 true
      else
      (zcb (zaW 14 15 15) 3 1).bind fun r15 =>
      (bif !r15 then
        k2 true
        else
        (zcb (zaW 15 14 15) 0 0).bind fun r20 =>
        (bif !r20 then
          k2 true
          else
          (zcb (zaW 16 15 15) 4 0).bind fun r25 =>
          (bif !r25 then
            k2 true
            else
            grd (0 ≤ 2 ∧ 2 ≤ ((zaW 15 14 15).length : Int)) <|
            (zcb ((zaW 15 14 15).take 2) 1 2).bind fun r31 =>
            k2 (!r31))))))
theorem zdS (F0 : Frz) (w : World) (hF0 : F0.At w)  (fuel : Nat) (r : Bool) (hr : zcV fuel = some r) : Calls Tryz.prog 10 #[] w fun e w' => e = .returned (.bool r) ∧ Below w.heap.size w w' := by
  have hk := hr; unfold zcV at hk; obtain ⟨S0, F1, rfl, hS0, hp0⟩ := zal hF0; refine zam Tryz.func10 rfl rfl rfl hp0 ?_; refine T.sr ?_; refine TL.run 1 rfl ?_; refine TL.ns (T.seq (T.seq ?_)); have hq := zae hk; clear hk; obtain ⟨r11, hr11, hk⟩ := hq; (try dsimp only at hk); have hq := zaf hk; clear hk; obtain ⟨k2, hk2, hk⟩ := hq; (try dsimp only at hk); refine T.af (ι := Bool × FzB w (fun _ => False) S0) (fun z => [(33, .bool z.1)]) (fun z => [.fr z.2]) (fun z => k2 z.1 = some r ∧ F1.toFrz.Le z.2.toFrz) ?_ ?_
  · refine T.region ?_; refine TL.e (Ew.aw 0 rfl rfl rfl rfl (fun w hw hF => zcR _ w hF 14 14 15)) ?_; rintro _ _ ⟨v10_0_0, F3, le1_3, hf10_0_0, hq, rfl⟩; obtain rfl := hq.symm; haveI := hf10_0_0.oneC; refine TL.e (Ew.ag rfl rfl rfl (fun w hw => zc0 _ w (hw.fr (i := 0) rfl) (zaW 14 14 15) v10_0_0 hf10_0_0 3 0 r11 hr11)) ?_; rintro _ _ ⟨rfl, rfl⟩; refine TL.run 2 rfl ?_; refine TL.gs rfl rfl rfl (fun h3 => ?_) (fun h3 => ?_)
    · replace hk := zac hk h3; refine TL.run 20 rfl ?_; refine TL.nil ?_; exact K.ai (true, F3) ⟨hk, le1_3⟩ (.c .nil) (List.Sublist.refl _)
    · replace hk := zab hk h3; refine TL.e (Ew.aw 0 rfl rfl rfl rfl (fun w hw hF => zcR _ w hF 14 15 15)) ?_; rintro _ _ ⟨v14_0_0, F4, le3_4, hf14_0_0, hq, rfl⟩; obtain rfl := hq.symm; have le1_4 := le1_3.trans le3_4; haveI := hf14_0_0.oneC; have hq := zae hk; clear hk; obtain ⟨r15, hr15, hk⟩ := hq; refine TL.e (Ew.ag rfl rfl rfl (fun w hw => zc0 _ w (hw.fr (i := 0) rfl) (zaW 14 15 15) v14_0_0 hf14_0_0 3 1 r15 hr15)) ?_; rintro _ _ ⟨rfl, rfl⟩; refine TL.run 3 rfl ?_; refine TL.gs rfl rfl rfl (fun h4 => ?_) (fun h4 => ?_)
      · replace hk := zac hk h4; refine TL.run 15 rfl ?_; refine TL.nil ?_; exact K.ai (true, F4) ⟨hk, le1_4⟩ (.c .nil) (List.Sublist.refl _)
      · replace hk := zab hk h4; refine TL.e (Ew.aw 0 rfl rfl rfl rfl (fun w hw hF => zcR _ w hF 15 14 15)) ?_; rintro _ _ ⟨v19_0_0, F5, le4_5, hf19_0_0, hq, rfl⟩; obtain rfl := hq.symm; have le1_5 := le1_4.trans le4_5; haveI := hf19_0_0.oneC; have hq := zae hk; clear hk; obtain ⟨r20, hr20, hk⟩ := hq; refine TL.e (Ew.ag rfl rfl rfl (fun w hw => zc0 _ w (hw.fr (i := 0) rfl) (zaW 15 14 15) v19_0_0 hf19_0_0 0 0 r20 hr20)) ?_; rintro _ _ ⟨rfl, rfl⟩; refine TL.run 3 rfl ?_; refine TL.gs rfl rfl rfl (fun h5 => ?_) (fun h5 => ?_)
        · replace hk := zac hk h5; refine TL.run 10 rfl ?_; refine TL.nil ?_; exact K.ai (true, F5) ⟨hk, le1_5⟩ (.c .nil) (List.Sublist.refl _)
        · replace hk := zab hk h5; refine TL.e (Ew.aw 0 rfl rfl rfl rfl (fun w hw hF => zcR _ w hF 16 15 15)) ?_; rintro _ _ ⟨v24_0_0, F6, le5_6, hf24_0_0, hq, rfl⟩; obtain rfl := hq.symm; have le1_6 := le1_5.trans le5_6; haveI := hf24_0_0.oneC; have hq := zae hk; clear hk; obtain ⟨r25, hr25, hk⟩ := hq; refine TL.e (Ew.ag rfl rfl rfl (fun w hw => zc0 _ w (hw.fr (i := 0) rfl) (zaW 16 15 15) v24_0_0 hf24_0_0 4 0 r25 hr25)) ?_; rintro _ _ ⟨rfl, rfl⟩; refine TL.run 3 rfl ?_; refine TL.gs rfl rfl rfl (fun h6 => ?_) (fun h6 => ?_)
          · replace hk := zac hk h6; refine TL.run 5 rfl ?_; refine TL.nil ?_; exact K.ai (true, F6) ⟨hk, le1_6⟩ (.c .nil) (List.Sublist.refl _)
          · replace hk := zab hk h6; refine TL.e (Ew.aw 0 rfl rfl rfl rfl (fun w hw hF => zcR _ w hF 15 14 15)) ?_; rintro _ _ ⟨v29_0_0, F7, le6_7, hf29_0_0, hq, rfl⟩; obtain rfl := hq.symm; have le1_7 := le1_6.trans le6_7; haveI := hf29_0_0.oneC; have hq : (0 ≤ 2 ∧ 2 ≤ ((zaW 15 14 15).length : Int)) ∧ _ := zaj hk; clear hk; obtain ⟨g30h, hk⟩ := hq; refine TL.y (Yv.bL (i := 2) rfl rfl rfl hf29_0_0 (List.length_map _) (show (2 : Int) = ((2 : Nat) : Int) from rfl) (by omega)) ?_; have hs30_ : SlC F7.toFrz (zdw v29_0_0 0 2 2) 2 (((zaW 15 14 15).take 2).map GChoice.enc) := hf29_0_0.sliceh (i := 2) (by omega); haveI := hs30_.oneC; have hq := zae hk; clear hk; obtain ⟨r31, hr31, hk⟩ := hq; refine TL.e (Ew.ag rfl rfl rfl (fun w hw => zc0 _ w (hw.fr (i := 0) rfl) ((zaW 15 14 15).take 2) (zdw v29_0_0 0 2 2) hs30_ 1 2 r31 hr31)) ?_; rintro _ _ ⟨rfl, rfl⟩; refine TL.run 2 rfl ?_; refine TL.nil ?_; exact K.ai (!r31, F7) ⟨hk, le1_7⟩ (.c .nil) (List.Sublist.refl _)
  · rintro ⟨x_1, F2⟩ ⟨hk, le1_2⟩; (try dsimp only at *); rw [← hk2] at hk; (try dsimp only at hk); refine T.cond rfl (fun h7 => ?_) (fun h7 => ?_)
    · replace hk := zac hk h7; refine T.sr ?_; refine TL.run 1 rfl ?_; refine TL.ns (T.ret (K.then_ret ?_)); obtain rfl := Option.some.inj hk; exact K.aj rfl rfl (fun w' hw => ⟨rfl, hw.isBelow⟩)
    · replace hk := zab hk h7; refine T.skip (K.seq (T.seq ?_)); have hq : (0 ≤ 2 ∧ 2 ≤ ((zaW 15 14 15).length : Int)) ∧ _ := zaj hk; clear hk; obtain ⟨g37h, hk⟩ := hq; have hq := zae hk; clear hk; obtain ⟨r38, hr38, hk⟩ := hq; (try dsimp only at hk); refine T.region ?_; refine TL.e (Ew.aw 0 rfl rfl rfl rfl (fun w hw hF => zcJ _ w hF )) ?_; rintro _ _ ⟨⟨v35_0_0, cs35_0_0, v35_0_1, v35_0_2, v35_0_3⟩, F8, le2_8, ⟨hf35_0_0, hf35_0_1, hf35_0_2, hf35_0_3⟩, rfl, rfl⟩; dsimp only at hf35_0_0 hf35_0_1 hf35_0_2 hf35_0_3 ⊢; haveI := hf35_0_0.1.oneC; haveI := hf35_0_1.oneC; haveI := hf35_0_2.oneC; haveI := hf35_0_3.oneC; refine TL.e (Ew.aw 0 rfl rfl rfl rfl (fun w hw hF => zcR _ w hF 15 14 15)) ?_; rintro _ _ ⟨v36_0_0, F9, le8_9, hf36_0_0, hq, rfl⟩; obtain rfl := hq.symm; haveI := hf36_0_0.oneC; refine TL.y (Yv.bL (i := 2) rfl rfl rfl hf36_0_0 (List.length_map _) (show (2 : Int) = ((2 : Nat) : Int) from rfl) (by omega)) ?_; have hs37_ : SlC F9.toFrz (zdw v36_0_0 0 2 2) 2 (((zaW 15 14 15).take 2).map GChoice.enc) := hf36_0_0.sliceh (i := 2) (by omega); haveI := hs37_.oneC; refine TL.e (Ew.ag rfl rfl rfl (fun w hw => zdd _ w (hw.fr (i := 0) rfl) (za1) v35_0_0 cs35_0_0 (SlD.mono (rep := GDomain.rep) (fun _ _ _ _ => GDomain.mono) hf35_0_0 le8_9) v35_0_1 (SlC.mono hf35_0_1 le8_9) v35_0_2 (SlC.mono hf35_0_2 le8_9) v35_0_3 (SlC.mono hf35_0_3 le8_9) ((zaW 15 14 15).take 2) (zdw v36_0_0 0 2 2) hs37_ r38 hr38)) ?_; rintro _ _ ⟨rfl, rfl⟩; refine TL.run 3 rfl ?_; refine TL.e (Ew.alloc rfl) ?_; rintro _ _ ⟨g1, rfl, rfl⟩; refine TL.e0 (Ew.ah 0 rfl rfl rfl rfl rfl rfl) ?_; rintro _ _ ⟨rfl, rfl⟩; refine TL.run 1 rfl ?_; refine TL.ns (T.seq ?_); have hq := zae hk; clear hk; obtain ⟨r45, hr45, hk⟩ := hq; (try dsimp only at hk); refine T.region ?_; refine TL.e (Ew.aw 1 rfl rfl rfl rfl (fun w hw hF => zcJ _ w hF )) ?_; rintro _ _ ⟨⟨v42_0_0, cs42_0_0, v42_0_1, v42_0_2, v42_0_3⟩, F10, le9_10, ⟨hf42_0_0, hf42_0_1, hf42_0_2, hf42_0_3⟩, rfl, rfl⟩; dsimp only at hf42_0_0 hf42_0_1 hf42_0_2 hf42_0_3 ⊢; haveI := hf42_0_0.1.oneC; haveI := hf42_0_1.oneC; haveI := hf42_0_2.oneC; haveI := hf42_0_3.oneC; refine TL.y (Yv.build rfl rfl) ?_; refine TL.e (Ew.buildSlice rfl rfl rfl (by decide)) ?_; rintro _ _ ⟨g44, rfl, rfl⟩; refine TL.ay (fun w hw => hw.freezeR (i := 2) (j := 0) (by decide) rfl rfl) ?_; rintro F11 ⟨le10_11, hz11⟩; dsimp only [List.set, List.eraseIdx]; have hf11 : SlC F11.toFrz (.slice (some ⟨g44, 0, none⟩) 1 1) 2 ([(GChoice.mk 3 16)].map GChoice.enc) := (SlK.lit hz11 rfl (Nat.le_refl _) (by decide)).toF (xs := [(GChoice.mk 3 16)]) rfl GChoice.len; refine TL.e (Ew.ag rfl rfl rfl (fun w hw => zdd _ w (hw.fr (i := 1) rfl) (za1) v42_0_0 cs42_0_0 (SlD.mono (rep := GDomain.rep) (fun _ _ _ _ => GDomain.mono) hf42_0_0 le10_11) v42_0_1 (SlC.mono hf42_0_1 le10_11) v42_0_2 (SlC.mono hf42_0_2 le10_11) v42_0_3 (SlC.mono hf42_0_3 le10_11) [(GChoice.mk 3 16)] (.slice (some ⟨g44, 0, none⟩) 1 1) hf11 r45 hr45)) ?_; rintro _ _ ⟨rfl, rfl⟩; refine TL.run 3 rfl ?_; refine TL.e (Ew.alloc rfl) ?_; rintro _ _ ⟨g3, rfl, rfl⟩; refine TL.e0 (Ew.ah 0 rfl rfl rfl rfl rfl rfl) ?_; rintro _ _ ⟨rfl, rfl⟩; refine TL.run 1 rfl ?_; refine TL.ns (T.seq ?_); have hq := zae hk; clear hk; obtain ⟨r52, hr52, hk⟩ := hq; (try dsimp only at hk); refine T.region ?_; refine TL.e (Ew.aw 2 rfl rfl rfl rfl (fun w hw hF => zcJ _ w hF )) ?_; rintro _ _ ⟨⟨v49_0_0, cs49_0_0, v49_0_1, v49_0_2, v49_0_3⟩, F12, le11_12, ⟨hf49_0_0, hf49_0_1, hf49_0_2, hf49_0_3⟩, rfl, rfl⟩; dsimp only at hf49_0_0 hf49_0_1 hf49_0_2 hf49_0_3 ⊢; haveI := hf49_0_0.1.oneC; haveI := hf49_0_1.oneC; haveI := hf49_0_2.oneC; haveI := hf49_0_3.oneC; refine TL.y (Yv.build rfl rfl) ?_; refine TL.e (Ew.buildSlice rfl rfl rfl (by decide)) ?_; rintro _ _ ⟨g51, rfl, rfl⟩; refine TL.ay (fun w hw => hw.freezeR (i := 3) (j := 0) (by decide) rfl rfl) ?_
      rintro F13 ⟨le12_13, hz13⟩; dsimp only [List.set, List.eraseIdx]; have hf13 : SlC F13.toFrz (.slice (some ⟨g51, 0, none⟩) 1 1) 2 ([(GChoice.mk 4 15)].map GChoice.enc) := (SlK.lit hz13 rfl (Nat.le_refl _) (by decide)).toF (xs := [(GChoice.mk 4 15)]) rfl GChoice.len; refine TL.e (Ew.ag rfl rfl rfl (fun w hw => zdd _ w (hw.fr (i := 2) rfl) (za1) v49_0_0 cs49_0_0 (SlD.mono (rep := GDomain.rep) (fun _ _ _ _ => GDomain.mono) hf49_0_0 le12_13) v49_0_1 (SlC.mono hf49_0_1 le12_13) v49_0_2 (SlC.mono hf49_0_2 le12_13) v49_0_3 (SlC.mono hf49_0_3 le12_13) [(GChoice.mk 4 15)] (.slice (some ⟨g51, 0, none⟩) 1 1) hf13 r52 hr52)) ?_; rintro _ _ ⟨rfl, rfl⟩; refine TL.run 3 rfl ?_; refine TL.e (Ew.alloc rfl) ?_; rintro _ _ ⟨g5, rfl, rfl⟩; refine TL.e0 (Ew.ah 0 rfl rfl rfl rfl rfl rfl) ?_; rintro _ _ ⟨rfl, rfl⟩; refine TL.run 1 rfl ?_; refine TL.ns (T.seq (T.seq ?_)); refine T.af (ι := Unit) (fun z => [(89, .bool ((((((((decide (¬ r38.2 = 0)) || (decide (¬ r45.2 = 0))) || (decide (¬ r52.2 = 0))) || (decide (¬ r38.1.Kind = 0))) || (decide (¬ r45.1.Kind = 1))) || (decide (¬ r45.1.At = 2))) || (decide (¬ r52.1.Kind = 2))) || (decide (¬ r52.1.At = 0))))]) (fun z => [.row g5 35 [.int .i64 r52.1.Kind, .int .i64 r52.1.At], .row g3 35 [.int .i64 r45.1.Kind, .int .i64 r45.1.At], .row g1 35 [.int .i64 r38.1.Kind, .int .i64 r38.1.At], .fr F13]) (fun z => True) ?_ ?_
      · refine T.region ?_; refine TL.run 3 rfl ?_; refine TL.gs rfl rfl rfl (fun h8 => ?_) (fun h8 => ?_)
        · have p8 := of_decide_eq_true h8; refine TL.run 32 rfl ?_; refine TL.nil ?_; exact K.ai () trivial (.b (zbW (zbW (zbW (zbW (zbW (zbW (zbW h8))))))).symm .nil) (List.Sublist.refl _)
        · have p8 := of_decide_eq_false h8; refine TL.run 4 rfl ?_; refine TL.gs rfl rfl rfl (fun h9 => ?_) (fun h9 => ?_)
          · have p9 := of_decide_eq_true h9; refine TL.run 28 rfl ?_; refine TL.nil ?_; exact K.ai () trivial (.b (zbW (zbW (zbW (zbW (zbW (zbW (zct h8 h9))))))).symm .nil) (List.Sublist.refl _)
          · have p9 := of_decide_eq_false h9; refine TL.run 4 rfl ?_; refine TL.gs rfl rfl rfl (fun h10 => ?_) (fun h10 => ?_)
            · have p10 := of_decide_eq_true h10; refine TL.run 24 rfl ?_; refine TL.nil ?_; exact K.ai () trivial (.b (zbW (zbW (zbW (zbW (zbW (zct (zct h8 h9) h10)))))).symm .nil) (List.Sublist.refl _)
            · have p10 := of_decide_eq_false h10; refine TL.y (Yv.fieldAddr rfl rfl) ?_; refine TL.y (Yv.aa 2 rfl rfl rfl rfl) ?_; refine TL.run 3 rfl ?_; refine TL.gs rfl rfl rfl (fun h11 => ?_) (fun h11 => ?_)
              · have p11 := of_decide_eq_true h11; refine TL.run 19 rfl ?_; refine TL.nil ?_; exact K.ai () trivial (.b (zbW (zbW (zbW (zbW (zct (zct (zct h8 h9) h10) h11))))).symm .nil) (List.Sublist.refl _)
              · have p11 := of_decide_eq_false h11; refine TL.y (Yv.fieldAddr rfl rfl) ?_; refine TL.y (Yv.aa 1 rfl rfl rfl rfl) ?_; refine TL.run 3 rfl ?_; refine TL.gs rfl rfl rfl (fun h12 => ?_) (fun h12 => ?_)
                · have p12 := of_decide_eq_true h12; refine TL.run 14 rfl ?_; refine TL.nil ?_; exact K.ai () trivial (.b (zbW (zbW (zbW (zct (zct (zct (zct h8 h9) h10) h11) h12)))).symm .nil) (List.Sublist.refl _)
                · have p12 := of_decide_eq_false h12; refine TL.y (Yv.fieldAddr rfl rfl) ?_; refine TL.y (Yv.aa 1 rfl rfl rfl rfl) ?_; refine TL.run 3 rfl ?_; refine TL.gs rfl rfl rfl (fun h13 => ?_) (fun h13 => ?_)
                  · have p13 := of_decide_eq_true h13; refine TL.run 9 rfl ?_; refine TL.nil ?_; exact K.ai () trivial (.b (zbW (zbW (zct (zct (zct (zct (zct h8 h9) h10) h11) h12) h13))).symm .nil) (List.Sublist.refl _)
                  · have p13 := of_decide_eq_false h13; refine TL.y (Yv.fieldAddr rfl rfl) ?_; refine TL.y (Yv.aa 0 rfl rfl rfl rfl) ?_; refine TL.run 3 rfl ?_; refine TL.gs rfl rfl rfl (fun h14 => ?_) (fun h14 => ?_)
                    · have p14 := of_decide_eq_true h14; refine TL.run 4 rfl ?_; refine TL.nil ?_; exact K.ai () trivial (.b (zbW (zct (zct (zct (zct (zct (zct h8 h9) h10) h11) h12) h13) h14)).symm .nil) (List.Sublist.refl _)
                    · have p14 := of_decide_eq_false h14; refine TL.y (Yv.fieldAddr rfl rfl) ?_; refine TL.y (Yv.aa 0 rfl rfl rfl rfl) ?_; refine TL.run 2 rfl ?_; refine TL.nil ?_; exact K.ai () trivial (.b (or_f (zct (zct (zct (zct (zct (zct h8 h9) h10) h11) h12) h13) h14)) .nil) (List.Sublist.refl _)
      · rintro _ _; refine T.cond rfl (fun h15 => ?_) (fun h15 => ?_)
        · replace hk := zac hk h15; refine T.sr ?_; refine TL.run 1 rfl ?_; refine TL.ns (T.ret (K.then_ret ?_)); obtain rfl := Option.some.inj hk; exact K.aj rfl rfl (fun w' hw => ⟨rfl, hw.isBelow⟩)
        · have p15 := h15; (try simp only [nfB] at p15); replace hk := zab hk h15; refine T.skip (K.seq (T.seq ?_)); have hq := zae hk; clear hk; obtain ⟨r92, hr92, hk⟩ := hq; (try dsimp only at hk); refine T.region ?_; refine TL.e (Ew.aw 3 rfl rfl rfl rfl (fun w hw hF => zcJ _ w hF )) ?_; rintro _ _ ⟨⟨v91_0_0, cs91_0_0, v91_0_1, v91_0_2, v91_0_3⟩, F14, le13_14, ⟨hf91_0_0, hf91_0_1, hf91_0_2, hf91_0_3⟩, rfl, rfl⟩; dsimp only at hf91_0_0 hf91_0_1 hf91_0_2 hf91_0_3 ⊢; haveI := hf91_0_0.1.oneC; haveI := hf91_0_1.oneC; haveI := hf91_0_2.oneC; haveI := hf91_0_3.oneC; refine TL.e (Ew.aw 3 rfl rfl rfl rfl (fun w hw hF => zes _ w hF (za1) v91_0_0 cs91_0_0 hf91_0_0 v91_0_1 hf91_0_1 v91_0_2 hf91_0_2 v91_0_3 hf91_0_3 2 r92 hr92)) ?_; rintro _ _ ⟨v92_0_0, F15, le14_15, hf92_0_0, rfl, rfl⟩; haveI := hf92_0_0.oneC; refine TL.run 5 rfl ?_; refine TL.ns (T.seq ?_); have hq := zae hk; clear hk; obtain ⟨r98, hr98, hk⟩ := hq; (try dsimp only at hk); refine T.region ?_; refine TL.e (Ew.aw 3 rfl rfl rfl rfl (fun w hw hF => zcJ _ w hF )) ?_; rintro _ _ ⟨⟨v96_0_0, cs96_0_0, v96_0_1, v96_0_2, v96_0_3⟩, F16, le15_16, ⟨hf96_0_0, hf96_0_1, hf96_0_2, hf96_0_3⟩, rfl, rfl⟩; dsimp only at hf96_0_0 hf96_0_1 hf96_0_2 hf96_0_3 ⊢; haveI := hf96_0_0.1.oneC; haveI := hf96_0_1.oneC; haveI := hf96_0_2.oneC; haveI := hf96_0_3.oneC; refine TL.e (Ew.buildSlice rfl rfl rfl (by decide)) ?_; rintro _ _ ⟨g97, rfl, rfl⟩; refine TL.ay (fun w hw => hw.freezeR (i := 4) (j := 0) (by decide) rfl rfl) ?_; rintro F17 ⟨le16_17, hz17⟩; dsimp only [List.set, List.eraseIdx]; have le15_17 := le15_16.trans le16_17; have hf17 : SlC F17.toFrz (.slice (some ⟨g97, 0, none⟩) 2 2) 1 ([1, 3].map eI) := (SlK.lit hz17 rfl (Nat.le_refl _) (by decide)).toF (xs := [1, 3]) rfl (fun _ => rfl); refine TL.e (Ew.aw 3 rfl rfl rfl rfl (fun w hw hF => zeN _ w hF (za1) v96_0_0 cs96_0_0 (SlD.mono (rep := GDomain.rep) (fun _ _ _ _ => GDomain.mono) hf96_0_0 le16_17) v96_0_1 (SlC.mono hf96_0_1 le16_17) v96_0_2 (SlC.mono hf96_0_2 le16_17) v96_0_3 (SlC.mono hf96_0_3 le16_17) [1, 3] (.slice (some ⟨g97, 0, none⟩) 2 2) hf17 r98 hr98)) ?_; rintro _ _ ⟨⟨v98_0_0, cs98_0_0, v98_0_1, v98_0_2, v98_0_3⟩, F18, le17_18, ⟨hf98_0_0, hf98_0_1, hf98_0_2, hf98_0_3⟩, rfl, rfl⟩; dsimp only at hf98_0_0 hf98_0_1 hf98_0_2 hf98_0_3 ⊢; have le15_18 := le15_17.trans le17_18; haveI := hf98_0_0.1.oneC; haveI := hf98_0_1.oneC; haveI := hf98_0_2.oneC; haveI := hf98_0_3.oneC; refine TL.run 3 rfl ?_; refine TL.e (Ew.alloc rfl) ?_; rintro _ _ ⟨g8, rfl, rfl⟩; refine TL.e0 (Ew.ah 0 rfl rfl rfl rfl rfl rfl) ?_; rintro _ _ ⟨rfl, rfl⟩; refine TL.run 1 rfl ?_; refine TL.ns (T.seq ?_); have hq := zae hk; clear hk; obtain ⟨r106, hr106, hk⟩ := hq; (try dsimp only at hk); refine T.region ?_; refine TL.e (Ew.buildSlice rfl rfl rfl (by decide)) ?_; rintro _ _ ⟨g102, rfl, rfl⟩; refine TL.ay (fun w hw => hw.freezeR (i := 5) (j := 0) (by decide) rfl rfl) ?_; rintro F19 ⟨le18_19, hz19⟩; dsimp only [List.set, List.eraseIdx]; have le15_19 := le15_18.trans le18_19; have hf19 : SlC F19.toFrz (.slice (some ⟨g102, 0, none⟩) 2 2) 1 ([2, 3].map eI) := (SlK.lit hz19 rfl (Nat.le_refl _) (by decide)).toF (xs := [2, 3]) rfl (fun _ => rfl); refine TL.y (Yv.build rfl rfl) ?_; refine TL.e (Ew.buildSlice rfl rfl rfl (by decide)) ?_; rintro _ _ ⟨g104, rfl, rfl⟩; have hl104 : OwnD GDomain.rep F19.toFrz 2 [[.int .i64 0, (.slice (some ⟨g102, 0, none⟩) 2 2)]] [(GDomain.mk 0 [2, 3])] := (OwnD.snoc (OwnD.nil _ _ 2) ⟨_, rfl, hf19⟩ rfl); refine TL.ay (fun w hw => hw.freezeR (i := 5) (j := 0) (by decide) rfl rfl) ?_; rintro F20 ⟨le19_20, hz20⟩; dsimp only [List.set, List.eraseIdx]; have le15_20 := le15_19.trans le19_20; have le18_20 := le18_19.trans le19_20; have hf20 : SlD GDomain.rep F20.toFrz (.slice (some ⟨g104, 0, none⟩) 1 1) 2 [[.int .i64 0, (.slice (some ⟨g102, 0, none⟩) 2 2)]] [(GDomain.mk 0 [2, 3])] := (SlK.lit hz20 rfl (Nat.le_refl _) (by decide)).toD (OwnD.mono (rep := GDomain.rep) (fun _ _ _ _ => GDomain.mono) hl104 le19_20) rfl; refine TL.y (Yv.build rfl rfl) ?_; refine TL.e (Ew.aJ [4, 0, 1, 2, 3] [] [.row g8 29 [v98_0_0, v98_0_1, v98_0_2, v98_0_3], .row g5 35 [.int .i64 r52.1.Kind, .int .i64 r52.1.At], .row g3 35 [.int .i64 r45.1.Kind, .int .i64 r45.1.At], .row g1 35 [.int .i64 r38.1.Kind, .int .i64 r38.1.At]] rfl rfl rfl rfl (by decide) (fun w hw hw2 hF => zd7 _ w hF (GProblem.mk [(GDomain.mk 0 [2, 3])] (GRules.mk [] [] [])) (.slice (some ⟨g104, 0, none⟩) 1 1) [[.int .i64 0, (.slice (some ⟨g102, 0, none⟩) 2 2)]] hf20 (.slice none 0 0) (SlC.nil _ 5) (.slice none 0 0) (SlC.nil _ 5) (.slice none 0 0) (SlC.nil _ 4) fuel r106 hr106)) ?_; rintro _ _ ⟨v106_0_0, F21, le20_21, -, rfl, rfl⟩; dsimp only [List.cons_append, List.nil_append]; have le15_21 := le15_20.trans le20_21; have le18_21 := le18_20.trans le20_21; refine TL.az 0 rfl ?_; intro iv106_0_0 hmv106_0_0; refine TL.run 5 rfl ?_; refine TL.ns (T.seq ?_); refine T.ay (fun w hw => hw.freezeS (i := 1) (j := 0) (by decide) rfl rfl) ?_; rintro F22 ⟨le21_22, hz22⟩; dsimp only [List.set, List.eraseIdx]; have le15_22 := le15_21.trans le21_22; have le18_22 := le18_21.trans le21_22; have hf22 := hz22.toF rfl (fun _ => rfl); haveI := hf22.oneC; refine T.af (ι := FzB w (fun _ => False) S0) (fun z => [(0, .bool (((((((((decide (r92.2 = 0)) && (decide (r98.2 = 0))) && (decide (r106.2 = 0))) && (zbw r92.1 [1, 3])) && (decide ((r98.1.Domains.length : Int) = 2))) && (decide ((r98.1.Rules.Pairs.length : Int) = 0))) && (decide ((r98.1.Rules.Loads.length : Int) = 0))) && (decide ((r98.1.Rules.Caps.length : Int) = 1))) && ((u8s r106.1) == ([1, 0, 3, 0, 0, 0] : List UInt8))))]) (fun z => [.row g8 29 [v98_0_0, v98_0_1, v98_0_2, v98_0_3], .row g5 35 [.int .i64 r52.1.Kind, .int .i64 r52.1.At], .row g3 35 [.int .i64 r45.1.Kind, .int .i64 r45.1.At], .row g1 35 [.int .i64 r38.1.Kind, .int .i64 r38.1.At], .fr z]) (fun z => F22.toFrz.Le z.toFrz) ?_ ?_
          · refine T.region ?_; refine TL.run 3 rfl ?_; refine TL.gs rfl rfl rfl (fun h16 => ?_) (fun h16 => ?_)
            · have p16 := of_decide_eq_true h16; refine TL.run 4 rfl ?_; refine TL.gs rfl rfl rfl (fun h17 => ?_) (fun h17 => ?_)
              · have p17 := of_decide_eq_true h17; refine TL.run 4 rfl ?_; refine TL.gs rfl rfl rfl (fun h18 => ?_) (fun h18 => ?_)
                · have p18 := of_decide_eq_true h18; refine TL.run 1 rfl ?_; refine TL.e (Ew.buildSlice rfl rfl rfl (by decide)) ?_; rintro _ _ ⟨g121, rfl, rfl⟩; refine TL.ay (fun w hw => hw.freezeR (i := 1) (j := 0) (by decide) rfl rfl) ?_; rintro F24 ⟨le22_24, hz24⟩; dsimp only [List.set, List.eraseIdx]; have le15_24 := le15_22.trans le22_24; have le18_24 := le18_22.trans le22_24; have hf24 : SlC F24.toFrz (.slice (some ⟨g121, 0, none⟩) 2 2) 1 ([1, 3].map eI) := (SlK.lit hz24 rfl (Nat.le_refl _) (by decide)).toF (xs := [1, 3]) rfl (fun _ => rfl); refine TL.e (Ew.ag rfl rfl rfl (fun w hw => zd4 _ w (hw.fr (i := 0) rfl) r92.1 v92_0_0 (SlC.mono hf92_0_0 le15_24) [1, 3] (.slice (some ⟨g121, 0, none⟩) 2 2) hf24)) ?_; rintro _ _ ⟨rfl, rfl⟩; refine TL.run 2 rfl ?_; refine TL.gs rfl rfl rfl (fun h19 => ?_) (fun h19 => ?_)
                  · refine TL.y (Yv.fieldAddr rfl rfl) ?_; refine TL.y (Yv.aa 1 rfl rfl rfl rfl) ?_; refine TL.y (Yv.an rfl rfl (SlD.mono (rep := GDomain.rep) (fun _ _ _ _ => GDomain.mono) hf98_0_0 le18_24).1 (SlD.mono (rep := GDomain.rep) (fun _ _ _ _ => GDomain.mono) hf98_0_0 le18_24).2.1) ?_; have hm127 : r98.1.Domains.length ≤ 9223372036854775807 := (SlD.mono (rep := GDomain.rep) (fun _ _ _ _ => GDomain.mono) hf98_0_0 le18_24).2.1 ▸ (SlD.mono (rep := GDomain.rep) (fun _ _ _ _ => GDomain.mono) hf98_0_0 le18_24).1.max; refine TL.run 3 rfl ?_; refine TL.gs rfl rfl rfl (fun h20 => ?_) (fun h20 => ?_)
                    · have p20 := of_decide_eq_true h20; refine TL.y (Yv.fieldAddr rfl rfl) ?_; refine TL.y (Yv.fieldAddr rfl rfl) ?_; refine TL.y (Yv.aa 1 rfl rfl rfl rfl) ?_; refine TL.y (Yv.an rfl rfl (SlC.mono hf98_0_1 le18_24) (List.length_map _)) ?_; have hm134 : r98.1.Rules.Pairs.length ≤ 9223372036854775807 := (List.length_map _) ▸ (SlC.mono hf98_0_1 le18_24).max; refine TL.run 3 rfl ?_; refine TL.gs rfl rfl rfl (fun h21 => ?_) (fun h21 => ?_)
                      · have p21 := of_decide_eq_true h21; refine TL.y (Yv.fieldAddr rfl rfl) ?_; refine TL.y (Yv.fieldAddr rfl rfl) ?_; refine TL.y (Yv.aa 1 rfl rfl rfl rfl) ?_; refine TL.y (Yv.an rfl rfl (SlC.mono hf98_0_2 le18_24) (List.length_map _)) ?_; have hm141 : r98.1.Rules.Loads.length ≤ 9223372036854775807 := (List.length_map _) ▸ (SlC.mono hf98_0_2 le18_24).max; refine TL.run 3 rfl ?_; refine TL.gs rfl rfl rfl (fun h22 => ?_) (fun h22 => ?_)
                        · have p22 := of_decide_eq_true h22; refine TL.y (Yv.fieldAddr rfl rfl) ?_; refine TL.y (Yv.fieldAddr rfl rfl) ?_; refine TL.y (Yv.aa 1 rfl rfl rfl rfl) ?_; refine TL.y (Yv.an rfl rfl (SlC.mono hf98_0_3 le18_24) (List.length_map _)) ?_; have hm148 : r98.1.Rules.Caps.length ≤ 9223372036854775807 := (List.length_map _) ▸ (SlC.mono hf98_0_3 le18_24).max; refine TL.run 3 rfl ?_; refine TL.gs rfl rfl rfl (fun h23 => ?_) (fun h23 => ?_)
                          · have p23 := of_decide_eq_true h23; refine TL.run 1 rfl ?_; refine TL.y (Yv.bd 0 (e := 5) (by kernel_rfl) (by kernel_rfl) (by kernel_rfl) rfl rfl rfl (SlC.mono hf22 le22_24)) ?_; refine TL.y (Yv.bz (a := (u8s r106.1)) (b := ([1, 0, 3, 0, 0, 0] : List UInt8)) rfl rfl rfl) ?_; refine TL.run 2 rfl ?_; refine TL.nil ?_; refine K.pick [1, 2, 3, 4, 0] rfl (by decide) ?_; exact K.ai F24 le22_24 (.b (zdE (zaX (zaX (zaX (zaX (zaX (zaX (zaX h16 h17) h18) h19) h20) h21) h22) h23)) .nil) (List.Sublist.refl _)
                          · have p23 := of_decide_eq_false h23; refine TL.run 5 rfl ?_; refine TL.nil ?_; refine K.pick [1, 2, 3, 4, 0] rfl (by decide) ?_; exact K.ai F24 le22_24 (.b (zaG (zaX (zaX (zaX (zaX (zaX (zaX (zaX h16 h17) h18) h19) h20) h21) h22) h23)).symm .nil) (List.Sublist.refl _)
                        · have p22 := of_decide_eq_false h22; refine TL.run 12 rfl ?_; refine TL.nil ?_; refine K.pick [1, 2, 3, 4, 0] rfl (by decide) ?_; exact K.ai F24 le22_24 (.b (zaG (zaG (zaX (zaX (zaX (zaX (zaX (zaX h16 h17) h18) h19) h20) h21) h22))).symm .nil) (List.Sublist.refl _)
                      · have p21 := of_decide_eq_false h21; refine TL.run 19 rfl ?_; refine TL.nil ?_; refine K.pick [1, 2, 3, 4, 0] rfl (by decide) ?_; exact K.ai F24 le22_24 (.b (zaG (zaG (zaG (zaX (zaX (zaX (zaX (zaX h16 h17) h18) h19) h20) h21)))).symm .nil) (List.Sublist.refl _)
                    · have p20 := of_decide_eq_false h20; refine TL.run 26 rfl ?_; refine TL.nil ?_; refine K.pick [1, 2, 3, 4, 0] rfl (by decide) ?_; exact K.ai F24 le22_24 (.b (zaG (zaG (zaG (zaG (zaX (zaX (zaX (zaX h16 h17) h18) h19) h20))))).symm .nil) (List.Sublist.refl _)
                  · refine TL.run 32 rfl ?_; refine TL.nil ?_; refine K.pick [1, 2, 3, 4, 0] rfl (by decide) ?_; exact K.ai F24 le22_24 (.b (zaG (zaG (zaG (zaG (zaG (zaX (zaX (zaX h16 h17) h18) h19)))))).symm .nil) (List.Sublist.refl _)
                · have p18 := of_decide_eq_false h18; refine TL.run 37 rfl ?_; refine TL.nil ?_; refine K.pick [1, 2, 3, 4, 0] rfl (by decide) ?_; exact K.ai F22 (Frz.Le.refl _) (.b (zaG (zaG (zaG (zaG (zaG (zaG (zaX (zaX h16 h17) h18))))))).symm .nil) (List.Sublist.refl _)
              · have p17 := of_decide_eq_false h17; refine TL.run 41 rfl ?_; refine TL.nil ?_; refine K.pick [1, 2, 3, 4, 0] rfl (by decide) ?_; exact K.ai F22 (Frz.Le.refl _) (.b (zaG (zaG (zaG (zaG (zaG (zaG (zaG (zaX h16 h17)))))))).symm .nil) (List.Sublist.refl _)
            · have p16 := of_decide_eq_false h16; refine TL.run 45 rfl ?_; refine TL.nil ?_; refine K.pick [1, 2, 3, 4, 0] rfl (by decide) ?_; exact K.ai F22 (Frz.Le.refl _) (.b (zaG (zaG (zaG (zaG (zaG (zaG (zaG (zaG h16)))))))).symm .nil) (List.Sublist.refl _)
          · rintro F23 le22_23; (try dsimp only at *); refine T.ret ?_; obtain rfl := Option.some.inj hk; exact K.aj rfl rfl (fun w' hw => ⟨rfl, hw.isBelow⟩)
theorem zgD {n : Nat} (h : 100000 ≤ n) : zcV n = some true := by
  obtain ⟨m, rfl⟩ : ∃ m, n = m + 100000 := ⟨n - 100000, by omega⟩
  kernel_rfl
theorem zjf {p : GProblem} {a b : Int} {fuel : Nat} (hf : 1000 ≤ fuel) : ∃ r, zda fuel p a b = some r := by
  unfold zda; simp only [zaH]; refine zc4 (σ := Int) (I := fun i => 0 ≤ i ∧ i ≤ 600) (μ := fun i => (600 - i).toNat) (post := fun o => ∃ r, o = some r) ⟨by omega, by omega⟩ (by omega) ?_; intro i next hi hn; by_cases h1 : i < (p.Domains.length : Int) <;> by_cases h2 : i < 600
  · rw [decide_eq_true h1, decide_eq_true h2, Bool.and_true, cond_true, zav ⟨hi.1, h1⟩]
    cases decide (60 < ((nth p.Domains i.toNat).Channels.length : Int))
    · exact hn _ ⟨by omega, by omega⟩ (by omega)
    · exact ⟨_, rfl⟩
  · rw [decide_eq_false h2, Bool.and_false, cond_false]; exact ⟨_, rfl⟩
  · rw [decide_eq_false h1, Bool.false_and, cond_false]; exact ⟨_, rfl⟩
  · rw [decide_eq_false h1, Bool.false_and, cond_false]; exact ⟨_, rfl⟩
theorem allEq {α : Type} [Inhabited α] [DecidableEq α] {a b : List α} (hl : a.length = b.length) : ((List.range a.length).all fun i => decide (nth a i = nth b i)) = decide (a = b) := by
  rw [Bool.eq_iff_iff, List.all_eq_true, decide_eq_true_eq]; constructor
  · intro h; refine List.ext_getElem hl fun i h1 h2 => ?_; have := of_decide_eq_true (h i (List.mem_range.2 h1))
    rwa [za8 h1, za8 h2] at this
  · rintro rfl i _; simp
theorem zg2 {α : Type} [Inhabited α] [DecidableEq α] {a b : List α} {r : α → α → Bool} {k : Unit → Bool} (hr : ∀ x y, r x y = !decide (x = y)) (hl : a.length = b.length) : zag (fun (i : Nat) (next : Unit → Bool) (_ : Unit) => bif r (nth a i) (nth b i) then false else next ()) k (a.length - 0) 0 () = (decide (a = b) && k ()) := by
  rw [Nat.sub_zero, zgC (fun i => decide (nth a i = nth b i)) (fun i next hi => by rw [hr]; cases decide (nth a i = nth b i) <;> rfl), allEq hl]
theorem zjx {α : Type} [Inhabited α] [DecidableEq α] {a b : List α} {r : α → α → Bool} (hr : ∀ x y, r x y = !decide (x = y)) : (bif decide (¬ (a.length : Int) = (b.length : Int)) then false else zag (fun (i : Nat) (next : Unit → Bool) (_ : Unit) => bif r (nth a i) (nth b i) then false else next ()) (fun _ => true) (a.length - 0) 0 ()) = decide (a = b) := by
  by_cases hl : a.length = b.length
  · rw [decide_eq_false (by omega), cond_false, zg2 hr hl, Bool.and_true]
  · rw [decide_eq_true (by omega), cond_true, decide_eq_false (fun e => hl (by rw [e]))]
theorem zi3 (x y : GPair) : (decide (x.A = y.A) && decide (x.B = y.B) && decide (x.Offset = y.Offset) && decide (x.Low = y.Low) && decide (x.High = y.High)) = decide (x = y) := by
  rw [Bool.eq_iff_iff]; cases x; cases y; simp [and_assoc]
theorem ziW (x y : GLoad) : (decide (x.To = y.To) && decide (x.From = y.From) && decide (x.Weight = y.Weight) && decide (x.Low = y.Low) && decide (x.High = y.High)) = decide (x = y) := by
  rw [Bool.eq_iff_iff]; cases x; cases y; simp [and_assoc]
theorem zjn (x y : GCap) : (decide (x.Station = y.Station) && decide (x.Max = y.Max) && decide (x.Low = y.Low) && decide (x.High = y.High)) = decide (x = y) := by
  rw [Bool.eq_iff_iff]; cases x; cases y; simp [and_assoc]
theorem zhn (a b : List Int) : zbw a b = decide (a = b) := zjx (r := fun x y : Int => decide (¬ x = y)) fun x y => by by_cases h : x = y <;> simp [h]
theorem zjA (x y : GDomain) : (decide (x.Station = y.Station) && decide (x.Channels = y.Channels)) = decide (x = y) := by
  rw [Bool.eq_iff_iff]; cases x; cases y; simp
theorem zhj (a b : List GDomain) : zbN a b = decide (a = b) := zjx (r := fun x y : GDomain => decide (¬ x.Station = y.Station) || !zbw x.Channels y.Channels) fun x y => by
  rw [zhn, ← zjA]; by_cases h : x.Station = y.Station <;> simp [h]
theorem zgR (a b : GRules) : zbM a b = (decide (a.Pairs = b.Pairs) && (decide (a.Loads = b.Loads) && decide (a.Caps = b.Caps))) := by
  unfold zbM; by_cases h1 : a.Pairs.length = b.Pairs.length
  · by_cases h2 : a.Loads.length = b.Loads.length
    · by_cases h3 : a.Caps.length = b.Caps.length
      · rw [decide_eq_false (by omega), decide_eq_false (by omega), decide_eq_false (by omega)]
        show zag _ (fun _ => zag _ (fun _ => zag _ (fun _ => true) (a.Caps.length - 0) 0 ()) (a.Loads.length - 0) 0 ()) (a.Pairs.length - 0) 0 () = _
        rw [zg2 (r := fun x y : GPair => !(decide (x.A = y.A) && decide (x.B = y.B) && decide (x.Offset = y.Offset) && decide (x.Low = y.Low) && decide (x.High = y.High))) (fun x y => by rw [zi3]) h1,
          zg2 (r := fun x y : GLoad => !(decide (x.To = y.To) && decide (x.From = y.From) && decide (x.Weight = y.Weight) && decide (x.Low = y.Low) && decide (x.High = y.High))) (fun x y => by rw [ziW]) h2,
          zg2 (r := fun x y : GCap => !(decide (x.Station = y.Station) && decide (x.Max = y.Max) && decide (x.Low = y.Low) && decide (x.High = y.High))) (fun x y => by rw [zjn]) h3, Bool.and_true]
      · rw [decide_eq_true (show ¬ (a.Caps.length : Int) = b.Caps.length by omega), Bool.or_true, cond_true, decide_eq_false (show ¬ a.Caps = b.Caps from fun e => h3 (by rw [e])), Bool.and_false, Bool.and_false]
    · rw [decide_eq_true (show ¬ (a.Loads.length : Int) = b.Loads.length by omega), Bool.or_true, Bool.true_or, cond_true, decide_eq_false (show ¬ a.Loads = b.Loads from fun e => h2 (by rw [e])), Bool.false_and, Bool.and_false]
  · rw [decide_eq_true (show ¬ (a.Pairs.length : Int) = b.Pairs.length by omega), Bool.true_or, Bool.true_or, cond_true, decide_eq_false (show ¬ a.Pairs = b.Pairs from fun e => h1 (by rw [e])), Bool.false_and]
def eqP (p q : GProblem) : Bool := decide (p.Domains = q.Domains) && (decide (p.Rules.Pairs = q.Rules.Pairs) && (decide (p.Rules.Loads = q.Rules.Loads) && decide (p.Rules.Caps = q.Rules.Caps)))
theorem zjm (p q : GProblem) : zcO p q = eqP p q := by
  unfold zcO eqP; rw [zhj, zgR]
theorem ziq (p : GProblem) : eqP p p = true := by
  unfold eqP; simp
def onL : List GChoice → Int → Int
  | [], _ => 0
  | x :: r, n => bif decide (x.Station = n) then x.Channel else onL r n
theorem zef {α : Type} [Inhabited α] {l : List α} {i : Nat} (hi : i < l.length) : l.take (i + 1) = l.take i ++ [nth l i] := by
  rw [List.take_add_one, List.getElem?_eq_getElem hi, za8 hi]; rfl
theorem zhU {α : Type} [Inhabited α] {l : List α} {i : Nat} {y : α} (h : y ∈ l.take i) : ∃ j, j < i ∧ j < l.length ∧ nth l j = y := by
  obtain ⟨j, hj, rfl⟩ := List.mem_iff_getElem.1 h; (have h1 : j < i ∧ j < l.length := by rw [List.length_take] at hj; omega); exact ⟨j, h1.1, h1.2, by rw [za8 h1.2, List.getElem_take]⟩
def TabC (l : List GChoice) (c : Vec 512 Int) : Prop := ∀ n, n < 512 → Vec.get c n = onL l (n : Int)
theorem TabC.get {l : List GChoice} {c : Vec 512 Int} (h : TabC l c) {i : Int} (hi : 0 ≤ i ∧ i < 512) : Vec.get c i.toNat = onL l i := by
  rw [h _ (by omega), show ((i.toNat : Nat) : Int) = i by omega]
theorem zhT {a b : Int} (h : zbh a b = true) : 2 ≤ a ∧ a ≤ b ∧ b ≤ 51 :=
  ⟨of_decide_eq_true (zcK (zcK h)), of_decide_eq_true (zcF (zcK h)), of_decide_eq_true (zcF h)⟩
theorem zh3 {n a b : Int} (h : zaD n a b = true) : a ≤ n ∧ n ≤ b := ⟨of_decide_eq_true (zcK h), of_decide_eq_true (zcF h)⟩
theorem zjd {d : GDomain} (h : okD d = true) : d.Channels.length ≤ 50 := by
  rw [← zh8] at h; have := of_decide_eq_true (zcK (zcF h)); omega
theorem zgq {α : Type} [Inhabited α] {lt : α → α → Bool} (ht : ∀ a b c, lt a b = true → lt b c = true → lt a c = true) {l : List α} : adjB lt l = true ↔ l.Pairwise (fun a b => lt a b = true) := by
  constructor
  · intro h; have h1 : ∀ i, i + 1 < l.length → lt (nth l i) (nth l (i + 1)) = true := fun i hi => List.all_eq_true.1 h (i + 1) (List.mem_range'_1.2 ⟨by omega, by omega⟩)
    have h2 : ∀ d i, i + d + 1 < l.length → lt (nth l i) (nth l (i + d + 1)) = true := by
      intro d
      induction d with
      | zero => intro i hi; exact h1 i hi
      | succ d ih => intro i hi; exact ht _ _ _ (ih i (by omega)) (h1 (i + d + 1) (by omega))
    refine List.pairwise_iff_getElem.2 fun i j hi hj hij => ?_; rw [← za8 hi, ← za8 hj]; have := h2 (j - i - 1) i (by omega)
    rwa [show i + (j - i - 1) + 1 = j by omega] at this
  · intro h; refine List.all_eq_true.2 fun i hi => ?_; have hi := List.mem_range'_1.1 hi; rw [za8 (show i - 1 < l.length by omega), za8 (show i < l.length by omega)]; exact List.pairwise_iff_getElem.1 h (i - 1) i _ _ (by omega)
theorem zhw {a b : Int} {x y : List Int} : lexL (a :: x) (b :: y) = true ↔ a < b ∨ (a = b ∧ lexL x y = true) := by
  show (bif decide (a = b) then lexL x y else decide (a < b)) = true ↔ _
  by_cases h : a = b
  · rw [decide_eq_true h, cond_true]; exact ⟨fun h1 => .inr ⟨h, h1⟩, fun h1 => h1.elim (fun h2 => absurd h2 (by omega)) (·.2)⟩
  · rw [decide_eq_false h, cond_false, decide_eq_true_eq]; exact ⟨.inl, fun h1 => h1.elim id (fun h2 => absurd h2.1 h)⟩
theorem zga : ∀ a b c : List Int, lexL a b = true → lexL b c = true → lexL a c = true
  | [], _, _, h, _ => by cases h
  | _ :: _, [], _, h, _ => by cases h
  | _ :: _, _ :: _, [], _, h => by cases h
  | a :: x, b :: y, c :: z, h1, h2 => by
    rw [zhw] at h1 h2 ⊢; rcases h1 with h1 | ⟨h1, h3⟩ <;> rcases h2 with h2 | ⟨h2, h4⟩
    · left; omega
    · left; omega
    · left; omega
    · exact .inr ⟨by omega, zga x y z h3 h4⟩
theorem zgf {α : Type} [Inhabited α] {lt : α → α → Bool} (ht : ∀ a b c, lt a b = true → lt b c = true → lt a c = true) {l l' : List α} (hs : l'.Sublist l) (h : adjB lt l = true) : adjB lt l' = true := (zgq ht).2 (((zgq ht).1 h).sublist hs)
theorem zgM {a b : Bool} (ha : a = true) (hb : b = true) : (a && b) = true := by rw [ha, hb]; rfl
structure RulesP (r : GRules) : Prop where
  g : RulesGood r
  ip : adjB (fun a b => lexL (zdp a) (zdp b)) r.Pairs = true
  il : adjB (fun a b => lexL (zdk a) (zdk b)) r.Loads = true
  ic : adjB (fun a b => lexL (capL a) (capL b)) r.Caps = true
theorem zhA {r : GRules} (h : zdG r = true) : RulesP r := by
  have hg := zfx h; unfold zdG at h; have h1 := zcF h; have h2 := zcF h1; have h3 := zcF h2; have h4 := zcF h3; have h5 := zcF h4; have h6 := zcF h5; have h7 := zcF h6; exact ⟨hg, zcK h2, zcK h5, zcF h7⟩
theorem RulesP.b {r : GRules} (h : RulesP r) : zdG r = true := by
  have a := h.g.np; have b := h.g.nl; have c := h.g.nc; exact zgM (decide_eq_true (by omega)) (zgM (List.all_eq_true.2 h.g.p) (zgM h.ip (zgM (decide_eq_true (by omega)) (zgM (List.all_eq_true.2 h.g.l) (zgM h.il (zgM (decide_eq_true (by omega)) (zgM (List.all_eq_true.2 h.g.c) h.ic)))))))
theorem zi2 (a b c : GPair) : lexL (zdp a) (zdp b) = true → lexL (zdp b) (zdp c) = true → lexL (zdp a) (zdp c) = true := zga _ _ _
theorem zi0 (a b c : GLoad) : lexL (zdk a) (zdk b) = true → lexL (zdk b) (zdk c) = true → lexL (zdk a) (zdk c) = true := zga _ _ _
theorem zjj (a b c : GCap) : lexL (capL a) (capL b) = true → lexL (capL b) (capL c) = true → lexL (capL a) (capL c) = true := zga _ _ _
theorem RulesP.sub {r r' : GRules} (h : RulesP r) (hp : r'.Pairs.Sublist r.Pairs) (hl : r'.Loads.Sublist r.Loads) (hc : r'.Caps.Sublist r.Caps) : RulesP r' := by
  refine ⟨⟨?_, ?_, ?_, fun x hx => h.g.p x (hp.subset hx), fun x hx => h.g.l x (hl.subset hx), fun x hx => h.g.c x (hc.subset hx)⟩, zgf zi2 hp h.ip, zgf zi0 hl h.il, zgf zjj hc h.ic⟩
  · have := hp.length_le; have := h.g.np; omega
  · have := hl.length_le; have := h.g.nl; omega
  · have := hc.length_le; have := h.g.nc; omega
theorem zeg {p : GProblem} (h : okP p = true) : p.Domains.all okD = true ∧ RulesP p.Rules ∧ incD p = true ∧ zgE p = true := ⟨zcK h, zhA (zcK (zcF h)), zcK (zcF (zcF h)), zcF (zcF (zcF h))⟩
def encU (n : Nat) : List Int := if h : n < 128 then [(n : Int)] else ((n % 128 + 128 : Nat) : Int) :: encU (n / 128)
termination_by n
decreasing_by omega
theorem zdJ {n : Nat} (h : n < 128) : encU n = [(n : Int)] := by rw [encU]; simp [h]
theorem zei {n : Nat} (h : ¬ n < 128) : encU n = ((n % 128 + 128 : Nat) : Int) :: encU (n / 128) := by rw [encU]; simp [h]
theorem zin (n : Nat) : 0 < (encU n).length := by
  by_cases h : n < 128
  · rw [zdJ h]; simp
  · rw [zei h]; simp
theorem zdy : ∀ (k n : Nat), n < 2 ^ (7 * (k + 1)) → (encU n).length ≤ k + 1
  | 0, n, h => by rw [zdJ (by simpa using h)]; simp
  | k + 1, n, h => by
    by_cases h1 : n < 128
    · rw [zdJ h1]; simp
    · rw [zei h1, List.length_cons]
      have := zdy k (n / 128) (by
        rw [Nat.div_lt_iff_lt_mul (by decide)]
        calc n < 2 ^ (7 * (k + 1 + 1)) := h
          _ = 2 ^ (7 * (k + 1)) * 128 := by rw [show 7 * (k + 1 + 1) = 7 * (k + 1) + 7 by omega, Nat.pow_add])
      omega
theorem or128 : ∀ k : Nat, k < 256 → orK .u8 (k : Int) 128 = ((k % 128 + 128 : Nat) : Int) := by
  (have h : ∀ k : Fin 256, orK .u8 ((k.1 : Nat) : Int) 128 = ((k.1 % 128 + 128 : Nat) : Int) := by decide); exact fun k hk => h ⟨k, hk⟩
theorem zhx : ∀ k : Nat, k < 256 → andK .u8 (k : Int) 127 = ((k % 128 : Nat) : Int) := by
  (have h : ∀ k : Fin 256, andK .u8 ((k.1 : Nat) : Int) 127 = ((k.1 % 128 : Nat) : Int) := by decide); exact fun k hk => h ⟨k, hk⟩
theorem ziz (n : Nat) : IntKind.u8.wrap (n : Int) = ((n % 256 : Nat) : Int) := by
  simp [IntKind.wrap, IntKind.signed, IntKind.bits]
theorem shr7 (n : BitVec 64) : (n >>> 7).toNat = n.toNat / 128 := by rw [BitVec.toNat_ushiftRight, Nat.shiftRight_eq_div_pow]
theorem zfp {fuel : Nat} {l : List Int} {n : BitVec 64} (hf : 20 ≤ fuel) (hl : l.length ≤ 100000) : zby fuel l n = some (l ++ encU n.toNat) := by
  unfold zby; simp only [zaH]; have hb : ∀ m : BitVec 64, (encU m.toNat).length ≤ 10 := fun m => zdy 9 _ (Nat.lt_of_lt_of_le m.isLt (by decide)); refine zc4 (σ := List Int × BitVec 64) (I := fun s => s.1 ++ encU s.2.toNat = l ++ encU n.toNat) (μ := fun s => (encU s.2.toNat).length) (post := fun o => o = some (l ++ encU n.toNat)) rfl (by have := hb n; show (encU n.toNat).length < fuel; omega) ?_; rintro ⟨a, m⟩ next hI hn; dsimp only at hI hn ⊢
  have hlen : a.length ≤ 100010 := by
    have h1 := congrArg List.length hI; rw [List.length_append, List.length_append] at h1; have := hb n; omega
  by_cases h : m.toNat < 128
  · rw [decide_eq_false (by show ¬ (127 : Int) < _; omega), cond_false, zav (by unfold room; simp; omega), ziz, Nat.mod_eq_of_lt (by omega), ← zdJ h, hI]
  · rw [decide_eq_true (by show (127 : Int) < _; omega), cond_true, zav (by unfold room; simp; omega), ziz, or128 _ (Nat.mod_lt _ (by decide)), Nat.mod_mod_of_dvd _ (by decide)]; have h2 := zei h; refine hn _ ?_ ?_
    · show (a ++ [_]) ++ encU (m >>> 7).toNat = _
      rw [shr7, List.append_assoc, List.singleton_append, ← h2, hI]
    · show (encU (m >>> 7).toNat).length < (encU m.toNat).length
      rw [shr7, h2, List.length_cons]; omega
structure RdS (x : GReader) (rest : List Int) : Prop where
  made : x.made = true
  ok : x.fault.first = 0
  pos : 0 ≤ x.at_
  drop : x.in_.drop x.at_.toNat = rest
  len : x.at_.toNat + rest.length = x.in_.length
abbrev adv (x : GReader) (k : Nat) : GReader := ⟨⟨0⟩, x.made, x.in_, x.at_ + (k : Int)⟩
theorem RdS.adv {x : GReader} {a rest : List Int} (h : RdS x (a ++ rest)) : RdS (adv x a.length) rest := by
  have hl := h.len; rw [List.length_append] at hl; have hp := h.pos; refine ⟨h.made, rfl, by show 0 ≤ x.at_ + _; omega, ?_, ?_⟩
  · show x.in_.drop (x.at_ + (a.length : Int)).toNat = rest
    rw [show (x.at_ + (a.length : Int)).toNat = x.at_.toNat + a.length by omega, ← List.drop_drop, h.drop, List.drop_left]
  · show (x.at_ + (a.length : Int)).toNat + rest.length = x.in_.length
    omega
theorem zgd {f : Int} {m : Bool} {l : List Int} {a b : Int} {rest : List Int} (hp : 0 ≤ a) (hd : l.drop a.toNat = b :: rest) : zaq ⟨⟨f⟩, m, l, a⟩ = some (Dy.ok (b, a + 1)) := by
  have hlt : a.toNat < l.length := by
    rcases Nat.lt_or_ge a.toNat l.length with h | h
    · exact h
    · rw [List.drop_eq_nil_of_le h] at hd; cases hd
  have hb : nth l a.toNat = b := by
    rw [List.drop_eq_getElem_cons hlt] at hd; rw [za8 hlt]; exact (List.cons.inj hd).1
  unfold zaq; simp only [zaH]; rw [decide_eq_false (by omega), cond_false, zav ⟨hp, by omega⟩, hb]
theorem ziT {lo p i : Nat} (hlo : lo < 2 ^ (7 * i)) (hi : 7 * i < 64) (hp : p < 2 ^ 64) (hs : p * 2 ^ (7 * i) < 2 ^ 64) : (BitVec.ofNat 64 lo ||| (BitVec.ofNat 64 p <<< (7 * i))) = BitVec.ofNat 64 (lo + p * 2 ^ (7 * i)) := by
  apply BitVec.eq_of_toNat_eq; have h1 : lo < 2 ^ 64 := Nat.lt_trans hlo (Nat.pow_lt_pow_right (by decide) hi); rw [BitVec.toNat_or, BitVec.toNat_shiftLeft, BitVec.toNat_ofNat, BitVec.toNat_ofNat, BitVec.toNat_ofNat, Nat.mod_eq_of_lt h1, Nat.mod_eq_of_lt hp, Nat.shiftLeft_eq, Nat.mod_eq_of_lt hs, Nat.or_comm]; have h2 := Nat.shiftLeft_add_eq_or_of_lt hlo p; rw [Nat.shiftLeft_eq] at h2
  have h3 : p * 2 ^ (7 * i) + lo < 2 ^ 64 := by
    rw [h2]; exact Nat.or_lt_two_pow hs h1
  rw [← h2, Nat.add_comm lo, Nat.mod_eq_of_lt h3]
theorem zfA {x : GReader} {n most : Nat} {rest : List Int} (hm0 : 0 < most) (hm : most ≤ 10) (hn : n < 2 ^ 64) (hn2 : n < 2 ^ (7 * most)) (h : RdS x (encU n ++ rest)) : zaw x (most : Int) = some (Dy.ok (BitVec.ofNat 64 n, x.at_ + ((encU n).length : Int))) := by
  unfold zaw; rw [zav (by omega)]; simp only [zaH]
  have key : ∀ (m i q lo : Nat) (a : Int) (z : BitVec 64), i + m = most → 0 ≤ a → x.in_.drop a.toNat = encU q ++ rest → n = lo + q * 2 ^ (7 * i) → lo < 2 ^ (7 * i) → (0 < i → 0 < q) → q < 2 ^ (7 * m) →
      zag (fun (i_8 : Nat) (next7 : (BitVec 64 × BitVec 64 × Int) → Option (Dy (BitVec 64 × Int) (Int × Int))) (s7 : BitVec 64 × BitVec 64 × Int) =>
        (zaq (GReader.mk (Gfault.mk x.fault.first) x.made x.in_ s7.2.2)).bind fun r14 =>
        (bif zb6 r14 then
          (bif ((decide ((i_8 : Int) = 9)) && (decide (((1#64).toNat : Int) < ((BitVec.ofInt 64 (andK .u8 ((okY r14).1) 127)).toNat : Int)))) then
            some (Dy.er (6, ((okY r14).2)))
            else
            (bif decide ((okY r14).1 < 128) then
              (bif ((decide ((okY r14).1 = 0)) && (decide (0 < (i_8 : Int)))) then
                some (Dy.er (6, ((okY r14).2)))
                else
                some (Dy.ok ((s7.2.1 ||| ((BitVec.ofInt 64 (andK .u8 ((okY r14).1) 127)) <<< ((7 * (i_8 : Int)).toNat))), ((okY r14).2))))
              else
              next7 (s7.1, (s7.2.1 ||| ((BitVec.ofInt 64 (andK .u8 ((okY r14).1) 127)) <<< ((7 * (i_8 : Int)).toNat))), (okY r14).2)))
          else
          some (Dy.er ((erY r14).1, ((erY r14).2)))))
      (fun (s7 : BitVec 64 × BitVec 64 × Int) => some (Dy.er (6, s7.2.2))) m i (z, BitVec.ofNat 64 lo, a) = some (Dy.ok (BitVec.ofNat 64 n, a + ((encU q).length : Int))) := by
    intro m
    induction m with
    | zero =>
      intro i q lo a z e ha hd hnq hlo hq hq2; have := hq (by omega); simp at hq2; omega
    | succ m ih =>
      intro i q lo a z e ha hd hnq hlo hq hq2; (have hi7 : 7 * i < 64 := by omega); have hle : q % 128 * 2 ^ (7 * i) ≤ q * 2 ^ (7 * i) := Nat.mul_le_mul_right _ (Nat.mod_le _ _); have hacc : (BitVec.ofNat 64 lo ||| (BitVec.ofNat 64 (q % 128) <<< (7 * i))) = BitVec.ofNat 64 (lo + q % 128 * 2 ^ (7 * i)) := ziT hlo hi7 (Nat.lt_trans (Nat.mod_lt _ (by decide)) (by decide)) (by omega)
      have h9 : ¬ (i = 9 ∧ 1 < q % 128) := fun ⟨h1, h2⟩ => by
        subst h1; have : 2 * 2 ^ (7 * 9) ≤ q % 128 * 2 ^ (7 * 9) := Nat.mul_le_mul_right _ h2; omega
      have hbig : ((decide ((i : Int) = 9)) && (decide (((1#64).toNat : Int) < ((BitVec.ofNat 64 (q % 128)).toNat : Int)))) = false := by
        rw [Bool.and_eq_false_iff, decide_eq_false_iff_not, decide_eq_false_iff_not]; rw [show (BitVec.ofNat 64 (q % 128)).toNat = q % 128 from by rw [BitVec.toNat_ofNat]; exact Nat.mod_eq_of_lt (by omega)]; rcases Nat.lt_or_ge 1 (q % 128) with h1 | h1
        · left; intro h2; exact h9 ⟨by omega, h1⟩
        · right; show ¬ (1 : Int) < _; omega
      by_cases h1 : q < 128
      · rw [zdJ h1] at hd ⊢; have hx : q % 128 = q := Nat.mod_eq_of_lt h1
        show (Option.bind (zaq _) _) = _
        rw [zgd ha hd]
        show (bif (decide ((i : Int) = 9) && decide (((1#64).toNat : Int) < ((BitVec.ofInt 64 (andK .u8 (q : Int) 127)).toNat : Int))) then _ else bif decide ((q : Int) < 128) then (bif decide ((q : Int) = 0) && decide (0 < (i : Int)) then _ else some (Dy.ok ((BitVec.ofNat 64 lo ||| ((BitVec.ofInt 64 (andK .u8 (q : Int) 127)) <<< ((7 * (i : Int)).toNat))), a + 1))) else _) = _
        rw [show (7 * (i : Int)).toNat = 7 * i by omega, zhx q (by omega), BitVec.ofInt_natCast, hbig, cond_false, decide_eq_true (by omega), cond_true, show (decide ((q : Int) = 0) && decide (0 < (i : Int))) = false from by
          rw [Bool.and_eq_false_iff, decide_eq_false_iff_not, decide_eq_false_iff_not]; rcases Nat.eq_zero_or_pos i with h2 | h2
          · right; omega
          · left; have := hq h2; omega, cond_false, hacc, hx, ← hnq]
        rfl
      · rw [zei h1] at hd ⊢
        show (Option.bind (zaq _) _) = _
        rw [List.cons_append] at hd; rw [zgd ha hd]
        show (bif (decide ((i : Int) = 9) && decide (((1#64).toNat : Int) < ((BitVec.ofInt 64 (andK .u8 ((q % 128 + 128 : Nat) : Int) 127)).toNat : Int))) then _ else bif decide (((q % 128 + 128 : Nat) : Int) < 128) then _ else zag _ _ m (i + 1) (z, (BitVec.ofNat 64 lo ||| ((BitVec.ofInt 64 (andK .u8 ((q % 128 + 128 : Nat) : Int) 127)) <<< ((7 * (i : Int)).toNat))), a + 1)) = _
        (have hx : (q % 128 + 128) % 128 = q % 128 := by omega); rw [show (7 * (i : Int)).toNat = 7 * i by omega, zhx _ (by omega), BitVec.ofInt_natCast, hx, hbig, cond_false, decide_eq_false (by omega), cond_false, hacc]
        have hd2 : x.in_.drop (a + 1).toNat = encU (q / 128) ++ rest := by
          rw [show (a + 1).toNat = a.toNat + 1 by omega, ← List.drop_drop, hd]; rfl
        (have e7 : 2 ^ (7 * (i + 1)) = 2 ^ (7 * i) * 128 := by rw [show 7 * (i + 1) = 7 * i + 7 by omega, Nat.pow_add]); (have e8 : 2 ^ (7 * (m + 1)) = 2 ^ (7 * m) * 128 := by rw [show 7 * (m + 1) = 7 * m + 7 by omega, Nat.pow_add]); have hdm := Nat.div_add_mod q 128
        have := ih (i + 1) (q / 128) (lo + q % 128 * 2 ^ (7 * i)) (a + 1) z (by omega) (by omega) hd2 (by
          rw [e7, hnq]
          conv => lhs; rw [← hdm]
          rw [Nat.add_mul]; (have : 128 * (q / 128) * 2 ^ (7 * i) = q / 128 * (2 ^ (7 * i) * 128) := by rw [Nat.mul_comm 128, Nat.mul_assoc, Nat.mul_comm 128])
          omega) (by
          rw [e7]; have h3 : q % 128 * 2 ^ (7 * i) ≤ 127 * 2 ^ (7 * i) := Nat.mul_le_mul_right _ (by omega)
          omega) (fun _ => by omega) (by rw [e8] at hq2; omega)
        rw [List.length_cons, show a + (((encU (q / 128)).length + 1 : Nat) : Int) = a + 1 + ((encU (q / 128)).length : Int) by omega]; exact this
  have hk := key most 0 n 0 x.at_ 0#64 (by omega) h.pos h.drop (by omega) (by simp) (by omega) (by simpa using hn2); rw [show ((most : Int)).toNat - 0 = most by omega]; exact hk
theorem zjp {fuel : Nat} {out : List Int} {n : Int} (hf : 20 ≤ fuel) (hn : 0 ≤ n ∧ n ≤ 9223372036854775807) (hl : (out ++ encU n.toNat).length ≤ 65536) : zbe fuel ⟨⟨0⟩, out⟩ n = some (out ++ encU n.toNat) := by
  have hg : zby fuel out (BitVec.ofInt 64 n) = some (out ++ encU n.toNat) := by
    rw [zfp hf (by rw [List.length_append] at hl; omega)]; rw [show (BitVec.ofInt 64 n).toNat = n.toNat from by rw [BitVec.toNat_ofInt]; omega]
  unfold zbe
  show (bif decide (n < 0) then none else (zby fuel out (BitVec.ofInt 64 n)).bind _) = _
  rw [decide_eq_false (by omega), cond_false, hg]
  show (zaI _ _).bind _ = _
  unfold zaI; rw [decide_eq_false (by omega)]; rfl
def zig (n : Int) : Nat := if n < 0 then (-(2 * n) - 1).toNat else (2 * n).toNat
theorem int_w {fuel : Nat} {out : List Int} {n : Int} (hf : 20 ≤ fuel) (hn : -1 ≤ n ∧ n ≤ 1) (hl : (out ++ encU (zig n)).length ≤ 65536) : za7 fuel ⟨⟨0⟩, out⟩ n = some (out ++ encU (zig n)) := by
  (have hl2 : out.length ≤ 100000 := by rw [List.length_append] at hl; omega)
  have hg : zcU fuel out n = some (out ++ encU (zig n)) := by
    unfold zcU; (have h3 : n = -1 ∨ n = 0 ∨ n = 1 := by omega); rcases h3 with rfl | rfl | rfl
    · show (zby fuel out _).bind _ = _
      rw [zfp hf hl2]; rfl
    · show (zby fuel out _).bind _ = _
      rw [zfp hf hl2]; rfl
    · show (zby fuel out _).bind _ = _
      rw [zfp hf hl2]; rfl
  unfold za7
  show (zcU fuel out n).bind _ = _
  rw [hg]
  show (zaI _ _).bind _ = _
  unfold zaI; rw [decide_eq_false (by omega)]; rfl
theorem zfP {ρ α : Type} [Inhabited α] {l : List α} {g : α → List Int} {f : Nat → (List Int → ρ) → List Int → ρ} {k : List Int → ρ} {s0 : List Int} (hl : (s0 ++ l.flatMap g).length ≤ 65536) (hf : ∀ i next s, i < l.length → (s ++ g (nth l i)).length ≤ 65536 → f i next s = next (s ++ g (nth l i))) : zag f k (l.length - 0) 0 s0 = k (s0 ++ l.flatMap g) := by
  have key : ∀ m i s, i + m = l.length → (s ++ (l.drop i).flatMap g).length ≤ 65536 → zag f k m i s = k (s ++ (l.drop i).flatMap g) := by
    intro m
    induction m with
    | zero => intro i s e _; rw [List.drop_eq_nil_of_le (by omega), List.flatMap_nil, List.append_nil]; rfl
    | succ m ih =>
      intro i s e hs; rw [List.drop_eq_getElem_cons (show i < l.length by omega), List.flatMap_cons, ← za8 (show i < l.length by omega), ← List.append_assoc] at hs ⊢; rw [← ih (i + 1) (s ++ g (nth l i)) (by omega) hs]; exact hf i _ s (by omega) (by rw [List.length_append] at hs; omega)
  have := key (l.length - 0) 0 s0 (by omega) (by rw [List.drop_zero]; exact hl)
  rwa [List.drop_zero] at this
def encI (n : Int) : List Int := encU n.toNat
theorem zfY {fuel : Nat} {out l : List Int} (hf : 20 ≤ fuel) (hn : ∀ n ∈ l, 0 ≤ n ∧ n ≤ 9223372036854775807) (hl : (out ++ l.flatMap encI).length ≤ 65536) : zaA fuel l ⟨⟨0⟩, out⟩ = some (out ++ l.flatMap encI) := by
  unfold zaA; refine (zfP (g := encI) hl (fun i next s hi hs => ?_)); rw [zjp hf (hn _ (zbg hi)) hs]; rfl
def bitS (s : Nat) (c : Int) : Nat := s ||| 2 ^ (c - 2).toNat
def zdj (l : List Int) : Nat := l.foldl bitS 0
theorem zhs {s : Nat} {c : Int} (hs : s < 2 ^ 50) (hc : 2 ≤ c ∧ c ≤ 51) : bitS s c < 2 ^ 50 := Nat.or_lt_two_pow hs (Nat.pow_lt_pow_right (by decide) (by omega))
theorem zhF : ∀ {l : List Int} {s : Nat}, s < 2 ^ 50 → (∀ c ∈ l, 2 ≤ c ∧ c ≤ 51) → l.foldl bitS s < 2 ^ 50
  | [], _, hs, _ => hs
  | c :: l, s, hs, hc => by
    rw [List.foldl_cons]; exact zhF (zhs hs (hc c (List.mem_cons_self ..))) fun d hd => hc d (List.mem_cons_of_mem _ hd)
theorem zeC {l : List Int} (hc : ∀ c ∈ l, 2 ≤ c ∧ c ≤ 51) : zdj l < 2 ^ 50 := zhF (by decide) hc
theorem zg4 : ∀ (l : List Int) (s k : Nat), (l.foldl bitS s).testBit k = (s.testBit k || l.any fun c => decide ((c - 2).toNat = k))
  | [], s, k => by simp
  | c :: l, s, k => by
    rw [List.foldl_cons, zg4 l, List.any_cons, bitS, Nat.testBit_or, Nat.testBit_two_pow, Bool.or_assoc]
theorem zf5 (l : List Int) (k : Nat) : (zdj l).testBit k = l.any fun c => decide ((c - 2).toNat = k) := by
  unfold zdj; rw [zg4]; simp
theorem or64 {a b : Nat} (ha : a < 2 ^ 50) (hb : b < 2 ^ 50) : orK .i64 (a : Int) (b : Int) = ((a ||| b : Nat) : Int) := by
  have h := Nat.or_lt_two_pow ha hb
  show IntKind.i64.wrap (((BitVec.ofInt 64 (a : Int) ||| BitVec.ofInt 64 (b : Int)).toNat : Nat) : Int) = _
  rw [BitVec.ofInt_natCast, BitVec.ofInt_natCast, BitVec.toNat_or, BitVec.toNat_ofNat, BitVec.toNat_ofNat, Nat.mod_eq_of_lt (by omega), Nat.mod_eq_of_lt (by omega)]; exact zdq (by omega)
theorem shl64 {k : Nat} (hk : k ≤ 49) : shlK .i64 1 (k : Int) = ((2 ^ k : Nat) : Int) := by
  show IntKind.i64.wrap (1 * 2 ^ (min ((k : Int)).toNat 64)) = _
  rw [show min ((k : Int)).toNat 64 = k by omega, Int.one_mul]; have h : 2 ^ k < 2 ^ 50 := Nat.pow_lt_pow_right (by decide) (by omega); (have e : ((2 : Int) ^ k) = ((2 ^ k : Nat) : Int) := by rw [Int.natCast_pow]; rfl); rw [e]; generalize 2 ^ k = x at h; exact zdq (by omega)
theorem zh4 {ρ : Type} {l : List Int} (hc : ∀ c ∈ l, 2 ≤ c ∧ c ≤ 51) (K : Int → Option ρ) : zag (fun (i : Nat) (next : Int → Option ρ) (s : Int) => grd (0 ≤ wI (nth l i - 2)) <| next (orK .i64 s (shlK .i64 1 (wI (nth l i - 2))))) K (l.length - 0) 0 0 = K ((zdj l : Nat) : Int) := by
  have key : ∀ m i (s : Nat), i + m = l.length → s < 2 ^ 50 → zag (fun (i : Nat) (next : Int → Option ρ) (s : Int) => grd (0 ≤ wI (nth l i - 2)) <| next (orK .i64 s (shlK .i64 1 (wI (nth l i - 2))))) K m i (s : Int) = K (((l.drop i).foldl bitS s : Nat) : Int) := by
    intro m
    induction m with
    | zero => intro i s e _; rw [List.drop_eq_nil_of_le (by omega)]; rfl
    | succ m ih =>
      intro i s e hs; have h := hc _ (zbg (show i < l.length by omega))
      show grd _ _ = _
      rw [zdq (by omega), zav (by omega), show nth l i - 2 = (((nth l i - 2).toNat : Nat) : Int) by omega, shl64 (by omega), or64 hs (Nat.pow_lt_pow_right (by decide) (by omega))]; have := ih (i + 1) (bitS s (nth l i)) (by omega) (zhs hs h); rw [List.drop_eq_getElem_cons (show i < l.length by omega), List.foldl_cons, ← za8 (show i < l.length by omega), ← this]
      rfl
  have := key (l.length - 0) 0 0 (by omega) (by decide); rw [List.drop_zero] at this; exact this
def encD (d : GDomain) : List Int := [d.Station, ((zdj d.Channels : Nat) : Int)].flatMap encI
def zcN (c : GPair) : List Int := [c.A, c.B].flatMap encI ++ (encU (zig c.Offset) ++ [c.Low, c.High].flatMap encI)
def encL (c : GLoad) : List Int := [c.To, c.From, c.Weight, c.Low, c.High].flatMap encI
def encC (c : GCap) : List Int := [c.Station, c.Max, c.Low, c.High].flatMap encI
def encP (p : GProblem) : List Int := encU p.Domains.length ++ (p.Domains.flatMap encD ++ (encU p.Rules.Pairs.length ++ (p.Rules.Pairs.flatMap zcN ++ (encU p.Rules.Loads.length ++ (p.Rules.Loads.flatMap encL ++ (encU p.Rules.Caps.length ++ p.Rules.Caps.flatMap encC))))))
theorem zcB (k : Nat) {n : Int} (h : n < 2 ^ (7 * (k + 1))) : (encI n).length ≤ k + 1 := zdy k _ (by
  have : (n.toNat : Int) < ((2 ^ (7 * (k + 1)) : Nat) : Int) := by
    rw [Int.natCast_pow]; rcases Int.lt_or_le n 0 with h0 | h0
    · rw [show n.toNat = 0 by omega]; exact Int.pow_pos (by decide)
    · rw [show (n.toNat : Int) = n by omega]; exact h
  exact Int.ofNat_lt.1 this)
theorem zgi {α : Type} {l : List α} {g : α → List Int} {k : Nat} (h : ∀ x ∈ l, (g x).length ≤ k) : (l.flatMap g).length ≤ k * l.length := by
  induction l with
  | nil => simp
  | cons x r ih =>
    rw [List.flatMap_cons, List.length_append, List.length_cons, Nat.mul_add]; have := h x (List.mem_cons_self ..); have := ih fun y hy => h y (List.mem_cons_of_mem _ hy); omega
theorem zew {d : GDomain} (h : okD d = true) : ∀ c ∈ d.Channels, 2 ≤ c ∧ c ≤ 51 := fun c hc => zje (List.all_eq_true.1 (zcK (zcF h)) c hc)
theorem zgy {d : GDomain} (h : okD d = true) : 0 ≤ d.Station ∧ d.Station ≤ 511 := zc5 (zcK h)
structure PairR (c : GPair) : Prop where
  a : 0 ≤ c.A ∧ c.A ≤ 511
  b : 0 ≤ c.B ∧ c.B ≤ 511
  o : -1 ≤ c.Offset ∧ c.Offset ≤ 1
  l : 2 ≤ c.Low ∧ c.Low ≤ 51
  h : 2 ≤ c.High ∧ c.High ≤ 51
theorem zhi {c : GPair} (h : zaZ c = true) : PairR c := by
  have hr := zhT (zcF h); exact ⟨zc5 (zd1 h).1, zc5 (zd1 h).2, zh3 (zcF (zcK h)), by omega, by omega⟩
structure LoadR (c : GLoad) : Prop where
  a : 0 ≤ c.To ∧ c.To ≤ 511
  b : 0 ≤ c.From ∧ c.From ≤ 511
  w : 1 ≤ c.Weight ∧ c.Weight ≤ 1073741824
  l : 2 ≤ c.Low ∧ c.Low ≤ 51
  h : 2 ≤ c.High ∧ c.High ≤ 51
theorem loadR {c : GLoad} (h : zaY c = true) : LoadR c := by
  have hr := zhT (zcF h); exact ⟨zc5 (zd0 h).1, zc5 (zd0 h).2, zh3 (zcF (zcK h)), by omega, by omega⟩
structure CapR (c : GCap) : Prop where
  a : 0 ≤ c.Station ∧ c.Station ≤ 511
  m : 0 ≤ c.Max ∧ c.Max ≤ 1099511627776
  l : 2 ≤ c.Low ∧ c.Low ≤ 51
  h : 2 ≤ c.High ∧ c.High ≤ 51
theorem capR {c : GCap} (h : za4 c = true) : CapR c := by
  have hr := zhT (zcF h); exact ⟨zc5 (zfS h), zh3 (zcF (zcK h)), by omega, by omega⟩
theorem zhY {n : Int} (h : -1 ≤ n ∧ n ≤ 1) : zig n ≤ 2 := by unfold zig; split <;> omega
theorem zil {d : GDomain} (h : okD d = true) : (encD d).length ≤ 10 := by
  have h1 := zcB (n := d.Station) 1 (by have := zgy h; omega); have h2 := zcB (n := ((zdj d.Channels : Nat) : Int)) 7 (by have := zeC (zew h); omega); unfold encD; simp only [List.flatMap_cons, List.flatMap_nil, List.length_append, List.length_nil]; omega
theorem zhv {c : GPair} (h : PairR c) : (zcN c).length ≤ 7 := by
  have h1 := zcB (n := c.A) 1 (by have := h.a; omega); have h2 := zcB (n := c.B) 1 (by have := h.b; omega); have h3 := zdy 0 (zig c.Offset) (by have := zhY h.o; omega); have h4 := zcB (n := c.Low) 0 (by have := h.l; omega); have h5 := zcB (n := c.High) 0 (by have := h.h; omega); unfold zcN; simp only [List.flatMap_cons, List.flatMap_nil, List.length_append, List.length_nil]; omega
theorem ziM {c : GLoad} (h : LoadR c) : (encL c).length ≤ 11 := by
  have h1 := zcB (n := c.To) 1 (by have := h.a; omega); have h2 := zcB (n := c.From) 1 (by have := h.b; omega); have h3 := zcB (n := c.Weight) 4 (by have := h.w; omega); have h4 := zcB (n := c.Low) 0 (by have := h.l; omega); have h5 := zcB (n := c.High) 0 (by have := h.h; omega); unfold encL; simp only [List.flatMap_cons, List.flatMap_nil, List.length_append, List.length_nil]; omega
theorem ziy {c : GCap} (h : CapR c) : (encC c).length ≤ 10 := by
  have h1 := zcB (n := c.Station) 1 (by have := h.a; omega); have h3 := zcB (n := c.Max) 5 (by have := h.m; omega); have h4 := zcB (n := c.Low) 0 (by have := h.l; omega); have h5 := zcB (n := c.High) 0 (by have := h.h; omega); unfold encC; simp only [List.flatMap_cons, List.flatMap_nil, List.length_append, List.length_nil]; omega
theorem zfk {p : GProblem} (hp : okP p = true) : (encP p).length ≤ 65536 := by
  obtain ⟨hD, hR, hi, _⟩ := zeg hp; have hl := zeE hD hi; have g := hR.g; have h1 := zgi (l := p.Domains) (g := encD) (k := 10) fun d hd => zil (List.all_eq_true.1 hD d hd); have h2 := zgi (l := p.Rules.Pairs) (g := zcN) (k := 7) fun c hc => zhv (zhi (g.p c hc)); have h3 := zgi (l := p.Rules.Loads) (g := encL) (k := 11) fun c hc => ziM (loadR (g.l c hc)); have h4 := zgi (l := p.Rules.Caps) (g := encC) (k := 10) fun c hc => ziy (capR (g.c c hc)); have n1 := g.np; have n2 := g.nl; have n3 := g.nc; have k1 := zdy 1 p.Domains.length (by omega); have k2 := zdy 1 p.Rules.Pairs.length (by omega); have k3 := zdy 1 p.Rules.Loads.length (by omega); have k4 := zdy 1 p.Rules.Caps.length (by omega); unfold encP; simp only [List.length_append]; omega
theorem ziH {fuel : Nat} {p : GProblem} (hf : 20 ≤ fuel) (hp : okP p = true) : zbL fuel p = some (encP p, 0) := by
  obtain ⟨hD, hR, hi, _⟩ := zeg hp; have hl := zeE hD hi; have g := hR.g; have n1 := g.np; have n2 := g.nl; have n3 := g.nc; have hlen := zfk hp
  have pf : ∀ {a b : List Int}, encP p = a ++ b → a.length ≤ 65536 := fun {a b} e => by
    rw [e, List.length_append] at hlen; omega
  have hw : ∀ (out : List Int) (n : Nat), n ≤ 5000 → (out ++ encU n).length ≤ 65536 → zaA fuel [((n : Nat) : Int)] ⟨⟨0⟩, out⟩ = some (out ++ encU n) := fun out n h1 h2 => by
    (have e : [((n : Nat) : Int)].flatMap encI = encU n := by simp [encI]); rw [zfY hf (fun m hm => by rw [List.mem_singleton] at hm; omega) (by rw [e]; exact h2), e]
  unfold zbL; rw [zgn, hp]
  show (zaA fuel [(p.Domains.length : Int)] _).bind _ = _
  rw [hw [] p.Domains.length (by omega) (pf (b := p.Domains.flatMap encD ++ (encU p.Rules.Pairs.length ++ (p.Rules.Pairs.flatMap zcN ++ (encU p.Rules.Loads.length ++ (p.Rules.Loads.flatMap encL ++ (encU p.Rules.Caps.length ++ p.Rules.Caps.flatMap encC)))))) rfl)]; refine (zfP (l := p.Domains) (g := encD) (pf (b := encU p.Rules.Pairs.length ++ (p.Rules.Pairs.flatMap zcN ++ (encU p.Rules.Loads.length ++ (p.Rules.Loads.flatMap encL ++ (encU p.Rules.Caps.length ++ p.Rules.Caps.flatMap encC))))) (by unfold encP; simp only [List.append_assoc, List.nil_append])) (fun i next s hin hs => ?_)).trans ?_
  · have hd := List.all_eq_true.1 hD _ (zbg hin); refine (zh4 (zew hd) _).trans ?_
    show (zaA fuel [(nth p.Domains i).Station, ((zdj (nth p.Domains i).Channels : Nat) : Int)] _).bind _ = _
    rw [zfY hf (fun n hn => ?_) hs]
    · rfl
    · have a := zgy hd; have b := zeC (zew hd); rcases List.mem_cons.1 hn with rfl | hn
      · omega
      · rw [List.mem_singleton] at hn; omega
  show (zaA fuel [(p.Rules.Pairs.length : Int)] _).bind _ = _
  rw [hw _ p.Rules.Pairs.length (by omega) (pf (b := p.Rules.Pairs.flatMap zcN ++ (encU p.Rules.Loads.length ++ (p.Rules.Loads.flatMap encL ++ (encU p.Rules.Caps.length ++ p.Rules.Caps.flatMap encC)))) (by unfold encP; simp only [List.append_assoc, List.nil_append]))]; refine (zfP (l := p.Rules.Pairs) (g := zcN) (pf (b := encU p.Rules.Loads.length ++ (p.Rules.Loads.flatMap encL ++ (encU p.Rules.Caps.length ++ p.Rules.Caps.flatMap encC))) (by unfold encP; simp only [List.append_assoc, List.nil_append])) (fun i next s hin hs => ?_)).trans ?_
  · have hc := zhi (g.p _ (zbg hin)); have a := hc.a; have b := hc.b; have c := hc.l; have d := hc.h; unfold zcN at hs ⊢; rw [← List.append_assoc, ← List.append_assoc] at hs ⊢; (have hs2 : (s ++ [(nth p.Rules.Pairs i).A, (nth p.Rules.Pairs i).B].flatMap encI ++ encU (zig (nth p.Rules.Pairs i).Offset)).length ≤ 65536 := by rw [List.length_append] at hs; omega); (have hs3 : (s ++ [(nth p.Rules.Pairs i).A, (nth p.Rules.Pairs i).B].flatMap encI).length ≤ 65536 := by rw [List.length_append] at hs2; omega); rw [zfY hf (fun n hn => by simp only [List.mem_cons, List.not_mem_nil, or_false] at hn; omega) hs3]
    show (za7 fuel _ _).bind _ = _
    rw [int_w hf hc.o hs2]
    show (zaA fuel _ _).bind _ = _
    rw [zfY hf (fun n hn => by simp only [List.mem_cons, List.not_mem_nil, or_false] at hn; omega) hs]
    rfl
  show (zaA fuel [(p.Rules.Loads.length : Int)] _).bind _ = _
  rw [hw _ p.Rules.Loads.length (by omega) (pf (b := p.Rules.Loads.flatMap encL ++ (encU p.Rules.Caps.length ++ p.Rules.Caps.flatMap encC)) (by unfold encP; simp only [List.append_assoc, List.nil_append]))]; refine (zfP (l := p.Rules.Loads) (g := encL) (pf (b := encU p.Rules.Caps.length ++ p.Rules.Caps.flatMap encC) (by unfold encP; simp only [List.append_assoc, List.nil_append])) (fun i next s hin hs => ?_)).trans ?_
  · have hc := loadR (g.l _ (zbg hin)); have a := hc.a; have b := hc.b; have c := hc.l; have d := hc.h; have e := hc.w; rw [zfY hf (fun n hn => by simp only [List.mem_cons, List.not_mem_nil, or_false] at hn; omega) hs]
    rfl
  show (zaA fuel [(p.Rules.Caps.length : Int)] _).bind _ = _
  rw [hw _ p.Rules.Caps.length (by omega) (pf (b := p.Rules.Caps.flatMap encC) (by unfold encP; simp only [List.append_assoc, List.nil_append]))]; refine (zfP (l := p.Rules.Caps) (g := encC) (pf (b := []) (by unfold encP; simp only [List.append_assoc, List.nil_append, List.append_nil])) (fun i next s hin hs => ?_)).trans ?_
  · have hc := capR (g.c _ (zbg hin)); have a := hc.a; have c := hc.l; have d := hc.h; have e := hc.m; rw [zfY hf (fun n hn => by simp only [List.mem_cons, List.not_mem_nil, or_false] at hn; omega) hs]
    rfl
  (have e : encP p = [] ++ encU p.Domains.length ++ p.Domains.flatMap encD ++ encU p.Rules.Pairs.length ++ p.Rules.Pairs.flatMap zcN ++ encU p.Rules.Loads.length ++ p.Rules.Loads.flatMap encL ++ encU p.Rules.Caps.length ++ p.Rules.Caps.flatMap encC := by unfold encP; simp only [List.append_assoc, List.nil_append])
  show (zbf ⟨⟨0⟩, _⟩).bind _ = _
  rw [← e]; unfold zbf
  show (grd (room ([] ++ encP p).length 1) _).bind _ = _
  rw [zav (by rw [List.nil_append]; unfold room; omega)]
  rfl
theorem zjB {x : GReader} {n : Nat} {rest : List Int} (hn : n < 2 ^ 63) (h : RdS x (encU n ++ rest)) : zaa x = some ((n : Int), (0, x.at_ + ((encU n).length : Int))) := by
  have hg := zfA (most := 9) (by decide) (by decide) (by omega) hn h; unfold zaa; rw [h.made, h.ok]
  show (zaw x 9).bind _ = _
  rw [show (9 : Int) = ((9 : Nat) : Int) from rfl, hg]
  show some (wI (((BitVec.ofNat 64 n).toNat : Nat) : Int), ((0 : Int), _)) = _
  rw [BitVec.toNat_ofNat, Nat.mod_eq_of_lt (by omega), zdq (by omega)]; rfl
def sgF (v : BitVec 64) (a : Int) : Option (Dy (Int × Int) (Int × Int)) := bif decide ((((v &&& (1#64)).toNat : Nat) : Int) = (((1#64).toNat : Nat) : Int)) then some (Dy.ok (wI ((wI (0 - (wI (((v >>> 1).toNat : Nat) : Int)))) - 1), a)) else some (Dy.ok ((wI (((v >>> 1).toNat : Nat) : Int)), a))
theorem sg_m (a : Int) : sgF (BitVec.ofNat 64 1) a = some (Dy.ok (-1, a)) := by kernel_rfl
theorem sg_0 (a : Int) : sgF (BitVec.ofNat 64 0) a = some (Dy.ok (0, a)) := by kernel_rfl
theorem sg_1 (a : Int) : sgF (BitVec.ofNat 64 2) a = some (Dy.ok (1, a)) := by kernel_rfl
theorem int_r {x : GReader} {n : Int} {rest : List Int} (hn : -1 ≤ n ∧ n ≤ 1) (h : RdS x (encU (zig n) ++ rest)) : zaJ x = some (n, (0, x.at_ + ((encU (zig n)).length : Int))) := by
  have hz := zhY hn; have hg := zfA (most := 10) (by decide) (by decide) (by omega) (by omega) h; unfold zaJ; rw [h.made, h.ok]
  show (zaE x).bind _ = _
  have hs : zaE x = some (Dy.ok (n, x.at_ + ((encU (zig n)).length : Int))) := by
    unfold zaE; rw [show (10 : Int) = ((10 : Nat) : Int) from rfl, hg]; (have h3 : n = -1 ∨ n = 0 ∨ n = 1 := by omega)
    show sgF (BitVec.ofNat 64 (zig n)) _ = _
    rcases h3 with rfl | rfl | rfl
    · exact sg_m _
    · exact sg_0 _
    · exact sg_1 _
  rw [hs]
  rfl
theorem zja {x : GReader} {n : Nat} {lim : Int} {rest : List Int} (hn : (n : Int) ≤ lim) (hl : lim ≤ 1000000) (h : RdS x (encU n ++ rest)) : zat x lim = some ((n : Int), (0, x.at_ + ((encU n).length : Int))) := by
  have hg := zfA (most := 9) (by decide) (by decide) (by omega) (by omega) h; unfold zat; rw [h.made, h.ok]
  show (zaF x lim).bind _ = _
  have hs : zaF x lim = some (Dy.ok ((n : Int), x.at_ + ((encU n).length : Int))) := by
    unfold zaF; rw [show (9 : Int) = ((9 : Nat) : Int) from rfl, hg]
    show (bif decide (lim < 0) then _ else bif decide (lim < wI (((BitVec.ofNat 64 n).toNat : Nat) : Int)) then _ else some (Dy.ok (wI (((BitVec.ofNat 64 n).toNat : Nat) : Int), _))) = _
    rw [BitVec.toNat_ofNat, Nat.mod_eq_of_lt (by omega), zdq (by omega), decide_eq_false (by omega), cond_false, decide_eq_false (by omega), cond_false]; rfl
  rw [hs]
  rfl
theorem zeF {x : GReader} {n : Int} {rest : List Int} (hn : 0 ≤ n ∧ n ≤ 9223372036854775807) (h : RdS x (encI n ++ rest)) : zaa x = some (n, (0, x.at_ + ((encI n).length : Int))) := by
  have := zjB (n := n.toNat) (by omega) h; rw [show ((n.toNat : Nat) : Int) = n by omega] at this; exact this
theorem zcP {α β : Type} (g : α → List β) (x : α) (l : List α) : (x :: l).flatMap g = g x ++ l.flatMap g := List.flatMap_cons
theorem zjy {x : GReader} {c : GPair} {rest : List Int} (hc : PairR c) (h : RdS x (zcN c ++ rest)) : zbH x = some (c, (0, x.at_ + ((zcN c).length : Int))) := by
  have a := hc.a; have b := hc.b; have o := hc.o; have l := hc.l; have hh := hc.h; unfold zcN at h ⊢; simp only [zcP, List.flatMap_nil, List.append_nil, List.append_assoc] at h ⊢; have h2 := h.adv; have h3 := h2.adv; have h4 := h3.adv; have h5 := h4.adv; unfold zbH; rw [zeF (by omega) h]
  show (zaa (adv x _)).bind _ = _
  rw [zeF (by omega) h2]
  show (zaJ (adv (adv x _) _)).bind _ = _
  rw [int_r o h3]
  show (zaa (adv (adv (adv x _) _) _)).bind _ = _
  rw [zeF (by omega) h4]
  show (zaa (adv (adv (adv (adv x _) _) _) _)).bind _ = _
  rw [zeF (by omega) h5]
  show some (c, ((0 : Int), x.at_ + ((encI c.A).length : Int) + ((encI c.B).length : Int) + ((encU (zig c.Offset)).length : Int) + ((encI c.Low).length : Int) + ((encI c.High).length : Int))) = _
  congr 3
  simp only [List.length_append]; omega
theorem zjz {x : GReader} {c : GLoad} {rest : List Int} (hc : LoadR c) (h : RdS x (encL c ++ rest)) : zbI x = some (c, (0, x.at_ + ((encL c).length : Int))) := by
  have a := hc.a; have b := hc.b; have o := hc.w; have l := hc.l; have hh := hc.h; unfold encL at h ⊢; simp only [zcP, List.flatMap_nil, List.append_nil, List.append_assoc] at h ⊢; have h2 := h.adv; have h3 := h2.adv; have h4 := h3.adv; have h5 := h4.adv; unfold zbI; rw [zeF (by omega) h]
  show (zaa (adv x _)).bind _ = _
  rw [zeF (by omega) h2]
  show (zaa (adv (adv x _) _)).bind _ = _
  rw [zeF (by omega) h3]
  show (zaa (adv (adv (adv x _) _) _)).bind _ = _
  rw [zeF (by omega) h4]
  show (zaa (adv (adv (adv (adv x _) _) _) _)).bind _ = _
  rw [zeF (by omega) h5]
  show some (c, ((0 : Int), x.at_ + ((encI c.To).length : Int) + ((encI c.From).length : Int) + ((encI c.Weight).length : Int) + ((encI c.Low).length : Int) + ((encI c.High).length : Int))) = _
  congr 3
  simp only [List.length_append]; omega
theorem cap_r {x : GReader} {c : GCap} {rest : List Int} (hc : CapR c) (h : RdS x (encC c ++ rest)) : zbO x = some (c, (0, x.at_ + ((encC c).length : Int))) := by
  have a := hc.a; have o := hc.m; have l := hc.l; have hh := hc.h; unfold encC at h ⊢; simp only [zcP, List.flatMap_nil, List.append_nil, List.append_assoc] at h ⊢; have h2 := h.adv; have h3 := h2.adv; have h4 := h3.adv; unfold zbO; rw [zeF (by omega) h]
  show (zaa (adv x _)).bind _ = _
  rw [zeF (by omega) h2]
  show (zaa (adv (adv x _) _)).bind _ = _
  rw [zeF (by omega) h3]
  show (zaa (adv (adv (adv x _) _) _)).bind _ = _
  rw [zeF (by omega) h4]
  show some (c, ((0 : Int), x.at_ + ((encI c.Station).length : Int) + ((encI c.Max).length : Int) + ((encI c.Low).length : Int) + ((encI c.High).length : Int))) = _
  congr 3
  simp only [List.length_append]; omega
theorem zjr {s k : Nat} (hs : s < 2 ^ 50) (hk : k ≤ 49) : decide (andK .i64 (shrK .i64 (s : Int) (k : Int)) 1 = 1) = s.testBit k := by
  have e1 : shrK .i64 (s : Int) (k : Int) = ((s >>> k : Nat) : Int) := by
    show (s : Int).fdiv (2 ^ (min ((k : Int)).toNat 64)) = _
    rw [show min ((k : Int)).toNat 64 = k by omega, Nat.shiftRight_eq_div_pow, show ((2 : Int) ^ k) = ((2 ^ k : Nat) : Int) by rw [Int.natCast_pow]; rfl]; rw [Int.fdiv_eq_ediv_of_nonneg _ (Int.natCast_nonneg _)]; exact (Int.natCast_ediv _ _).symm
  (have hlt : s >>> k < 2 ^ 50 := by rw [Nat.shiftRight_eq_div_pow]; exact Nat.lt_of_le_of_lt (Nat.div_le_self _ _) hs); rw [e1]; generalize hz : s >>> k = z at hlt
  have e2 : andK .i64 (z : Int) 1 = ((z % 2 : Nat) : Int) := by
    show IntKind.i64.wrap (((BitVec.ofInt 64 (z : Int) &&& BitVec.ofInt 64 ((1 : Nat) : Int)).toNat : Nat) : Int) = _
    rw [BitVec.ofInt_natCast, BitVec.ofInt_natCast, BitVec.toNat_and, BitVec.toNat_ofNat, BitVec.toNat_ofNat, Nat.mod_eq_of_lt (show z < 2 ^ 64 by omega), Nat.mod_eq_of_lt (show 1 < 2 ^ 64 by decide), Nat.and_one_is_mod]; exact zdq (by omega)
  rw [e2, Nat.testBit, hz, Nat.one_and_eq_mod_two]; have := Nat.mod_lt z (show 0 < 2 by decide); generalize z % 2 = y at this ⊢; (have h : y = 0 ∨ y = 1 := by omega); rcases h with rfl | rfl <;> rfl
def chR (s : Nat) : Nat → Int → List Int
  | 0, _ => []
  | m + 1, c => if s.testBit (c - 2).toNat then c :: chR s m (c + 1) else chR s m (c + 1)
theorem chR_mem {s : Nat} : ∀ {m : Nat} {c : Int} {y : Int}, y ∈ chR s m c ↔ (c ≤ y ∧ y < c + m) ∧ s.testBit (y - 2).toNat = true
  | 0, c, y => by simp [chR]; omega
  | m + 1, c, y => by
    unfold chR; have ih := @chR_mem s m (c + 1) y
    split
    · rename_i h; rw [List.mem_cons, ih]; constructor
      · rintro (rfl | ⟨h1, h2⟩)
        · exact ⟨by omega, h⟩
        · exact ⟨by omega, h2⟩
      · rintro ⟨h1, h2⟩; rcases Int.lt_or_eq_of_le h1.1 with h3 | h3
        · exact .inr ⟨by omega, h2⟩
        · exact .inl h3.symm
    · rename_i h; rw [ih]; constructor
      · rintro ⟨h1, h2⟩; exact ⟨by omega, h2⟩
      · rintro ⟨h1, h2⟩; refine ⟨⟨?_, by omega⟩, h2⟩; rcases Int.lt_or_eq_of_le h1.1 with h3 | h3
        · omega
        · rw [h3] at h; exact absurd h2 h
theorem zdO {s : Nat} : ∀ {m : Nat} {c : Int}, (chR s m c).Pairwise (· < ·)
  | 0, _ => List.Pairwise.nil
  | m + 1, c => by
    unfold chR
    split
    · exact List.pairwise_cons.2 ⟨fun y hy => by have := (chR_mem.1 hy).1; omega, zdO⟩
    · exact zdO
theorem zeG : ∀ {a b : List Int}, a.Pairwise (· < ·) → b.Pairwise (· < ·) → (∀ x, x ∈ a ↔ x ∈ b) → a = b
  | [], [], _, _, _ => rfl
  | [], y :: b, _, _, h => absurd ((h y).2 (List.mem_cons_self ..)) (by simp)
  | x :: a, [], _, _, h => absurd ((h x).1 (List.mem_cons_self ..)) (by simp)
  | x :: a, y :: b, ha, hb, h => by
    have h1 := List.pairwise_cons.1 ha; have h2 := List.pairwise_cons.1 hb
    have e : x = y := by
      rcases List.mem_cons.1 ((h x).1 (List.mem_cons_self ..)) with e | hx
      · exact e
      · rcases List.mem_cons.1 ((h y).2 (List.mem_cons_self ..)) with e | hy
        · exact e.symm
        · have := h1.1 y hy; have := h2.1 x hx; omega
    subst e; rw [zeG h1.2 h2.2 fun z => ?_]; constructor
    · intro hz; rcases List.mem_cons.1 ((h z).1 (List.mem_cons_of_mem _ hz)) with e | h3
      · have := h1.1 z hz; omega
      · exact h3
    · intro hz; rcases List.mem_cons.1 ((h z).2 (List.mem_cons_of_mem _ hz)) with e | h3
      · have := h2.1 z hz; omega
      · exact h3
theorem zgZ {l : List Int} (hc : ∀ c ∈ l, 2 ≤ c ∧ c ≤ 51) (hs : l.Pairwise (· < ·)) : chR (zdj l) 50 2 = l := by
  refine zeG zdO hs fun y => ?_; rw [chR_mem, zf5, List.any_eq_true]; constructor
  · rintro ⟨h1, c, h2, h3⟩; have := hc c h2; have := of_decide_eq_true h3
    rwa [show y = c by omega]
  · intro hy; have := hc y hy; exact ⟨by omega, y, hy, decide_eq_true rfl⟩
theorem dom_r {fuel : Nat} {x : GReader} {d : GDomain} {rest : List Int} (hf : 100 ≤ fuel) (hd : okD d = true) (h : RdS x (encD d ++ rest)) : zbr fuel x = some (d, (0, x.at_ + ((encD d).length : Int))) := by
  have a := zgy hd; have b := zeC (zew hd)
  have hs : d.Channels.Pairwise (· < ·) := by
    have h2 := (zgq (lt := fun a b : Int => decide (a < b)) (fun a b c x y => by rw [decide_eq_true_eq] at *; omega)).1 (zcF (zcF hd)); exact h2.imp of_decide_eq_true
  unfold encD at h ⊢; simp only [zcP, List.flatMap_nil, List.append_nil, List.append_assoc] at h ⊢; have h2 := h.adv; unfold zbr; rw [zeF (by omega) h]
  show (zaa (adv x _)).bind _ = _
  rw [zeF (by omega) h2]; simp only [zaH, Option.bind_some]; rw [decide_eq_false (show ¬ (1125899906842624 : Int) ≤ ((zdj d.Channels : Nat) : Int) by omega), cond_false]; refine zc4 (σ := Int × Int × List Int) (I := fun s => (2 ≤ s.1 ∧ s.1 ≤ 52) ∧ s.2.1 = d.Station ∧ s.2.2 ++ chR (zdj d.Channels) (52 - s.1).toNat s.1 = d.Channels) (μ := fun s => (52 - s.1).toNat) (post := fun o => o = some (d, ((0 : Int), x.at_ + (((encI d.Station ++ encI ((zdj d.Channels : Nat) : Int)).length : Nat) : Int)))) ⟨by omega, rfl, by rw [List.nil_append]; exact zgZ (zew hd) hs⟩ (by show (52 - (2 : Int)).toNat < fuel; omega) ?_; rintro ⟨c, st, l⟩ next ⟨hc, rfl, hl⟩ hn; dsimp only at hc hl hn ⊢; by_cases h51 : c ≤ 51
  · rw [decide_eq_true h51, cond_true, zdq (by omega), zav (by omega), show c - 2 = (((c - 2).toNat : Nat) : Int) by omega, zjr b (by omega), zdq (by omega)]; (have hm : (52 - c).toNat = (52 - (c + 1)).toNat + 1 := by omega); rw [hm] at hl; unfold chR at hl
    cases hb : (zdj d.Channels).testBit (c - 2).toNat
    · rw [hb, if_neg (by decide)] at hl; exact hn _ ⟨by omega, rfl, hl⟩ (by dsimp only; omega)
    · rw [hb, if_pos rfl] at hl
      have hlen : (l ++ [c]).length ≤ 100 := by
        have h1 := congrArg List.length hl; have h2 := zjd hd; rw [List.length_append, List.length_cons] at h1; rw [List.length_append, List.length_singleton]; omega
      rw [cond_true, zav (by unfold room; omega)]; exact hn _ ⟨by omega, rfl, by rw [List.append_assoc]; exact hl⟩ (by dsimp only; omega)
  · rw [decide_eq_false h51, cond_false]; (have hm : (52 - c).toNat = 0 := by omega); rw [hm] at hl; unfold chR at hl; rw [List.append_nil] at hl; subst hl
    show some (d, ((0 : Int), x.at_ + ((encI d.Station).length : Int) + ((encI ((zdj d.Channels : Nat) : Int)).length : Int))) = _
    rw [List.length_append]
    congr 3
    omega
theorem zge {α : Type} [Inhabited α] {read : GReader → Option (α × (Int × Int))} {enc : α → List Int} {l : List α} {x : GReader} {lim : Int} {sz : Nat} {rest : List Int} (hz : sz ≤ 100) (hr : ∀ v ∈ l, ∀ (x : GReader) (rest : List Int), RdS x (enc v ++ rest) → read x = some (v, (0, x.at_ + ((enc v).length : Int)))) (hl : (l.length : Int) ≤ lim) (hm : lim ≤ 5000) (h : RdS x (encU l.length ++ (l.flatMap enc ++ rest))) :
    ((zat x lim).bind fun r11 =>
      zaH (fun (s4 : List α × Int × Int) => some (s4.1, (s4.2.1, s4.2.2)))
      (fun k4 =>
        grd (r11.1 ≤ 9223372036854775807) <|
        zag (fun (i_9 : Nat) (next8 : (List α × Int × Int) → Option (List α × (Int × Int))) (s8 : List α × Int × Int) =>
          (read (GReader.mk (Gfault.mk s8.2.1) x.made x.in_ s8.2.2)).bind fun r16 =>
          (bif decide (¬ (zak (GReader.mk (Gfault.mk r16.2.1) x.made x.in_ r16.2.2)) = 0) then
            some ([], (r16.2.1, r16.2.2))
            else
            grd (room (s8.1 ++ [r16.1]).length sz) <|
            next8 ((s8.1 ++ [r16.1]), r16.2.1, r16.2.2)))
        (fun (s8 : List α × Int × Int) =>
          k4 (s8.1, s8.2.1, s8.2.2)) (r11.1.toNat - 0) 0 ([], r11.2.1, r11.2.2))) = some (l, (0, x.at_ + ((encU l.length ++ l.flatMap enc).length : Int))) := by
  rw [zja hl (by omega) h]
  show grd ((l.length : Int) ≤ 9223372036854775807) (zag _ (fun s8 : List α × Int × Int => some (s8.1, (s8.2.1, s8.2.2))) (((l.length : Int)).toNat - 0) 0 ([], (0 : Int), x.at_ + ((encU l.length).length : Int))) = _
  rw [zav (by omega), show ((l.length : Int)).toNat - 0 = l.length by omega]
  have key : ∀ m i (a : Int), i + m = l.length → RdS ⟨⟨0⟩, x.made, x.in_, a⟩ ((l.drop i).flatMap enc ++ rest) →
      zag (fun (i_9 : Nat) (next8 : (List α × Int × Int) → Option (List α × (Int × Int))) (s8 : List α × Int × Int) =>
          (read (GReader.mk (Gfault.mk s8.2.1) x.made x.in_ s8.2.2)).bind fun r16 =>
          (bif decide (¬ (zak (GReader.mk (Gfault.mk r16.2.1) x.made x.in_ r16.2.2)) = 0) then
            some ([], (r16.2.1, r16.2.2))
            else
            grd (room (s8.1 ++ [r16.1]).length sz) <|
            next8 ((s8.1 ++ [r16.1]), r16.2.1, r16.2.2))) (fun s8 : List α × Int × Int => some (s8.1, (s8.2.1, s8.2.2))) m i (l.take i, 0, a) = some (l, (0, a + (((l.drop i).flatMap enc).length : Int))) := by
    intro m
    induction m with
    | zero =>
      intro i a e _; rw [List.drop_eq_nil_of_le (by omega), List.take_of_length_le (by omega)]
      show some (l, ((0 : Int), a)) = some (l, ((0 : Int), a + 0))
      rw [Int.add_zero]
    | succ m ih =>
      intro i a e hR; (have hi : i < l.length := by omega); rw [List.drop_eq_getElem_cons hi, List.flatMap_cons, ← za8 hi] at hR ⊢; rw [List.append_assoc] at hR; have h1 := hr _ (zbg hi) _ _ hR
      show (read _).bind _ = _
      rw [h1]
      show (bif decide (¬ (zak ⟨⟨0⟩, x.made, x.in_, _⟩) = 0) then _ else grd (room (l.take i ++ [nth l i]).length sz) (zag _ _ m (i + 1) (l.take i ++ [nth l i], (0 : Int), a + ((enc (nth l i)).length : Int)))) = _
      have e1 : ∀ y : Int, zak ⟨⟨0⟩, x.made, x.in_, y⟩ = 0 := fun y => by
        unfold zak zaL; rw [h.made]; rfl
      rw [e1, decide_eq_false (by simp), cond_false, ← zef hi, zav (by
        rw [List.length_take]; unfold room; have : min (i + 1) l.length * sz ≤ 5000 * 100 := Nat.mul_le_mul (by omega) hz
        omega)]
      rw [ih (i + 1) (a + ((enc (nth l i)).length : Int)) (by omega) hR.adv, List.length_append]
      congr 3
      omega
  have := key l.length 0 (x.at_ + ((encU l.length).length : Int)) (by omega) (by rw [List.drop_zero]; exact h.adv); rw [List.drop_zero, List.take_zero] at this; rw [this, List.length_append]
  congr 3
  omega
theorem zg7 {fuel : Nat} {p : GProblem} (hf : 100 ≤ fuel) (hp : okP p = true) : zbJ fuel (encP p) = some (p, 0) := by
  obtain ⟨hD, hR, hi, _⟩ := zeg hp; have hl := zeE hD hi; have g := hR.g; have n1 := g.np; have n2 := g.nl; have n3 := g.nc; have hlen := zfk hp; unfold zbJ; rw [decide_eq_false (by omega), cond_false]
  have hr : zc2 (encP p) = some (some ⟨⟨0⟩, true, encP p, 0⟩) := by
    unfold zc2; rw [List.nil_append, zav (by unfold room; omega)]
  rw [hr]; simp only [Option.bind_some, Option.isSome_some, cond_true, Option.getD_some]; have h0 : RdS ⟨⟨0⟩, true, encP p, 0⟩ (encU p.Domains.length ++ (p.Domains.flatMap encD ++ (encU p.Rules.Pairs.length ++ (p.Rules.Pairs.flatMap zcN ++ (encU p.Rules.Loads.length ++ (p.Rules.Loads.flatMap encL ++ (encU p.Rules.Caps.length ++ p.Rules.Caps.flatMap encC))))))) := ⟨rfl, rfl, Int.le_refl _, rfl, by show 0 + _ = _; rw [Nat.zero_add]; rfl⟩; have h1 := h0; rw [← List.append_assoc] at h1; have h1 := h1.adv; have h2 := h1; rw [← List.append_assoc] at h2; have h2 := h2.adv; have h3 := h2; rw [← List.append_assoc] at h3; have h3 := h3.adv; have h4 := h3; rw [← List.append_nil (encU p.Rules.Caps.length ++ p.Rules.Caps.flatMap encC)] at h4; have h5 := h4.adv; rw [List.append_assoc] at h4
  show (zaB fuel ⟨⟨0⟩, true, encP p, 0⟩ 512).bind _ = _
  rw [show zaB fuel ⟨⟨0⟩, true, encP p, 0⟩ 512 = _ from zge (enc := encD) (by decide) (fun v hv x rest h => dom_r hf (List.all_eq_true.1 hD v hv) h) (by omega) (by decide) h0]; rw [Option.bind_some]
  show (zaz (adv ⟨⟨0⟩, true, encP p, 0⟩ (encU p.Domains.length ++ p.Domains.flatMap encD).length) 4096).bind _ = _
  rw [show zaz (adv ⟨⟨0⟩, true, encP p, 0⟩ (encU p.Domains.length ++ p.Domains.flatMap encD).length) 4096 = _ from zge (enc := zcN) (by decide) (fun v hv x rest h => zjy (zhi (g.p v hv)) h) (by omega) (by decide) h1]; rw [Option.bind_some]
  show (zay (adv (adv ⟨⟨0⟩, true, encP p, 0⟩ (encU p.Domains.length ++ p.Domains.flatMap encD).length) (encU p.Rules.Pairs.length ++ p.Rules.Pairs.flatMap zcN).length) 1024).bind _ = _
  rw [show zay (adv (adv ⟨⟨0⟩, true, encP p, 0⟩ (encU p.Domains.length ++ p.Domains.flatMap encD).length) (encU p.Rules.Pairs.length ++ p.Rules.Pairs.flatMap zcN).length) 1024 = _ from zge (enc := encL) (by decide) (fun v hv x rest h => zjz (loadR (g.l v hv)) h) (by omega) (by decide) h2]; rw [Option.bind_some]
  show (zaC (adv (adv (adv ⟨⟨0⟩, true, encP p, 0⟩ (encU p.Domains.length ++ p.Domains.flatMap encD).length) (encU p.Rules.Pairs.length ++ p.Rules.Pairs.flatMap zcN).length) (encU p.Rules.Loads.length ++ p.Rules.Loads.flatMap encL).length) 1024).bind _ = _
  rw [show zaC (adv (adv (adv ⟨⟨0⟩, true, encP p, 0⟩ (encU p.Domains.length ++ p.Domains.flatMap encD).length) (encU p.Rules.Pairs.length ++ p.Rules.Pairs.flatMap zcN).length) (encU p.Rules.Loads.length ++ p.Rules.Loads.flatMap encL).length) 1024 = _ from zge (enc := encC) (by decide) (fun v hv x rest h => cap_r (capR (g.c v hv)) h) (by omega) (by decide) h4]
  have he : zaT (adv (adv (adv (adv ⟨⟨0⟩, true, encP p, 0⟩ (encU p.Domains.length ++ p.Domains.flatMap encD).length) (encU p.Rules.Pairs.length ++ p.Rules.Pairs.flatMap zcN).length) (encU p.Rules.Loads.length ++ p.Rules.Loads.flatMap encL).length) (encU p.Rules.Caps.length ++ p.Rules.Caps.flatMap encC).length) = 0 := by
    have k1 := h5.len; have k2 := h5.pos; unfold zaT; rw [show zaL (adv (adv (adv (adv ⟨⟨0⟩, true, encP p, 0⟩ (encU p.Domains.length ++ p.Domains.flatMap encD).length) (encU p.Rules.Pairs.length ++ p.Rules.Pairs.flatMap zcN).length) (encU p.Rules.Loads.length ++ p.Rules.Loads.flatMap encL).length) (encU p.Rules.Caps.length ++ p.Rules.Caps.flatMap encC).length) = true from rfl]; rw [decide_eq_false (p := _ < _) (by rw [List.length_nil] at k1; omega), Bool.and_false]; rfl
  rw [Option.bind_some]
  show zaH _ (fun k4 => bif decide (¬ zaT (adv (adv (adv (adv ⟨⟨0⟩, true, encP p, 0⟩ _) _) _) _) = 0) then _ else (zbm p).bind _) = _
  rw [he, zgn, hp]; rfl
def Byt (l : List Int) : Prop := ∀ x ∈ l, 0 ≤ x ∧ x ≤ 255
structure RdO (x : GReader) : Prop where
  made : x.made = true
  byt : Byt x.in_
  pos : 0 ≤ x.at_
  le : x.at_ ≤ (x.in_.length : Int)
theorem RdO.to {x : GReader} (h : RdO x) {k a : Int} (ha : 0 ≤ a ∧ a ≤ (x.in_.length : Int)) : RdO ⟨⟨k⟩, x.made, x.in_, a⟩ := ⟨h.made, h.byt, ha.1, ha.2⟩
def grpF (x : GReader) (i : Nat) (next : (BitVec 64 × BitVec 64 × Int) → Option (Dy (BitVec 64 × Int) (Int × Int))) (s7 : BitVec 64 × BitVec 64 × Int) : Option (Dy (BitVec 64 × Int) (Int × Int)) :=
  (zaq (GReader.mk (Gfault.mk x.fault.first) x.made x.in_ s7.2.2)).bind fun r14 =>
  (bif zb6 r14 then
    (bif ((decide ((i : Int) = 9)) && (decide (((1#64).toNat : Int) < ((BitVec.ofInt 64 (andK .u8 ((okY r14).1) 127)).toNat : Int)))) then
      some (Dy.er (6, ((okY r14).2)))
      else
      (bif decide ((okY r14).1 < 128) then
        (bif ((decide ((okY r14).1 = 0)) && (decide (0 < (i : Int)))) then
          some (Dy.er (6, ((okY r14).2)))
          else
          some (Dy.ok ((s7.2.1 ||| ((BitVec.ofInt 64 (andK .u8 ((okY r14).1) 127)) <<< ((7 * (i : Int)).toNat))), ((okY r14).2))))
        else
        next (s7.1, (s7.2.1 ||| ((BitVec.ofInt 64 (andK .u8 ((okY r14).1) 127)) <<< ((7 * (i : Int)).toNat))), (okY r14).2)))
    else
    some (Dy.er ((erY r14).1, ((erY r14).2))))
theorem zio (x : GReader) (most : Int) : zaw x most = grd (most ≤ 10) (zag (grpF x) (fun s => some (Dy.er (6, s.2.2))) (most.toNat - 0) 0 (0#64, 0#64, x.at_)) := rfl
theorem zii {f : Int} {m : Bool} {l : List Int} {a : Int} (h : (l.length : Int) ≤ a) : zaq ⟨⟨f⟩, m, l, a⟩ = some (Dy.er (4, a)) := by
  unfold zaq; simp only [zaH]; rw [decide_eq_true h, cond_true]
theorem ze4 {x : GReader} {most : Nat} (hm : most ≤ 10) (h : RdO x) : ∃ r, zaw x (most : Int) = some r ∧ (zb6 r = true → ∃ q rest, x.in_.drop x.at_.toNat = encU q ++ rest ∧ (okY r).1 = BitVec.ofNat 64 q ∧ q < 2 ^ 64 ∧ q < 2 ^ (7 * most) ∧ (okY r).2 = x.at_ + ((encU q).length : Int)) ∧ (zb6 r = false → (erY r).1 ≠ 0) := by
  rw [zio, zav (by omega)]
  have key : ∀ (m i lo : Nat) (a : Int) (z : BitVec 64), i + m = most → 0 ≤ a → a ≤ (x.in_.length : Int) → lo < 2 ^ (7 * i) → ∃ r, zag (grpF x) (fun s => some (Dy.er (6, s.2.2))) m i (z, BitVec.ofNat 64 lo, a) = some r ∧
      (zb6 r = true → ∃ q rest, x.in_.drop a.toNat = encU q ++ rest ∧ (okY r).1 = BitVec.ofNat 64 (lo + q * 2 ^ (7 * i)) ∧ lo + q * 2 ^ (7 * i) < 2 ^ 64 ∧ q < 2 ^ (7 * m) ∧ (okY r).2 = a + ((encU q).length : Int) ∧ (0 < i → 0 < q)) ∧ (zb6 r = false → (erY r).1 ≠ 0) := by
    intro m
    induction m with
    | zero => intro i lo a z _ _ _ _; exact ⟨_, rfl, fun h => (by cases h), fun _ => (by show (6 : Int) ≠ 0; decide)⟩
    | succ m ih =>
      intro i lo a z e ha hal hlo
      show ∃ r, grpF x i (zag (grpF x) _ m (i + 1)) (z, BitVec.ofNat 64 lo, a) = some r ∧ _
      unfold grpF; by_cases hlt : a < (x.in_.length : Int)
      · have hd : x.in_.drop a.toNat = nth x.in_ a.toNat :: x.in_.drop (a + 1).toNat := by
          rw [List.drop_eq_getElem_cons (show a.toNat < x.in_.length by omega), ← za8 (show a.toNat < x.in_.length by omega), show (a + 1).toNat = a.toNat + 1 by omega]
        have hb := h.byt _ (zbg (show a.toNat < x.in_.length by omega)); obtain ⟨k, hk⟩ : ∃ k : Nat, nth x.in_ a.toNat = (k : Int) := ⟨(nth x.in_ a.toNat).toNat, by omega⟩; rw [hk] at hd hb; (have hi7 : 7 * i < 64 := by omega)
        show ∃ r, (zaq ⟨⟨x.fault.first⟩, x.made, x.in_, a⟩).bind _ = some r ∧ _
        rw [zgd ha hd]
        show ∃ r, (bif (decide ((i : Int) = 9) && decide (((1#64).toNat : Int) < ((BitVec.ofInt 64 (andK .u8 (k : Int) 127)).toNat : Int))) then some (Dy.er (6, a + 1)) else bif decide ((k : Int) < 128) then (bif decide ((k : Int) = 0) && decide (0 < (i : Int)) then some (Dy.er (6, a + 1)) else some (Dy.ok ((BitVec.ofNat 64 lo ||| ((BitVec.ofInt 64 (andK .u8 (k : Int) 127)) <<< ((7 * (i : Int)).toNat))), a + 1))) else zag (grpF x) _ m (i + 1) (z, (BitVec.ofNat 64 lo ||| ((BitVec.ofInt 64 (andK .u8 (k : Int) 127)) <<< ((7 * (i : Int)).toNat))), a + 1)) = some r ∧ _
        rw [show (7 * (i : Int)).toNat = 7 * i by omega, zhx k (by omega), BitVec.ofInt_natCast]
        cases hbig : (decide ((i : Int) = 9) && decide (((1#64).toNat : Int) < ((BitVec.ofNat 64 (k % 128)).toNat : Int)))
        · rw [cond_false]
          have hp : k % 128 * 2 ^ (7 * i) < 2 ^ 64 := by
            rcases Nat.lt_or_ge i 9 with h8 | h9
            · have h1 : k % 128 * 2 ^ (7 * i) ≤ 127 * 2 ^ (7 * i) := Nat.mul_le_mul_right _ (by omega); have h2 : 2 ^ (7 * i) ≤ 2 ^ 56 := Nat.pow_le_pow_right (by decide) (by omega); omega
            · (have h10 : i = 9 := by omega); subst h10; rw [Bool.and_eq_false_iff, decide_eq_false_iff_not, decide_eq_false_iff_not, BitVec.toNat_ofNat] at hbig
              have h1 : k % 128 ≤ 1 := by
                rcases hbig with h1 | h1
                · exact absurd rfl h1
                · have : ¬ (1 : Int) < ((k % 128 % 2 ^ 64 : Nat) : Int) := h1; omega
              have h3 : k % 128 * 2 ^ (7 * 9) ≤ 1 * 2 ^ (7 * 9) := Nat.mul_le_mul_right _ h1; omega
          have hacc : (BitVec.ofNat 64 lo ||| (BitVec.ofNat 64 (k % 128) <<< (7 * i))) = BitVec.ofNat 64 (lo + k % 128 * 2 ^ (7 * i)) := ziT hlo hi7 (Nat.lt_trans (Nat.mod_lt _ (by decide)) (by decide)) hp
          have hsum : lo + k % 128 * 2 ^ (7 * i) < 2 ^ 64 := by
            have h2 := Nat.shiftLeft_add_eq_or_of_lt hlo (k % 128); rw [Nat.shiftLeft_eq] at h2; rw [Nat.add_comm, h2]; exact Nat.or_lt_two_pow hp (Nat.lt_trans hlo (Nat.pow_lt_pow_right (by decide) hi7))
          rw [hacc]; by_cases h128 : k < 128
          · rw [decide_eq_true (show (k : Int) < 128 by omega), cond_true]
            cases hz : (decide ((k : Int) = 0) && decide (0 < (i : Int)))
            · rw [cond_false]; refine ⟨_, rfl, fun _ => ⟨k, _, by rw [zdJ h128]; exact hd, ?_, ?_, ?_, ?_, fun hi => ?_⟩, fun h => by cases h⟩
              · show BitVec.ofNat 64 _ = _; rw [Nat.mod_eq_of_lt h128]
              · rw [← Nat.mod_eq_of_lt h128]; exact hsum
              · have : 2 ^ 7 ≤ 2 ^ (7 * (m + 1)) := Nat.pow_le_pow_right (by decide) (by omega); omega
              · rw [zdJ h128]; rfl
              · rw [Bool.and_eq_false_iff, decide_eq_false_iff_not, decide_eq_false_iff_not] at hz; omega
            · rw [cond_true]; exact ⟨_, rfl, fun h => (by cases h), fun _ => (by show (6 : Int) ≠ 0; decide)⟩
          · rw [decide_eq_false (show ¬ (k : Int) < 128 by omega), cond_false]; (have e7 : 2 ^ (7 * (i + 1)) = 2 ^ (7 * i) * 128 := by rw [show 7 * (i + 1) = 7 * i + 7 by omega, Nat.pow_add]); (have e8 : 2 ^ (7 * (m + 1)) = 2 ^ (7 * m) * 128 := by rw [show 7 * (m + 1) = 7 * m + 7 by omega, Nat.pow_add])
            obtain ⟨r, er, h1, h2⟩ := ih (i + 1) (lo + k % 128 * 2 ^ (7 * i)) (a + 1) z (by omega) (by omega) (by omega) (by
              rw [e7]; have h3 : k % 128 * 2 ^ (7 * i) ≤ 127 * 2 ^ (7 * i) := Nat.mul_le_mul_right _ (by omega)
              omega)
            refine ⟨r, er, fun hr => ?_, h2⟩; obtain ⟨q, rest, d1, d2, d3, d4, d5, d6⟩ := h1 hr; have hq := d6 (by omega); (have hm1 : (k % 128 + 128 * q) % 128 = k % 128 := by omega); (have hd1 : (k % 128 + 128 * q) / 128 = q := by omega)
            have hen : encU (k % 128 + 128 * q) = (k : Int) :: encU q := by
              rw [zei (by omega), hm1, hd1, show k % 128 + 128 = k by omega]
            have hmul : lo + (k % 128 + 128 * q) * 2 ^ (7 * i) = lo + k % 128 * 2 ^ (7 * i) + q * 2 ^ (7 * (i + 1)) := by
              rw [e7, Nat.add_mul, Nat.mul_comm 128 q, Nat.mul_assoc, Nat.mul_comm 128, Nat.add_assoc]
            refine ⟨k % 128 + 128 * q, rest, ?_, ?_, ?_, ?_, ?_, fun _ => by omega⟩
            · rw [hen, hd, d1]; rfl
            · rw [d2, hmul]
            · rw [hmul]; exact d3
            · rw [e8]; omega
            · rw [d5, hen, List.length_cons]; omega
        · rw [cond_true]; exact ⟨_, rfl, fun h => (by cases h), fun _ => (by show (6 : Int) ≠ 0; decide)⟩
      · show ∃ r, (zaq ⟨⟨x.fault.first⟩, x.made, x.in_, a⟩).bind _ = some r ∧ _
        rw [zii (by omega)]; exact ⟨_, rfl, fun h => (by cases h), fun _ => (by show (4 : Int) ≠ 0; decide)⟩
  obtain ⟨r, e, h1, h2⟩ := key most 0 0 x.at_ 0#64 (by omega) h.pos h.le (by decide); refine ⟨r, by rw [show ((most : Int)).toNat - 0 = most by omega]; exact e, fun hr => ?_, h2⟩; obtain ⟨q, rest, d1, d2, d3, d4, d5, _⟩ := h1 hr; refine ⟨q, rest, d1, ?_, ?_, d4, d5⟩
  · rw [d2]; simp
  · simpa using d3
def Back {α : Type} (f : GReader → Option (α × (Int × Int))) (en : α → List Int) (P : α → Prop) : Prop :=
  ∀ x, RdO x → ∃ v k a, f x = some (v, (k, a)) ∧ (0 ≤ a ∧ a ≤ (x.in_.length : Int)) ∧ P v ∧ (k = 0 → x.fault.first = 0 ∧ ∃ rest, x.in_.drop x.at_.toNat = en v ++ rest ∧ a = x.at_ + ((en v).length : Int))
theorem RdO.end_ {x : GReader} (h : RdO x) {e rest : List Int} (hd : x.in_.drop x.at_.toNat = e ++ rest) : 0 ≤ x.at_ + (e.length : Int) ∧ x.at_ + (e.length : Int) ≤ (x.in_.length : Int) := by
  have h1 := congrArg List.length hd; rw [List.length_drop, List.length_append] at h1; have := h.pos; have := h.le; omega
theorem zb3 : Back zaa encI (fun v => 0 ≤ v ∧ v ≤ 9223372036854775807) := fun x h => by
  unfold zaa; rw [h.made, Bool.true_and]; by_cases hf : x.fault.first = 0
  · rw [decide_eq_true hf, cond_true]; obtain ⟨r, e, h1, h2⟩ := ze4 (most := 9) (by decide) h; rw [show (9 : Int) = ((9 : Nat) : Int) from rfl, e]
    show ∃ v k a, (bif zb6 r then some (wI (((okY r).1).toNat : Int), (x.fault.first, (okY r).2)) else some (0, ((erY r).1, x.at_))) = some (v, (k, a)) ∧ _
    cases hr : zb6 r
    · exact ⟨0, (erY r).1, x.at_, rfl, ⟨h.pos, h.le⟩, by decide, fun hk => absurd hk (h2 hr)⟩
    · obtain ⟨q, rest, d1, d2, d3, d4, d5⟩ := h1 hr; have hq : q < 9223372036854775808 := d4; (have hv : wI (((okY r).1).toNat : Int) = (q : Int) := by rw [d2, BitVec.toNat_ofNat, Nat.mod_eq_of_lt d3, zdq (by omega)]); refine ⟨(q : Int), x.fault.first, (okY r).2, by rw [cond_true, hv], by rw [d5]; exact h.end_ d1, by omega, fun _ => ⟨hf, rest, d1, d5⟩⟩
  · rw [decide_eq_false hf, cond_false]; exact ⟨0, x.fault.first, x.at_, rfl, ⟨h.pos, h.le⟩, by decide, fun hk => absurd hk hf⟩
theorem zjg (v : BitVec 64) (a : Int) : ∃ n, sgF v a = some (Dy.ok (n, a)) ∧ zig n = v.toNat := by
  unfold sgF
  have hb : (((v &&& (1#64)).toNat : Nat) : Int) = ((v.toNat % 2 : Nat) : Int) := by
    rw [BitVec.toNat_and]
    show ((v.toNat &&& 1 : Nat) : Int) = _
    rw [Nat.and_one_is_mod]
  (have hs : (v >>> 1).toNat = v.toNat / 2 := by rw [BitVec.toNat_ushiftRight, Nat.shiftRight_eq_div_pow]); rw [hb, hs, show (((1#64).toNat : Nat) : Int) = 1 from rfl]; have hv := v.isLt; generalize v.toNat = u at hv ⊢; by_cases h1 : u % 2 = 1
  · rw [decide_eq_true (by omega), cond_true, zdq (x := ((u / 2 : Nat) : Int)) (by omega), show ((0 : Nat) : Int) = 0 from rfl, zdq (x := 0 - ((u / 2 : Nat) : Int)) (by omega), zdq (x := 0 - ((u / 2 : Nat) : Int) - 1) (by omega)]; refine ⟨_, rfl, ?_⟩; unfold zig; rw [if_pos (by omega)]; omega
  · rw [decide_eq_false (by omega), cond_false, zdq (by omega)]; refine ⟨_, rfl, ?_⟩; unfold zig; rw [if_neg (by omega)]; omega
theorem ziG : Back zaJ (fun n => encU (zig n)) (fun _ => True) := fun x h => by
  unfold zaJ; rw [h.made, Bool.true_and]; by_cases hf : x.fault.first = 0
  · rw [decide_eq_true hf, cond_true]; obtain ⟨r, e, h1, h2⟩ := ze4 (most := 10) (by decide) h
    have hs : zaE x = bif zb6 r then sgF (okY r).1 (okY r).2 else some (Dy.er ((erY r).1, (erY r).2)) := by
      unfold zaE; rw [show (10 : Int) = ((10 : Nat) : Int) from rfl, e]; rfl
    rw [hs]
    cases hr : zb6 r
    · exact ⟨0, (erY r).1, x.at_, rfl, ⟨h.pos, h.le⟩, trivial, fun hk => absurd hk (h2 hr)⟩
    · obtain ⟨q, rest, d1, d2, d3, d4, d5⟩ := h1 hr; obtain ⟨n, e1, e2⟩ := zjg (okY r).1 (okY r).2; rw [d2, BitVec.toNat_ofNat, Nat.mod_eq_of_lt d3] at e2; rw [cond_true, e1]; exact ⟨n, x.fault.first, (okY r).2, rfl, by rw [d5]; exact h.end_ d1, trivial, fun _ => ⟨hf, rest, by show _ = encU (zig n) ++ rest; rw [e2]; exact d1, by show _ = x.at_ + ((encU (zig n)).length : Int); rw [e2]; exact d5⟩⟩
  · rw [decide_eq_false hf, cond_false]; exact ⟨0, x.fault.first, x.at_, rfl, ⟨h.pos, h.le⟩, trivial, fun hk => absurd hk hf⟩
theorem zho {lim : Int} (h0 : 0 ≤ lim) (hl : lim ≤ 1000000) : Back (fun x => zat x lim) encI (fun v => 0 ≤ v ∧ v ≤ lim) := fun x h => by
  dsimp only; unfold zat; rw [h.made, Bool.true_and]; by_cases hf : x.fault.first = 0
  · rw [decide_eq_true hf, cond_true]; obtain ⟨r, e, h1, h2⟩ := ze4 (most := 9) (by decide) h
    have hs : zaF x lim = bif zb6 r then (bif decide (lim < wI (((okY r).1).toNat : Int)) then some (Dy.er (7, (okY r).2)) else some (Dy.ok (wI (((okY r).1).toNat : Int), (okY r).2))) else some (Dy.er ((erY r).1, (erY r).2)) := by
      unfold zaF; rw [show (9 : Int) = ((9 : Nat) : Int) from rfl, e]; simp only [zaH, Option.bind_some]; rw [decide_eq_false (show ¬ lim < 0 by omega), cond_false]
    rw [hs]
    cases hr : zb6 r
    · exact ⟨0, (erY r).1, x.at_, rfl, ⟨h.pos, h.le⟩, ⟨Int.le_refl _, h0⟩, fun hk => absurd hk (h2 hr)⟩
    · obtain ⟨q, rest, d1, d2, d3, d4, d5⟩ := h1 hr; have hq : q < 9223372036854775808 := d4; (have hv : wI (((okY r).1).toNat : Int) = (q : Int) := by rw [d2, BitVec.toNat_ofNat, Nat.mod_eq_of_lt d3, zdq (by omega)]); rw [cond_true, hv]; by_cases hlim : lim < (q : Int)
      · rw [decide_eq_true hlim, cond_true]; exact ⟨0, 7, x.at_, rfl, ⟨h.pos, h.le⟩, ⟨Int.le_refl _, h0⟩, fun hk => by cases hk⟩
      · rw [decide_eq_false hlim, cond_false]; exact ⟨(q : Int), x.fault.first, (okY r).2, rfl, by rw [d5]; exact h.end_ d1, ⟨by omega, by omega⟩, fun _ => ⟨hf, rest, d1, d5⟩⟩
  · rw [decide_eq_false hf, cond_false]; exact ⟨0, x.fault.first, x.at_, rfl, ⟨h.pos, h.le⟩, ⟨Int.le_refl _, h0⟩, fun hk => absurd hk hf⟩
theorem seq_ {l e1 r1 e2 r2 : List Int} {a a1 a2 : Int} (h0 : 0 ≤ a) (d1 : l.drop a.toNat = e1 ++ r1) (q1 : a1 = a + (e1.length : Int)) (d2 : l.drop a1.toNat = e2 ++ r2) (q2 : a2 = a1 + (e2.length : Int)) : l.drop a.toNat = (e1 ++ e2) ++ r2 ∧ a2 = a + ((e1 ++ e2).length : Int) := by
  (have h1 : l.drop a1.toNat = r1 := by rw [q1, show (a + (e1.length : Int)).toNat = a.toNat + e1.length by omega, ← List.drop_drop, d1, List.drop_left]); rw [List.append_assoc, ← d2, h1]; exact ⟨d1, by rw [List.length_append]; omega⟩
theorem zhX : Back zbH zcN (fun _ => True) := fun x h => by
  obtain ⟨v1, k1, a1, e1, b1, -, c1⟩ := zb3 x h; obtain ⟨v2, k2, a2, e2, b2, -, c2⟩ := zb3 _ (h.to (k := k1) b1); obtain ⟨v3, k3, a3, e3, b3, -, c3⟩ := ziG _ (h.to (k := k2) b2); obtain ⟨v4, k4, a4, e4, b4, -, c4⟩ := zb3 _ (h.to (k := k3) b3); obtain ⟨v5, k5, a5, e5, b5, -, c5⟩ := zb3 _ (h.to (k := k4) b4); refine ⟨⟨v1, v2, v3, v4, v5⟩, k5, a5, ?_, b5, trivial, fun hk => ?_⟩
  · unfold zbH; rw [e1]
    show (zaa ⟨⟨k1⟩, x.made, x.in_, a1⟩).bind _ = _
    rw [e2]
    show (zaJ ⟨⟨k2⟩, x.made, x.in_, a2⟩).bind _ = _
    rw [e3]
    show (zaa ⟨⟨k3⟩, x.made, x.in_, a3⟩).bind _ = _
    rw [e4]
    show (zaa ⟨⟨k4⟩, x.made, x.in_, a4⟩).bind _ = _
    rw [e5]; rfl
  · obtain ⟨f5, r5, d5, q5⟩ := c5 hk; obtain ⟨f4, r4, d4, q4⟩ := c4 f5; obtain ⟨f3, r3, d3, q3⟩ := c3 f4; obtain ⟨f2, r2, d2, q2⟩ := c2 f3; obtain ⟨f1, r1, d1, q1⟩ := c1 f2; obtain ⟨d, q⟩ := seq_ h.pos d1 q1 d2 q2; obtain ⟨d, q⟩ := seq_ h.pos d q d3 q3; obtain ⟨d, q⟩ := seq_ h.pos d q d4 q4; obtain ⟨d, q⟩ := seq_ h.pos d q d5 q5
    have e : zcN ⟨v1, v2, v3, v4, v5⟩ = encI v1 ++ encI v2 ++ encU (zig v3) ++ encI v4 ++ encI v5 := by
      unfold zcN; simp only [zcP, List.flatMap_nil, List.append_nil, List.append_assoc]
    exact ⟨f1, r5, by rw [e]; exact d, by rw [e]; exact q⟩
theorem zhy : Back zbI encL (fun _ => True) := fun x h => by
  obtain ⟨v1, k1, a1, e1, b1, -, c1⟩ := zb3 x h; obtain ⟨v2, k2, a2, e2, b2, -, c2⟩ := zb3 _ (h.to (k := k1) b1); obtain ⟨v3, k3, a3, e3, b3, -, c3⟩ := zb3 _ (h.to (k := k2) b2); obtain ⟨v4, k4, a4, e4, b4, -, c4⟩ := zb3 _ (h.to (k := k3) b3); obtain ⟨v5, k5, a5, e5, b5, -, c5⟩ := zb3 _ (h.to (k := k4) b4); refine ⟨⟨v1, v2, v3, v4, v5⟩, k5, a5, ?_, b5, trivial, fun hk => ?_⟩
  · unfold zbI; rw [e1]
    show (zaa ⟨⟨k1⟩, x.made, x.in_, a1⟩).bind _ = _
    rw [e2]
    show (zaa ⟨⟨k2⟩, x.made, x.in_, a2⟩).bind _ = _
    rw [e3]
    show (zaa ⟨⟨k3⟩, x.made, x.in_, a3⟩).bind _ = _
    rw [e4]
    show (zaa ⟨⟨k4⟩, x.made, x.in_, a4⟩).bind _ = _
    rw [e5]; rfl
  · obtain ⟨f5, r5, d5, q5⟩ := c5 hk; obtain ⟨f4, r4, d4, q4⟩ := c4 f5; obtain ⟨f3, r3, d3, q3⟩ := c3 f4; obtain ⟨f2, r2, d2, q2⟩ := c2 f3; obtain ⟨f1, r1, d1, q1⟩ := c1 f2; obtain ⟨d, q⟩ := seq_ h.pos d1 q1 d2 q2; obtain ⟨d, q⟩ := seq_ h.pos d q d3 q3; obtain ⟨d, q⟩ := seq_ h.pos d q d4 q4; obtain ⟨d, q⟩ := seq_ h.pos d q d5 q5
    have e : encL ⟨v1, v2, v3, v4, v5⟩ = encI v1 ++ encI v2 ++ encI v3 ++ encI v4 ++ encI v5 := by
      unfold encL; simp only [zcP, List.flatMap_nil, List.append_nil, List.append_assoc]
    exact ⟨f1, r5, by rw [e]; exact d, by rw [e]; exact q⟩
theorem zic : Back zbO encC (fun _ => True) := fun x h => by
  obtain ⟨v1, k1, a1, e1, b1, -, c1⟩ := zb3 x h; obtain ⟨v2, k2, a2, e2, b2, -, c2⟩ := zb3 _ (h.to (k := k1) b1); obtain ⟨v3, k3, a3, e3, b3, -, c3⟩ := zb3 _ (h.to (k := k2) b2); obtain ⟨v4, k4, a4, e4, b4, -, c4⟩ := zb3 _ (h.to (k := k3) b3); refine ⟨⟨v1, v2, v3, v4⟩, k4, a4, ?_, b4, trivial, fun hk => ?_⟩
  · unfold zbO; rw [e1]
    show (zaa ⟨⟨k1⟩, x.made, x.in_, a1⟩).bind _ = _
    rw [e2]
    show (zaa ⟨⟨k2⟩, x.made, x.in_, a2⟩).bind _ = _
    rw [e3]
    show (zaa ⟨⟨k3⟩, x.made, x.in_, a3⟩).bind _ = _
    rw [e4]; rfl
  · obtain ⟨f4, r4, d4, q4⟩ := c4 hk; obtain ⟨f3, r3, d3, q3⟩ := c3 f4; obtain ⟨f2, r2, d2, q2⟩ := c2 f3; obtain ⟨f1, r1, d1, q1⟩ := c1 f2; obtain ⟨d, q⟩ := seq_ h.pos d1 q1 d2 q2; obtain ⟨d, q⟩ := seq_ h.pos d q d3 q3; obtain ⟨d, q⟩ := seq_ h.pos d q d4 q4
    have e : encC ⟨v1, v2, v3, v4⟩ = encI v1 ++ encI v2 ++ encI v3 ++ encI v4 := by
      unfold encC; simp only [zcP, List.flatMap_nil, List.append_nil, List.append_assoc]
    exact ⟨f1, r4, by rw [e]; exact d, by rw [e]; exact q⟩
theorem zjb {s k : Nat} (hs : s < 2 ^ 63) (hk : k ≤ 49) : decide (andK .i64 (shrK .i64 (s : Int) (k : Int)) 1 = 1) = s.testBit k := by
  have e1 : shrK .i64 (s : Int) (k : Int) = ((s >>> k : Nat) : Int) := by
    show (s : Int).fdiv (2 ^ (min ((k : Int)).toNat 64)) = _
    rw [show min ((k : Int)).toNat 64 = k by omega, Nat.shiftRight_eq_div_pow, show ((2 : Int) ^ k) = ((2 ^ k : Nat) : Int) by rw [Int.natCast_pow]; rfl]; rw [Int.fdiv_eq_ediv_of_nonneg _ (Int.natCast_nonneg _)]; exact (Int.natCast_ediv _ _).symm
  (have hlt : s >>> k < 2 ^ 63 := by rw [Nat.shiftRight_eq_div_pow]; exact Nat.lt_of_le_of_lt (Nat.div_le_self _ _) hs); rw [e1]; generalize hz : s >>> k = z at hlt
  have e2 : andK .i64 (z : Int) 1 = ((z % 2 : Nat) : Int) := by
    show IntKind.i64.wrap (((BitVec.ofInt 64 (z : Int) &&& BitVec.ofInt 64 ((1 : Nat) : Int)).toNat : Nat) : Int) = _
    rw [BitVec.ofInt_natCast, BitVec.ofInt_natCast, BitVec.toNat_and, BitVec.toNat_ofNat, BitVec.toNat_ofNat, Nat.mod_eq_of_lt (show z < 2 ^ 64 by omega), Nat.mod_eq_of_lt (show 1 < 2 ^ 64 by decide), Nat.and_one_is_mod]; exact zdq (by omega)
  rw [e2, Nat.testBit, hz, Nat.one_and_eq_mod_two]; have := Nat.mod_lt z (show 0 < 2 by decide); generalize z % 2 = y at this ⊢; (have h : y = 0 ∨ y = 1 := by omega); rcases h with rfl | rfl <;> rfl
theorem ziu {s : Nat} (hs : s < 2 ^ 50) : zdj (chR s 50 2) = s := by
  refine Nat.eq_of_testBit_eq fun k => ?_; rw [zf5, Bool.eq_iff_iff, List.any_eq_true]; constructor
  · rintro ⟨c, hc, hk⟩; have := (chR_mem.1 hc).2
    rwa [of_decide_eq_true hk] at this
  · intro hk
    have h50 : k < 50 := by
      rcases Nat.lt_or_ge k 50 with h | h
      · exact h
      · rw [Nat.testBit_lt_two_pow (Nat.lt_of_lt_of_le hs (Nat.pow_le_pow_right (by decide) h))] at hk; cases hk
    exact ⟨(k : Int) + 2, chR_mem.2 ⟨by omega, by rw [show ((k : Int) + 2 - 2).toNat = k by omega]; exact hk⟩, decide_eq_true (by omega)⟩
theorem zgp (s : Nat) : ∀ (m : Nat) (c : Int), (chR s m c).length ≤ m
  | 0, _ => Nat.le_refl _
  | m + 1, c => by
    unfold chR
    split
    · rw [List.length_cons]; have := zgp s m (c + 1); omega
    · have := zgp s m (c + 1); omega
theorem ziw {fuel : Nat} (hf : 100 ≤ fuel) : Back (zbr fuel) encD (fun _ => True) := fun x h => by
  obtain ⟨v1, k1, a1, e1, b1, -, c1⟩ := zb3 x h; obtain ⟨v2, k2, a2, e2, b2, p2, c2⟩ := zb3 _ (h.to (k := k1) b1); obtain ⟨s, hs⟩ : ∃ s : Nat, v2 = (s : Int) := ⟨v2.toNat, by omega⟩; subst hs
  have hloop : ∀ K : Int × List Int → Option (GDomain × (Int × Int)), zcx (fun (next11 : (Int × Int × List Int) → Option (GDomain × (Int × Int))) (s11 : Int × Int × List Int) =>
        (bif decide (s11.1 ≤ 51) then
          grd (0 ≤ wI (s11.1 - 2)) <|
          (bif decide ((andK .i64 (shrK .i64 (s : Int) (wI (s11.1 - 2))) 1) = 1) then
            grd (room (s11.2.2 ++ [s11.1]).length 8) <|
            next11 (wI (s11.1 + 1), s11.2.1, (s11.2.2 ++ [s11.1]))
            else
            next11 (wI (s11.1 + 1), s11.2.1, s11.2.2))
          else
          K (s11.2.1, s11.2.2))) fuel (2, v1, []) = K (v1, chR s 50 2) := fun K => by
    have hR2 := zgp s 50 2; obtain ⟨R, hR⟩ : ∃ R, chR s 50 2 = R := ⟨_, rfl⟩; rw [hR] at hR2 ⊢; refine zc4 (σ := Int × Int × List Int) (I := fun t => (2 ≤ t.1 ∧ t.1 ≤ 52) ∧ t.2.1 = v1 ∧ t.2.2 ++ chR s (52 - t.1).toNat t.1 = R) (μ := fun t => (52 - t.1).toNat) (post := fun o => o = K (v1, R)) ⟨by omega, rfl, hR⟩ (by show (52 - (2 : Int)).toNat < fuel; omega) ?_; rintro ⟨c, st, l⟩ next ⟨hc, rfl, hl⟩ hn; dsimp only at hc hl hn ⊢; by_cases h51 : c ≤ 51
    · rw [decide_eq_true h51, cond_true, zdq (by omega), zav (by omega), show c - 2 = (((c - 2).toNat : Nat) : Int) by omega, zjb (show s < 2 ^ 63 by omega) (by omega), zdq (by omega)]; (have hm : (52 - c).toNat = (52 - (c + 1)).toNat + 1 := by omega); rw [hm] at hl; unfold chR at hl
      cases hb : s.testBit (c - 2).toNat
      · rw [hb, if_neg (by decide)] at hl; exact hn _ ⟨by omega, rfl, hl⟩ (by dsimp only; omega)
      · rw [hb, if_pos rfl] at hl
        have hlen : (l ++ [c]).length ≤ 100 := by
          have h1 := congrArg List.length hl; rw [List.length_append, List.length_cons] at h1; rw [List.length_append, List.length_singleton]; omega
        rw [cond_true, zav (by unfold room; omega)]; exact hn _ ⟨by omega, rfl, by rw [List.append_assoc, List.singleton_append, hl]⟩ (by dsimp only; omega)
    · rw [decide_eq_false h51, cond_false]; (have hm : (52 - c).toNat = 0 := by omega); rw [hm] at hl; have hl : l ++ [] = R := hl; rw [List.append_nil] at hl; rw [hl]
  unfold zbr; rw [e1]
  show ∃ v k a, (zaa ⟨⟨k1⟩, x.made, x.in_, a1⟩).bind _ = some (v, (k, a)) ∧ _
  rw [e2]; simp only [zaH, Option.bind_some]; by_cases hbig : (1125899906842624 : Int) ≤ (s : Int)
  · rw [decide_eq_true hbig, cond_true]; refine ⟨⟨v1, chR s 50 2⟩, _, a2, hloop (fun t => some (⟨t.1, t.2⟩, (za6 ⟨⟨k2⟩, x.made, x.in_, a2⟩ 6, a2))), b2, trivial, fun hk => absurd hk ?_⟩; unfold za6
    show ¬ (bif x.made then (if k2 = 0 then (6 : Int) else k2) else k2) = 0
    rw [h.made, cond_true]
    split
    · decide
    · assumption
  · rw [decide_eq_false hbig, cond_false]; refine ⟨⟨v1, chR s 50 2⟩, k2, a2, hloop (fun t => some (⟨t.1, t.2⟩, (k2, a2))), b2, trivial, fun hk => ?_⟩; obtain ⟨f2, r2, d2, q2⟩ := c2 hk; obtain ⟨f1, r1, d1, q1⟩ := c1 f2; obtain ⟨d, q⟩ := seq_ h.pos d1 q1 d2 q2
    have e : encD ⟨v1, chR s 50 2⟩ = encI v1 ++ encI (s : Int) := by
      unfold encD; dsimp only; rw [ziu (by omega)]; simp only [zcP, List.flatMap_nil, List.append_nil]
    exact ⟨f1, r2, by rw [e]; exact d, by rw [e]; exact q⟩
theorem zeo {α : Type} [Inhabited α] {read : GReader → Option (α × (Int × Int))} {en : α → List Int} {P : α → Prop} {lim : Int} {sz : Nat} (hz : sz ≤ 100) (hb : Back read en P) (h0 : 0 ≤ lim) (hm : lim ≤ 5000) :
    Back (fun x => ((zat x lim).bind fun r11 =>
      zaH (fun (s4 : List α × Int × Int) => some (s4.1, (s4.2.1, s4.2.2)))
      (fun k4 =>
        grd (r11.1 ≤ 9223372036854775807) <|
        zag (fun (i_9 : Nat) (next8 : (List α × Int × Int) → Option (List α × (Int × Int))) (s8 : List α × Int × Int) =>
          (read (GReader.mk (Gfault.mk s8.2.1) x.made x.in_ s8.2.2)).bind fun r16 =>
          (bif decide (¬ (zak (GReader.mk (Gfault.mk r16.2.1) x.made x.in_ r16.2.2)) = 0) then
            some ([], (r16.2.1, r16.2.2))
            else
            grd (room (s8.1 ++ [r16.1]).length sz) <|
            next8 ((s8.1 ++ [r16.1]), r16.2.1, r16.2.2)))
        (fun (s8 : List α × Int × Int) =>
          k4 (s8.1, s8.2.1, s8.2.2)) (r11.1.toNat - 0) 0 ([], r11.2.1, r11.2.2)))) (fun l => encU l.length ++ l.flatMap en) (fun l => (l.length : Int) ≤ lim) := fun x h => by
  obtain ⟨n, k1, a1, e1, b1, p1, c1⟩ := zho h0 (by omega) x h; dsimp only at e1 ⊢; rw [e1]
  have key : ∀ m (acc : List α) (i : Nat) (k a : Int), acc.length + m ≤ lim.toNat → 0 ≤ a ∧ a ≤ (x.in_.length : Int) → ∃ l k' a',
      zag (fun (i_9 : Nat) (next8 : (List α × Int × Int) → Option (List α × (Int × Int))) (s8 : List α × Int × Int) =>
          (read (GReader.mk (Gfault.mk s8.2.1) x.made x.in_ s8.2.2)).bind fun r16 =>
          (bif decide (¬ (zak (GReader.mk (Gfault.mk r16.2.1) x.made x.in_ r16.2.2)) = 0) then
            some ([], (r16.2.1, r16.2.2))
            else
            grd (room (s8.1 ++ [r16.1]).length sz) <|
            next8 ((s8.1 ++ [r16.1]), r16.2.1, r16.2.2))) (fun s8 : List α × Int × Int => some (s8.1, (s8.2.1, s8.2.2))) m i (acc, k, a) = some (l, (k', a')) ∧ (0 ≤ a' ∧ a' ≤ (x.in_.length : Int)) ∧ (l.length ≤ lim.toNat) ∧
        (k' = 0 → k = 0 ∧ ∃ t rest, l = acc ++ t ∧ t.length = m ∧ x.in_.drop a.toNat = t.flatMap en ++ rest ∧ a' = a + ((t.flatMap en).length : Int)) := by
    intro m
    induction m with
    | zero => intro acc i k a hl ha; exact ⟨acc, k, a, rfl, ha, by omega, fun hk => ⟨hk, [], _, by simp, rfl, by simp; rfl, by simp⟩⟩
    | succ m ih =>
      intro acc i k a hl ha; obtain ⟨v, k2, a2, e2, b2, -, c2⟩ := hb _ (h.to (k := k) ha)
      show ∃ l k' a', (read ⟨⟨k⟩, x.made, x.in_, a⟩).bind _ = some (l, (k', a')) ∧ _
      rw [e2]
      have he : zak ⟨⟨k2⟩, x.made, x.in_, a2⟩ = k2 := by
        unfold zak zaL; rw [h.made]; rfl
      show ∃ l k' a', (bif decide (¬ zak ⟨⟨k2⟩, x.made, x.in_, a2⟩ = 0) then some ([], (k2, a2)) else grd (room (acc ++ [v]).length sz) (zag _ _ m (i + 1) (acc ++ [v], k2, a2))) = some (l, (k', a')) ∧ _
      rw [he]; by_cases hk2 : k2 = 0
      · rw [decide_eq_false (fun hn => hn hk2), cond_false]; (have hal : (acc ++ [v]).length = acc.length + 1 := by rw [List.length_append, List.length_singleton])
        rw [zav (by
          unfold room; have : (acc ++ [v]).length * sz ≤ 5000 * 100 := Nat.mul_le_mul (by omega) hz
          omega)]
        obtain ⟨l, k', a', e3, b3, n3, c3⟩ := ih (acc ++ [v]) (i + 1) k2 a2 (by omega) b2; refine ⟨l, k', a', e3, b3, n3, fun hk => ?_⟩; obtain ⟨f3, t, rest, g1, g2, g3, g4⟩ := c3 hk; obtain ⟨f2, r2, d2, q2⟩ := c2 f3; obtain ⟨d, q⟩ := seq_ ha.1 d2 q2 g3 g4; exact ⟨f2, v :: t, rest, by rw [g1, List.append_assoc]; rfl, by rw [List.length_cons, g2], by rw [List.flatMap_cons]; exact d, by rw [List.flatMap_cons]; exact q⟩
      · rw [decide_eq_true hk2, cond_true]; exact ⟨[], k2, a2, rfl, b2, by simp, fun hk => absurd hk hk2⟩
  obtain ⟨l, k', a', e3, b3, n3, c3⟩ := key n.toNat [] 0 k1 a1 (by simp; omega) b1; refine ⟨l, k', a', ?_, b3, by omega, fun hk => ?_⟩
  · show grd (n ≤ 9223372036854775807) (zag _ (fun s8 : List α × Int × Int => some (s8.1, (s8.2.1, s8.2.2))) (n.toNat - 0) 0 ([], k1, a1)) = _
    rw [zav (by omega), Nat.sub_zero, e3]
  · obtain ⟨f3, t, rest, g1, g2, g3, g4⟩ := c3 hk; rw [List.nil_append] at g1; subst g1; obtain ⟨f1, r1, d1, q1⟩ := c1 f3; obtain ⟨d, q⟩ := seq_ h.pos d1 q1 g3 g4; (have e : encI n = encU l.length := by unfold encI; rw [g2]); rw [e] at d q; exact ⟨f1, rest, d, q⟩
theorem zgV {fuel : Nat} {b : List Int} (hf : 100 ≤ fuel) (hb : Byt b) (hl : b.length ≤ 65536) : ∃ r, zbJ fuel b = some r ∧ ((r.2 = 0 ∧ okP r.1 = true ∧ encP r.1 = b) ∨ r = (⟨[], ⟨[], [], []⟩⟩, 6)) := by
  unfold zbJ; rw [decide_eq_false (by omega), cond_false]
  have hr : zc2 b = some (some ⟨⟨0⟩, true, b, 0⟩) := by
    unfold zc2; rw [List.nil_append, zav (by unfold room; omega)]
  rw [hr]; simp only [Option.bind_some, Option.isSome_some, cond_true, Option.getD_some]; have h : RdO ⟨⟨0⟩, true, b, 0⟩ := ⟨rfl, hb, Int.le_refl _, by show (0 : Int) ≤ (b.length : Int); omega⟩; obtain ⟨v1, k1, a1, e1, b1, -, c1⟩ := zeo (sz := 32) (by decide) (ziw hf) (lim := 512) (by decide) (by decide) _ h; obtain ⟨v2, k2, a2, e2, b2, -, c2⟩ := zeo (sz := 40) (by decide) zhX (lim := 4096) (by decide) (by decide) _ (h.to (k := k1) b1); obtain ⟨v3, k3, a3, e3, b3, -, c3⟩ := zeo (sz := 40) (by decide) zhy (lim := 1024) (by decide) (by decide) _ (h.to (k := k2) b2); obtain ⟨v4, k4, a4, e4, b4, -, c4⟩ := zeo (sz := 32) (by decide) zic (lim := 1024) (by decide) (by decide) _ (h.to (k := k3) b3); have e1 : zaB fuel ⟨⟨0⟩, true, b, 0⟩ 512 = _ := e1; have e2 : zaz ⟨⟨k1⟩, true, b, a1⟩ 4096 = _ := e2; have e3 : zay ⟨⟨k2⟩, true, b, a2⟩ 1024 = _ := e3; have e4 : zaC ⟨⟨k3⟩, true, b, a3⟩ 1024 = _ := e4; rw [e1, Option.bind_some]
  show ∃ r, (zaz ⟨⟨k1⟩, true, b, a1⟩ 4096).bind _ = some r ∧ _
  rw [e2, Option.bind_some]
  show ∃ r, (zay ⟨⟨k2⟩, true, b, a2⟩ 1024).bind _ = some r ∧ _
  rw [e3, Option.bind_some]
  show ∃ r, (zaC ⟨⟨k3⟩, true, b, a3⟩ 1024).bind _ = some r ∧ _
  rw [e4, Option.bind_some]; simp only [zaH]; by_cases he : zaT ⟨⟨k4⟩, true, b, a4⟩ = 0
  · rw [decide_eq_false (fun hn => hn he), cond_false, zgn]
    cases hp : okP ⟨v1, ⟨v2, v3, v4⟩⟩
    · exact ⟨_, rfl, .inr rfl⟩
    refine ⟨_, rfl, .inl ⟨rfl, hp, ?_⟩⟩; have he : (bif decide (k4 = 0) && decide (a4 < (b.length : Int)) then (5 : Int) else k4) = 0 := he
    have hk : k4 = 0 := by
      by_cases hk : k4 = 0
      · exact hk
      · rw [decide_eq_false hk] at he; exact he
    (have ha : ¬ a4 < (b.length : Int) := fun ha => by rw [decide_eq_true hk, decide_eq_true ha] at he; cases he); obtain ⟨f4, r4, d4, q4⟩ := c4 hk; obtain ⟨f3, r3, d3, q3⟩ := c3 f4; obtain ⟨f2, r2, d2, q2⟩ := c2 f3; obtain ⟨f1, r1, d1, q1⟩ := c1 f2; obtain ⟨d, q⟩ := seq_ h.pos d1 q1 d2 q2; obtain ⟨d, q⟩ := seq_ h.pos d q d3 q3; obtain ⟨d, q⟩ := seq_ h.pos d q d4 q4
    have e : encP ⟨v1, ⟨v2, v3, v4⟩⟩ = ((encU v1.length ++ v1.flatMap encD) ++ (encU v2.length ++ v2.flatMap zcN)) ++ (encU v3.length ++ v3.flatMap encL) ++ (encU v4.length ++ v4.flatMap encC) := by
      unfold encP; simp only [List.append_assoc]
    have d : b.drop (0 : Int).toNat = _ := d; rw [← e, show (0 : Int).toNat = 0 from rfl, List.drop_zero] at d; have hlen := congrArg List.length d; rw [List.length_append] at hlen; rw [← e] at q; have q : a4 = 0 + ((encP ⟨v1, ⟨v2, v3, v4⟩⟩).length : Int) := q; have : r4 = [] := List.eq_nil_of_length_eq_zero (by omega); rw [this, List.append_nil] at d; exact d.symm
  · rw [decide_eq_true he, cond_true]; exact ⟨_, rfl, .inr rfl⟩
theorem loopI {σ ρ : Type} {f : Nat → (σ → ρ) → σ → ρ} {k : σ → ρ} {n : Nat} {s : σ} (I : Nat → σ → Prop) (h0 : I 0 s) (hf : ∀ i next s, i < n → I i s → ∃ s', I (i + 1) s' ∧ f i next s = next s') : ∃ s', I n s' ∧ zag f k n 0 s = k s' := by
  have key : ∀ m i s, i + m = n → I i s → ∃ s', I n s' ∧ zag f k m i s = k s' := by
    intro m
    induction m with
    | zero => intro i s e h; exact ⟨s, by rw [← e]; exact h, rfl⟩
    | succ m ih =>
      intro i s e h; obtain ⟨s1, h1, e1⟩ := hf i (zag f k m (i + 1)) s (by omega) h; obtain ⟨s2, h2, e2⟩ := ih (i + 1) s1 (by omega) h1; exact ⟨s2, h2, Eq.trans e1 e2⟩
  exact key n 0 s (by omega) h0
open Classical in
theorem loopG {σ ρ : Type} (I : Nat → σ → Prop) (Q : ρ → Prop) {f : Nat → (σ → ρ) → σ → ρ} {k : σ → ρ} {n : Nat} {s : σ} (h0 : I 0 s) (hf : ∀ i next s, i < n → I i s → ∃ s', I (i + 1) s' ∧ f i next s = next s') (hk : ∀ s, I n s → Q (k s)) : Q (zag f k n 0 s) := by
  obtain ⟨s', h, e⟩ := loopI (k := k) I h0 hf; rw [e]; exact hk s' h
end Go.Proofs.YtipomhejoajjdaaGreat
