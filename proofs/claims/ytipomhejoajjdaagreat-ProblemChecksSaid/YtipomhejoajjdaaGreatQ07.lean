/- Yr Ys Pc Pd Pk Of: shortened and put together by squeeze.py. -/
import Derived.Test.YtipomhejoajjdaaGreatQ06
import Derived.Deep.Slices
import Derived.ChangeArms
set_option maxRecDepth 100000
set_option maxHeartbeats 4000000
set_option linter.unusedVariables false
set_option linter.unusedSectionVars false
set_option linter.unusedSimpArgs false
namespace Go.Proofs.YtipomhejoajjdaaGreat
open Go.RowKit
def zaE  : GProblem :=
  (GProblem.mk [(GDomain.mk 1 [14, 15, 16]), (GDomain.mk 2 [14, 15]), (GDomain.mk 3 [15])] (GRules.mk [(GPair.mk 1 2 0 14 16), (GPair.mk 1 2 1 14 15)] [(GLoad.mk 3 2 5 14 51)] [(GCap.mk 3 4 14 51)]))
theorem zbT (F0 : Frz) (w : World) (hF0 : F0.At w)  : Calls Tryz.prog 36 #[] w fun e w' => ∃ (y : Value × List (List Value) × Value × Value × Value) (G : Frz), (SlD GDomain.rep G y.1 2 y.2.1 ((zaE).Domains) ∧ SlC G y.2.2.1 5 (((zaE).Rules.Pairs).map GPair.enc) ∧ SlC G y.2.2.2.1 5 (((zaE).Rules.Loads).map GLoad.enc) ∧ SlC G y.2.2.2.2 4 (((zaE).Rules.Caps).map GCap.enc)) ∧ e = .returned (.agg [y.1, y.2.2.1, y.2.2.2.1, y.2.2.2.2].toArray) ∧ Fx F0 w G w' := by
  obtain ⟨r, hk⟩ : ∃ r, zaE = r := ⟨_, rfl⟩; rw [hk]; unfold zaE at hk; obtain ⟨S0, F1, rfl, hS0, hp0⟩ := zaj hF0; refine zal Tryz.func36 rfl rfl rfl hp0 ?_; refine T.sr ?_; refine TL.e (Ew.alloc rfl) ?_; rintro _ _ ⟨g0, rfl, rfl⟩; refine TL.nx ?_; refine TL.e (Ew.buildSlice rfl rfl rfl (by decide)) ?_; rintro _ _ ⟨g1, rfl, rfl⟩; refine TL.ay (fun w hw => hw.freezeR (i := 2) (j := 0) (by decide) rfl rfl) ?_; rintro F2 ⟨le1_2, hz2⟩; dsimp only [List.set, List.eraseIdx]; have hf2 : SlC F2.toFrz (.slice (some ⟨g1, 0, none⟩) 3 3) 1 ([14, 15, 16].map eI) := (SlK.lit hz2 rfl (Nat.le_refl _) (by decide)).toF (xs := [14, 15, 16]) rfl (fun _ => rfl); refine TL.y (Yv.build rfl rfl) ?_; refine TL.e (Ew.buildSlice rfl rfl rfl (by decide)) ?_; rintro _ _ ⟨g3, rfl, rfl⟩; refine TL.ay (fun w hw => hw.freezeR (i := 2) (j := 0) (by decide) rfl rfl) ?_; rintro F3 ⟨le2_3, hz3⟩; dsimp only [List.set, List.eraseIdx]; have le1_3 := le1_2.trans le2_3; have hf3 : SlC F3.toFrz (.slice (some ⟨g3, 0, none⟩) 2 2) 1 ([14, 15].map eI) := (SlK.lit hz3 rfl (Nat.le_refl _) (by decide)).toF (xs := [14, 15]) rfl (fun _ => rfl); refine TL.y (Yv.build rfl rfl) ?_; refine TL.e (Ew.buildSlice rfl rfl rfl (by decide)) ?_; rintro _ _ ⟨g5, rfl, rfl⟩; refine TL.ay (fun w hw => hw.freezeR (i := 2) (j := 0) (by decide) rfl rfl) ?_; rintro F4 ⟨le3_4, hz4⟩; dsimp only [List.set, List.eraseIdx]; have le1_4 := le1_3.trans le3_4; have le2_4 := le2_3.trans le3_4; have hf4 : SlC F4.toFrz (.slice (some ⟨g5, 0, none⟩) 1 1) 1 ([15].map eI) := (SlK.lit hz4 rfl (Nat.le_refl _) (by decide)).toF (xs := [15]) rfl (fun _ => rfl); refine TL.y (Yv.build rfl rfl) ?_; refine TL.e (Ew.buildSlice rfl rfl rfl (by decide)) ?_; rintro _ _ ⟨g7, rfl, rfl⟩; have hl7 : OwnD GDomain.rep F4.toFrz 2 [[.int .i64 1, (.slice (some ⟨g1, 0, none⟩) 3 3)], [.int .i64 2, (.slice (some ⟨g3, 0, none⟩) 2 2)], [.int .i64 3, (.slice (some ⟨g5, 0, none⟩) 1 1)]] [(GDomain.mk 1 [14, 15, 16]), (GDomain.mk 2 [14, 15]), (GDomain.mk 3 [15])] := (OwnD.snoc (OwnD.snoc (OwnD.snoc (OwnD.nil _ _ 2) ⟨_, rfl, (SlC.mono hf2 le2_4)⟩ rfl) ⟨_, rfl, (SlC.mono hf3 le3_4)⟩ rfl) ⟨_, rfl, hf4⟩ rfl); refine TL.y (Yv.build rfl rfl) ?_; refine TL.y (Yv.build rfl rfl) ?_; refine TL.e (Ew.buildSlice rfl rfl rfl (by decide)) ?_; rintro _ _ ⟨g10, rfl, rfl⟩; refine TL.y (Yv.build rfl rfl) ?_; refine TL.e (Ew.buildSlice rfl rfl rfl (by decide)) ?_; rintro _ _ ⟨g12, rfl, rfl⟩; refine TL.y (Yv.build rfl rfl) ?_; refine TL.e (Ew.buildSlice rfl rfl rfl (by decide)) ?_; rintro _ _ ⟨g14, rfl, rfl⟩; refine TL.y (Yv.build rfl rfl) ?_; refine TL.y (Yv.build rfl rfl) ?_; refine TL.e0 (Ew.ah 4 rfl rfl rfl rfl rfl rfl) ?_; rintro _ _ ⟨rfl, rfl⟩; refine TL.ns (T.ret ?_); refine K.ay (fun w hw => hw.freezeR (i := 5) (j := 3) (by decide) rfl rfl) ?_; rintro F5 ⟨le4_5, hz5⟩; dsimp only [List.set, List.eraseIdx]; have le1_5 := le1_4.trans le4_5; have hf5 : SlD GDomain.rep F5.toFrz (.slice (some ⟨g7, 0, none⟩) 3 3) 2 [[.int .i64 1, (.slice (some ⟨g1, 0, none⟩) 3 3)], [.int .i64 2, (.slice (some ⟨g3, 0, none⟩) 2 2)], [.int .i64 3, (.slice (some ⟨g5, 0, none⟩) 1 1)]] [(GDomain.mk 1 [14, 15, 16]), (GDomain.mk 2 [14, 15]), (GDomain.mk 3 [15])] := (SlK.lit hz5 rfl (Nat.le_refl _) (by decide)).toD (OwnD.mono (rep := GDomain.rep) (fun _ _ _ _ => GDomain.mono) hl7 le4_5) rfl; refine K.ay (fun w hw => hw.freezeR (i := 4) (j := 2) (by decide) rfl rfl) ?_; rintro F6 ⟨le5_6, hz6⟩; dsimp only [List.set, List.eraseIdx]; have le1_6 := le1_5.trans le5_6; have hf6 : SlC F6.toFrz (.slice (some ⟨g10, 0, none⟩) 2 2) 5 ([(GPair.mk 1 2 0 14 16), (GPair.mk 1 2 1 14 15)].map GPair.enc) := (SlK.lit hz6 rfl (Nat.le_refl _) (by decide)).toF (xs := [(GPair.mk 1 2 0 14 16), (GPair.mk 1 2 1 14 15)]) rfl GPair.len; refine K.ay (fun w hw => hw.freezeR (i := 3) (j := 1) (by decide) rfl rfl) ?_; rintro F7 ⟨le6_7, hz7⟩; dsimp only [List.set, List.eraseIdx]; have le1_7 := le1_6.trans le6_7; have le5_7 := le5_6.trans le6_7; have hf7 : SlC F7.toFrz (.slice (some ⟨g12, 0, none⟩) 1 1) 5 ([(GLoad.mk 3 2 5 14 51)].map GLoad.enc) := (SlK.lit hz7 rfl (Nat.le_refl _) (by decide)).toF (xs := [(GLoad.mk 3 2 5 14 51)]) rfl GLoad.len; refine K.ay (fun w hw => hw.freezeR (i := 2) (j := 0) (by decide) rfl rfl) ?_; rintro F8 ⟨le7_8, hz8⟩; dsimp only [List.set, List.eraseIdx]; have le1_8 := le1_7.trans le7_8; have le5_8 := le5_7.trans le7_8; have le6_8 := le6_7.trans le7_8; have hf8 : SlC F8.toFrz (.slice (some ⟨g14, 0, none⟩) 1 1) 4 ([(GCap.mk 3 4 14 51)].map GCap.enc) := (SlK.lit hz8 rfl (Nat.le_refl _) (by decide)).toF (xs := [(GCap.mk 3 4 14 51)]) rfl GCap.len; subst hk; exact K.aH 0 rfl rfl rfl rfl (fun w' hw => ⟨((.slice (some ⟨g7, 0, none⟩) 3 3), [[.int .i64 1, (.slice (some ⟨g1, 0, none⟩) 3 3)], [.int .i64 2, (.slice (some ⟨g3, 0, none⟩) 2 2)], [.int .i64 3, (.slice (some ⟨g5, 0, none⟩) 1 1)]], (.slice (some ⟨g10, 0, none⟩) 2 2), (.slice (some ⟨g12, 0, none⟩) 1 1), (.slice (some ⟨g14, 0, none⟩) 1 1)), F8.toFrz, ⟨(SlD.mono (rep := GDomain.rep) (fun _ _ _ _ => GDomain.mono) hf5 le5_8), (SlC.mono hf6 le6_8), (SlC.mono hf7 le7_8), hf8⟩, rfl, Fx.of hw (i := 1) rfl hS0 le1_8⟩)
def zaC (a : Int) (b : Int) (c : Int) : List GChoice :=
  [(GChoice.mk 1 a), (GChoice.mk 2 b), (GChoice.mk 3 c)]
theorem zb0 (F0 : Frz) (w : World) (hF0 : F0.At w) (a : Int) (b : Int) (c : Int) : Calls Tryz.prog 35 #[.int .i64 a, .int .i64 b, .int .i64 c] w fun e w' => ∃ (y : Value) (G : Frz), (SlC G y 2 ((zaC a b c).map GChoice.enc)) ∧ e = .returned (y) ∧ Fx F0 w G w' := by
  obtain ⟨r, hk⟩ : ∃ r, zaC a b c = r := ⟨_, rfl⟩; rw [hk]; unfold zaC at hk; obtain ⟨S0, F1, rfl, hS0, hp0⟩ := zaj hF0; refine zal Tryz.func35 rfl rfl rfl hp0 ?_; refine T.sr ?_; refine TL.run 1 rfl ?_; refine TL.nx ?_; refine TL.run 1 rfl ?_; refine TL.y (Yv.build rfl rfl) ?_; refine TL.run 1 rfl ?_; refine TL.y (Yv.build rfl rfl) ?_; refine TL.run 1 rfl ?_; refine TL.y (Yv.build rfl rfl) ?_; refine TL.e (Ew.buildSlice rfl rfl rfl (by decide)) ?_; rintro _ _ ⟨g13, rfl, rfl⟩; refine TL.run 1 rfl ?_; refine TL.ns (T.ret ?_); refine K.ay (fun w hw => hw.freezeR (i := 1) (j := 0) (by decide) rfl rfl) ?_; rintro F2 ⟨le1_2, hz2⟩; dsimp only [List.set, List.eraseIdx]; have hf2 : SlC F2.toFrz (.slice (some ⟨g13, 0, none⟩) 3 3) 2 ([(GChoice.mk 1 a), (GChoice.mk 2 b), (GChoice.mk 3 c)].map GChoice.enc) := (SlK.lit hz2 rfl (Nat.le_refl _) (by decide)).toF (xs := [(GChoice.mk 1 a), (GChoice.mk 2 b), (GChoice.mk 3 c)]) rfl GChoice.len; subst hk; exact K.aj rfl rfl (fun w' hw => ⟨(.slice (some ⟨g13, 0, none⟩) 3 3), F2.toFrz, hf2, rfl, Fx.of hw (i := 0) rfl hS0 le1_2⟩)
def zbB (l : List GChoice) (kind : Int) (at_ : Int) : Option Bool :=
  (zbH (zaE) l).bind fun r12 =>
  some (((decide (r12.2 = 0)) && (decide (r12.1.Kind = kind))) && (decide (r12.1.At = at_)))
theorem zb6 (F0 : Frz) (w : World) (hF0 : F0.At w) (l : List GChoice) (vl : Value) (hl : SlC F0 vl 2 (l.map GChoice.enc)) (kind : Int) (at_ : Int) (r : Bool) (hr : zbB l kind at_ = some r) : Calls Tryz.prog 34 #[vl, .int .i64 kind, .int .i64 at_] w fun e w' => e = .returned (.bool r) ∧ Below w.heap.size w w' := by
  have hk := hr; unfold zbB at hk; haveI := hl.oneC; obtain ⟨S0, F1, rfl, hS0, hp0⟩ := zaj hF0; refine zal Tryz.func34 rfl rfl rfl hp0 ?_; refine T.sr ?_; refine TL.run 1 rfl ?_; refine TL.ns (T.seq ?_); have hq := zag hk; clear hk; obtain ⟨r12, hr12, hk⟩ := hq; (try dsimp only at hk); refine T.region ?_; refine TL.e (Ew.ax 0 rfl rfl rfl rfl (fun w hw hF => zbT _ w hF )) ?_; rintro _ _ ⟨⟨v10_0_0, cs10_0_0, v10_0_1, v10_0_2, v10_0_3⟩, F2, le1_2, ⟨hf10_0_0, hf10_0_1, hf10_0_2, hf10_0_3⟩, rfl, rfl⟩; dsimp only at hf10_0_0 hf10_0_1 hf10_0_2 hf10_0_3 ⊢; haveI := hf10_0_0.1.oneC; haveI := hf10_0_1.oneC; haveI := hf10_0_2.oneC; haveI := hf10_0_3.oneC; refine TL.run 1 rfl ?_; refine TL.e (Ew.ae rfl rfl rfl (fun w hw => zc6 _ w (hw.fr (i := 0) rfl) (zaE) v10_0_0 cs10_0_0 hf10_0_0 v10_0_1 hf10_0_1 v10_0_2 hf10_0_2 v10_0_3 hf10_0_3 l vl (SlC.mono hl le1_2) r12 hr12)) ?_; rintro _ _ ⟨rfl, rfl⟩; refine TL.run 3 rfl ?_; refine TL.e (Ew.alloc rfl) ?_; rintro _ _ ⟨g7, rfl, rfl⟩; refine TL.e0 (Ew.ah 0 rfl rfl rfl rfl rfl rfl) ?_; rintro _ _ ⟨rfl, rfl⟩; refine TL.run 1 rfl ?_; refine TL.ns (T.seq ?_); refine T.ai (ι := Unit) (fun z => [(6, .bool (((decide (r12.2 = 0)) && (decide (r12.1.Kind = kind))) && (decide (r12.1.At = at_))))]) (fun z => [.row g7 35 [.int .i64 r12.1.Kind, .int .i64 r12.1.At], .fr F2]) (fun z => True) ?_ ?_
  · refine T.region ?_; refine TL.run 3 rfl ?_; refine TL.gs rfl rfl rfl (fun h1 => ?_) (fun h1 => ?_)
    · have p1 := of_decide_eq_true h1; refine TL.y (Yv.fieldAddr rfl rfl) ?_; refine TL.y (Yv.aa 0 rfl rfl rfl rfl) ?_; refine TL.run 4 rfl ?_; refine TL.gs rfl rfl rfl (fun h2 => ?_) (fun h2 => ?_)
      · have p2 := of_decide_eq_true h2; refine TL.y (Yv.fieldAddr rfl rfl) ?_; refine TL.y (Yv.aa 0 rfl rfl rfl rfl) ?_; refine TL.run 4 rfl ?_; refine TL.nil ?_; exact K.ag () trivial (.b (zct (zar h1 h2)) .nil) (List.Sublist.refl _)
      · have p2 := of_decide_eq_false h2; refine TL.run 6 rfl ?_; refine TL.nil ?_; exact K.ag () trivial (.b (zan (zar h1 h2)).symm .nil) (List.Sublist.refl _)
    · have p1 := of_decide_eq_false h1; refine TL.run 12 rfl ?_; refine TL.nil ?_; exact K.ag () trivial (.b (zan (zan h1)).symm .nil) (List.Sublist.refl _)
  · rintro _ _; refine T.ret ?_; obtain rfl := Option.some.inj hk; exact K.aj rfl rfl (fun w' hw => ⟨rfl, hw.isBelow⟩)
def zbZ (fuel : Nat)  : Option Bool :=
  (zbB (zaC 14 14 15) 3 0).bind fun r11 =>
  zaJ (fun (x_1 : Bool) =>
    (bif x_1 then
      some false
      else
      grd (0 ≤ 2 ∧ 2 ≤ ((zaC 15 14 15).length : Int)) <|
      (za8 (zaE) ((zaC 15 14 15).take 2)).bind fun r38 =>
      (za8 (zaE) [(GChoice.mk 3 16)]).bind fun r45 =>
      (za8 (zaE) [(GChoice.mk 4 15)]).bind fun r52 =>
      (bif ((((((((decide (¬ r38.2 = 0)) || (decide (¬ r45.2 = 0))) || (decide (¬ r52.2 = 0))) || (decide (¬ r38.1.Kind = 0))) || (decide (¬ r45.1.Kind = 1))) || (decide (¬ r45.1.At = 2))) || (decide (¬ r52.1.Kind = 2))) || (decide (¬ r52.1.At = 0))) then
        some false
        else
        (zb3 (zaE) 2).bind fun r92 =>
        (zcg (zaE) [1, 3]).bind fun r98 =>
        (zcp fuel (GProblem.mk [(GDomain.mk 0 [2, 3])] (GRules.mk [] [] []))).bind fun r106 =>
        some (((((((((decide (r92.2 = 0)) && (decide (r98.2 = 0))) && (decide (r106.2 = 0))) && (zbP r92.1 [1, 3])) && (decide ((r98.1.Domains.length : Int) = 2))) && (decide ((r98.1.Rules.Pairs.length : Int) = 0))) && (decide ((r98.1.Rules.Loads.length : Int) = 0))) && (decide ((r98.1.Rules.Caps.length : Int) = 1))) && ((u8s r106.1) == ([1, 0, 3, 0, 0, 0] : List UInt8))))))
  (fun k2 =>
    (bif !r11 then
      k2 true
      else
      (zbB (zaC 14 15 15) 3 1).bind fun r15 =>
      (bif !r15 then
        k2 true
        else
        (zbB (zaC 15 14 15) 0 0).bind fun r20 =>
        (bif !r20 then
          k2 true
          else
          (zbB (zaC 16 15 15) 4 0).bind fun r25 =>
          (bif !r25 then
            k2 true
            else
            grd (0 ≤ 2 ∧ 2 ≤ ((zaC 15 14 15).length : Int)) <|
            (zbB ((zaC 15 14 15).take 2) 1 2).bind fun r31 =>
            k2 (!r31))))))
theorem zcI (F0 : Frz) (w : World) (hF0 : F0.At w)  (fuel : Nat) (r : Bool) (hr : zbZ fuel = some r) : Calls Tryz.prog 10 #[] w fun e w' => e = .returned (.bool r) ∧ Below w.heap.size w w' := by
  have hk := hr; unfold zbZ at hk; obtain ⟨S0, F1, rfl, hS0, hp0⟩ := zaj hF0; refine zal Tryz.func10 rfl rfl rfl hp0 ?_; refine T.sr ?_; refine TL.run 1 rfl ?_; refine TL.ns (T.seq (T.seq ?_)); have hq := zag hk; clear hk; obtain ⟨r11, hr11, hk⟩ := hq; (try dsimp only at hk); have hq := zae hk; clear hk; obtain ⟨k2, hk2, hk⟩ := hq; (try dsimp only at hk); refine T.ai (ι := Bool × FzB w (fun _ => False) S0) (fun z => [(33, .bool z.1)]) (fun z => [.fr z.2]) (fun z => k2 z.1 = some r ∧ F1.toFrz.Le z.2.toFrz) ?_ ?_
  · refine T.region ?_; refine TL.e (Ew.ax 0 rfl rfl rfl rfl (fun w hw hF => zb0 _ w hF 14 14 15)) ?_; rintro _ _ ⟨v10_0_0, F3, le1_3, hf10_0_0, hq, rfl⟩; obtain rfl := hq.symm; haveI := hf10_0_0.oneC; refine TL.e (Ew.ae rfl rfl rfl (fun w hw => zb6 _ w (hw.fr (i := 0) rfl) (zaC 14 14 15) v10_0_0 hf10_0_0 3 0 r11 hr11)) ?_; rintro _ _ ⟨rfl, rfl⟩; refine TL.run 2 rfl ?_; refine TL.gs rfl rfl rfl (fun h3 => ?_) (fun h3 => ?_)
    · replace hk := zac hk h3; refine TL.run 20 rfl ?_; refine TL.nil ?_; exact K.ag (true, F3) ⟨hk, le1_3⟩ (.c .nil) (List.Sublist.refl _)
    · replace hk := zab hk h3; refine TL.e (Ew.ax 0 rfl rfl rfl rfl (fun w hw hF => zb0 _ w hF 14 15 15)) ?_; rintro _ _ ⟨v14_0_0, F4, le3_4, hf14_0_0, hq, rfl⟩; obtain rfl := hq.symm; have le1_4 := le1_3.trans le3_4; haveI := hf14_0_0.oneC; have hq := zag hk; clear hk; obtain ⟨r15, hr15, hk⟩ := hq; refine TL.e (Ew.ae rfl rfl rfl (fun w hw => zb6 _ w (hw.fr (i := 0) rfl) (zaC 14 15 15) v14_0_0 hf14_0_0 3 1 r15 hr15)) ?_; rintro _ _ ⟨rfl, rfl⟩; refine TL.run 3 rfl ?_; refine TL.gs rfl rfl rfl (fun h4 => ?_) (fun h4 => ?_)
      · replace hk := zac hk h4; refine TL.run 15 rfl ?_; refine TL.nil ?_; exact K.ag (true, F4) ⟨hk, le1_4⟩ (.c .nil) (List.Sublist.refl _)
      · replace hk := zab hk h4; refine TL.e (Ew.ax 0 rfl rfl rfl rfl (fun w hw hF => zb0 _ w hF 15 14 15)) ?_; rintro _ _ ⟨v19_0_0, F5, le4_5, hf19_0_0, hq, rfl⟩; obtain rfl := hq.symm; have le1_5 := le1_4.trans le4_5; haveI := hf19_0_0.oneC; have hq := zag hk; clear hk; obtain ⟨r20, hr20, hk⟩ := hq; refine TL.e (Ew.ae rfl rfl rfl (fun w hw => zb6 _ w (hw.fr (i := 0) rfl) (zaC 15 14 15) v19_0_0 hf19_0_0 0 0 r20 hr20)) ?_; rintro _ _ ⟨rfl, rfl⟩; refine TL.run 3 rfl ?_; refine TL.gs rfl rfl rfl (fun h5 => ?_) (fun h5 => ?_)
        · replace hk := zac hk h5; refine TL.run 10 rfl ?_; refine TL.nil ?_; exact K.ag (true, F5) ⟨hk, le1_5⟩ (.c .nil) (List.Sublist.refl _)
        · replace hk := zab hk h5; refine TL.e (Ew.ax 0 rfl rfl rfl rfl (fun w hw hF => zb0 _ w hF 16 15 15)) ?_; rintro _ _ ⟨v24_0_0, F6, le5_6, hf24_0_0, hq, rfl⟩; obtain rfl := hq.symm; have le1_6 := le1_5.trans le5_6; haveI := hf24_0_0.oneC; have hq := zag hk; clear hk; obtain ⟨r25, hr25, hk⟩ := hq; refine TL.e (Ew.ae rfl rfl rfl (fun w hw => zb6 _ w (hw.fr (i := 0) rfl) (zaC 16 15 15) v24_0_0 hf24_0_0 4 0 r25 hr25)) ?_; rintro _ _ ⟨rfl, rfl⟩; refine TL.run 3 rfl ?_; refine TL.gs rfl rfl rfl (fun h6 => ?_) (fun h6 => ?_)
          · replace hk := zac hk h6; refine TL.run 5 rfl ?_; refine TL.nil ?_; exact K.ag (true, F6) ⟨hk, le1_6⟩ (.c .nil) (List.Sublist.refl _)
          · replace hk := zab hk h6; refine TL.e (Ew.ax 0 rfl rfl rfl rfl (fun w hw hF => zb0 _ w hF 15 14 15)) ?_; rintro _ _ ⟨v29_0_0, F7, le6_7, hf29_0_0, hq, rfl⟩; obtain rfl := hq.symm; have le1_7 := le1_6.trans le6_7; haveI := hf29_0_0.oneC; have hq : (0 ≤ 2 ∧ 2 ≤ ((zaC 15 14 15).length : Int)) ∧ _ := zaG hk; clear hk; obtain ⟨g30h, hk⟩ := hq; refine TL.y (Yv.bt (i := 2) rfl rfl rfl hf29_0_0 (List.length_map _) (show (2 : Int) = ((2 : Nat) : Int) from rfl) (by omega)) ?_; have hs30_ : SlC F7.toFrz (zdi v29_0_0 0 2 2) 2 (((zaC 15 14 15).take 2).map GChoice.enc) := hf29_0_0.sliceh (i := 2) (by omega); haveI := hs30_.oneC; have hq := zag hk; clear hk; obtain ⟨r31, hr31, hk⟩ := hq; refine TL.e (Ew.ae rfl rfl rfl (fun w hw => zb6 _ w (hw.fr (i := 0) rfl) ((zaC 15 14 15).take 2) (zdi v29_0_0 0 2 2) hs30_ 1 2 r31 hr31)) ?_; rintro _ _ ⟨rfl, rfl⟩; refine TL.run 2 rfl ?_; refine TL.nil ?_; exact K.ag (!r31, F7) ⟨hk, le1_7⟩ (.c .nil) (List.Sublist.refl _)
  · rintro ⟨x_1, F2⟩ ⟨hk, le1_2⟩; (try dsimp only at *); rw [← hk2] at hk; (try dsimp only at hk); refine T.cond rfl (fun h7 => ?_) (fun h7 => ?_)
    · replace hk := zac hk h7; refine T.sr ?_; refine TL.run 1 rfl ?_; refine TL.ns (T.ret (K.a ?_)); obtain rfl := Option.some.inj hk; exact K.aj rfl rfl (fun w' hw => ⟨rfl, hw.isBelow⟩)
    · replace hk := zab hk h7; refine T.skip (K.seq (T.seq ?_)); have hq : (0 ≤ 2 ∧ 2 ≤ ((zaC 15 14 15).length : Int)) ∧ _ := zaG hk; clear hk; obtain ⟨g37h, hk⟩ := hq; have hq := zag hk; clear hk; obtain ⟨r38, hr38, hk⟩ := hq; (try dsimp only at hk); refine T.region ?_; refine TL.e (Ew.ax 0 rfl rfl rfl rfl (fun w hw hF => zbT _ w hF )) ?_; rintro _ _ ⟨⟨v35_0_0, cs35_0_0, v35_0_1, v35_0_2, v35_0_3⟩, F8, le2_8, ⟨hf35_0_0, hf35_0_1, hf35_0_2, hf35_0_3⟩, rfl, rfl⟩; dsimp only at hf35_0_0 hf35_0_1 hf35_0_2 hf35_0_3 ⊢; haveI := hf35_0_0.1.oneC; haveI := hf35_0_1.oneC; haveI := hf35_0_2.oneC; haveI := hf35_0_3.oneC; refine TL.e (Ew.ax 0 rfl rfl rfl rfl (fun w hw hF => zb0 _ w hF 15 14 15)) ?_; rintro _ _ ⟨v36_0_0, F9, le8_9, hf36_0_0, hq, rfl⟩; obtain rfl := hq.symm; haveI := hf36_0_0.oneC; refine TL.y (Yv.bt (i := 2) rfl rfl rfl hf36_0_0 (List.length_map _) (show (2 : Int) = ((2 : Nat) : Int) from rfl) (by omega)) ?_; have hs37_ : SlC F9.toFrz (zdi v36_0_0 0 2 2) 2 (((zaC 15 14 15).take 2).map GChoice.enc) := hf36_0_0.sliceh (i := 2) (by omega); haveI := hs37_.oneC; refine TL.e (Ew.ae rfl rfl rfl (fun w hw => zbY _ w (hw.fr (i := 0) rfl) (zaE) v35_0_0 cs35_0_0 (SlD.mono (rep := GDomain.rep) (fun _ _ _ _ => GDomain.mono) hf35_0_0 le8_9) v35_0_1 (SlC.mono hf35_0_1 le8_9) v35_0_2 (SlC.mono hf35_0_2 le8_9) v35_0_3 (SlC.mono hf35_0_3 le8_9) ((zaC 15 14 15).take 2) (zdi v36_0_0 0 2 2) hs37_ r38 hr38)) ?_; rintro _ _ ⟨rfl, rfl⟩; refine TL.run 3 rfl ?_; refine TL.e (Ew.alloc rfl) ?_; rintro _ _ ⟨g1, rfl, rfl⟩; refine TL.e0 (Ew.ah 0 rfl rfl rfl rfl rfl rfl) ?_; rintro _ _ ⟨rfl, rfl⟩; refine TL.run 1 rfl ?_; refine TL.ns (T.seq ?_); have hq := zag hk; clear hk; obtain ⟨r45, hr45, hk⟩ := hq; (try dsimp only at hk); refine T.region ?_; refine TL.e (Ew.ax 1 rfl rfl rfl rfl (fun w hw hF => zbT _ w hF )) ?_; rintro _ _ ⟨⟨v42_0_0, cs42_0_0, v42_0_1, v42_0_2, v42_0_3⟩, F10, le9_10, ⟨hf42_0_0, hf42_0_1, hf42_0_2, hf42_0_3⟩, rfl, rfl⟩; dsimp only at hf42_0_0 hf42_0_1 hf42_0_2 hf42_0_3 ⊢; haveI := hf42_0_0.1.oneC; haveI := hf42_0_1.oneC; haveI := hf42_0_2.oneC; haveI := hf42_0_3.oneC; refine TL.y (Yv.build rfl rfl) ?_; refine TL.e (Ew.buildSlice rfl rfl rfl (by decide)) ?_; rintro _ _ ⟨g44, rfl, rfl⟩; refine TL.ay (fun w hw => hw.freezeR (i := 2) (j := 0) (by decide) rfl rfl) ?_; rintro F11 ⟨le10_11, hz11⟩; dsimp only [List.set, List.eraseIdx]; have hf11 : SlC F11.toFrz (.slice (some ⟨g44, 0, none⟩) 1 1) 2 ([(GChoice.mk 3 16)].map GChoice.enc) := (SlK.lit hz11 rfl (Nat.le_refl _) (by decide)).toF (xs := [(GChoice.mk 3 16)]) rfl GChoice.len; refine TL.e (Ew.ae rfl rfl rfl (fun w hw => zbY _ w (hw.fr (i := 1) rfl) (zaE) v42_0_0 cs42_0_0 (SlD.mono (rep := GDomain.rep) (fun _ _ _ _ => GDomain.mono) hf42_0_0 le10_11) v42_0_1 (SlC.mono hf42_0_1 le10_11) v42_0_2 (SlC.mono hf42_0_2 le10_11) v42_0_3 (SlC.mono hf42_0_3 le10_11) [(GChoice.mk 3 16)] (.slice (some ⟨g44, 0, none⟩) 1 1) hf11 r45 hr45)) ?_; rintro _ _ ⟨rfl, rfl⟩; refine TL.run 3 rfl ?_; refine TL.e (Ew.alloc rfl) ?_; rintro _ _ ⟨g3, rfl, rfl⟩; refine TL.e0 (Ew.ah 0 rfl rfl rfl rfl rfl rfl) ?_; rintro _ _ ⟨rfl, rfl⟩; refine TL.run 1 rfl ?_; refine TL.ns (T.seq ?_); have hq := zag hk; clear hk; obtain ⟨r52, hr52, hk⟩ := hq; (try dsimp only at hk); refine T.region ?_; refine TL.e (Ew.ax 2 rfl rfl rfl rfl (fun w hw hF => zbT _ w hF )) ?_; rintro _ _ ⟨⟨v49_0_0, cs49_0_0, v49_0_1, v49_0_2, v49_0_3⟩, F12, le11_12, ⟨hf49_0_0, hf49_0_1, hf49_0_2, hf49_0_3⟩, rfl, rfl⟩; dsimp only at hf49_0_0 hf49_0_1 hf49_0_2 hf49_0_3 ⊢; haveI := hf49_0_0.1.oneC; haveI := hf49_0_1.oneC; haveI := hf49_0_2.oneC; haveI := hf49_0_3.oneC; refine TL.y (Yv.build rfl rfl) ?_; refine TL.e (Ew.buildSlice rfl rfl rfl (by decide)) ?_; rintro _ _ ⟨g51, rfl, rfl⟩; refine TL.ay (fun w hw => hw.freezeR (i := 3) (j := 0) (by decide) rfl rfl) ?_
      rintro F13 ⟨le12_13, hz13⟩; dsimp only [List.set, List.eraseIdx]; have hf13 : SlC F13.toFrz (.slice (some ⟨g51, 0, none⟩) 1 1) 2 ([(GChoice.mk 4 15)].map GChoice.enc) := (SlK.lit hz13 rfl (Nat.le_refl _) (by decide)).toF (xs := [(GChoice.mk 4 15)]) rfl GChoice.len; refine TL.e (Ew.ae rfl rfl rfl (fun w hw => zbY _ w (hw.fr (i := 2) rfl) (zaE) v49_0_0 cs49_0_0 (SlD.mono (rep := GDomain.rep) (fun _ _ _ _ => GDomain.mono) hf49_0_0 le12_13) v49_0_1 (SlC.mono hf49_0_1 le12_13) v49_0_2 (SlC.mono hf49_0_2 le12_13) v49_0_3 (SlC.mono hf49_0_3 le12_13) [(GChoice.mk 4 15)] (.slice (some ⟨g51, 0, none⟩) 1 1) hf13 r52 hr52)) ?_; rintro _ _ ⟨rfl, rfl⟩; refine TL.run 3 rfl ?_; refine TL.e (Ew.alloc rfl) ?_; rintro _ _ ⟨g5, rfl, rfl⟩; refine TL.e0 (Ew.ah 0 rfl rfl rfl rfl rfl rfl) ?_; rintro _ _ ⟨rfl, rfl⟩; refine TL.run 1 rfl ?_; refine TL.ns (T.seq (T.seq ?_)); refine T.ai (ι := Unit) (fun z => [(89, .bool ((((((((decide (¬ r38.2 = 0)) || (decide (¬ r45.2 = 0))) || (decide (¬ r52.2 = 0))) || (decide (¬ r38.1.Kind = 0))) || (decide (¬ r45.1.Kind = 1))) || (decide (¬ r45.1.At = 2))) || (decide (¬ r52.1.Kind = 2))) || (decide (¬ r52.1.At = 0))))]) (fun z => [.row g5 35 [.int .i64 r52.1.Kind, .int .i64 r52.1.At], .row g3 35 [.int .i64 r45.1.Kind, .int .i64 r45.1.At], .row g1 35 [.int .i64 r38.1.Kind, .int .i64 r38.1.At], .fr F13]) (fun z => True) ?_ ?_
      · refine T.region ?_; refine TL.run 3 rfl ?_; refine TL.gs rfl rfl rfl (fun h8 => ?_) (fun h8 => ?_)
        · have p8 := of_decide_eq_true h8; refine TL.run 32 rfl ?_; refine TL.nil ?_; exact K.ag () trivial (.b (zbk (zbk (zbk (zbk (zbk (zbk (zbk h8))))))).symm .nil) (List.Sublist.refl _)
        · have p8 := of_decide_eq_false h8; refine TL.run 4 rfl ?_; refine TL.gs rfl rfl rfl (fun h9 => ?_) (fun h9 => ?_)
          · have p9 := of_decide_eq_true h9; refine TL.run 28 rfl ?_; refine TL.nil ?_; exact K.ag () trivial (.b (zbk (zbk (zbk (zbk (zbk (zbk (zbs h8 h9))))))).symm .nil) (List.Sublist.refl _)
          · have p9 := of_decide_eq_false h9; refine TL.run 4 rfl ?_; refine TL.gs rfl rfl rfl (fun h10 => ?_) (fun h10 => ?_)
            · have p10 := of_decide_eq_true h10; refine TL.run 24 rfl ?_; refine TL.nil ?_; exact K.ag () trivial (.b (zbk (zbk (zbk (zbk (zbk (zbs (zbs h8 h9) h10)))))).symm .nil) (List.Sublist.refl _)
            · have p10 := of_decide_eq_false h10; refine TL.y (Yv.fieldAddr rfl rfl) ?_; refine TL.y (Yv.aa 2 rfl rfl rfl rfl) ?_; refine TL.run 3 rfl ?_; refine TL.gs rfl rfl rfl (fun h11 => ?_) (fun h11 => ?_)
              · have p11 := of_decide_eq_true h11; refine TL.run 19 rfl ?_; refine TL.nil ?_; exact K.ag () trivial (.b (zbk (zbk (zbk (zbk (zbs (zbs (zbs h8 h9) h10) h11))))).symm .nil) (List.Sublist.refl _)
              · have p11 := of_decide_eq_false h11; refine TL.y (Yv.fieldAddr rfl rfl) ?_; refine TL.y (Yv.aa 1 rfl rfl rfl rfl) ?_; refine TL.run 3 rfl ?_; refine TL.gs rfl rfl rfl (fun h12 => ?_) (fun h12 => ?_)
                · have p12 := of_decide_eq_true h12; refine TL.run 14 rfl ?_; refine TL.nil ?_; exact K.ag () trivial (.b (zbk (zbk (zbk (zbs (zbs (zbs (zbs h8 h9) h10) h11) h12)))).symm .nil) (List.Sublist.refl _)
                · have p12 := of_decide_eq_false h12; refine TL.y (Yv.fieldAddr rfl rfl) ?_; refine TL.y (Yv.aa 1 rfl rfl rfl rfl) ?_; refine TL.run 3 rfl ?_; refine TL.gs rfl rfl rfl (fun h13 => ?_) (fun h13 => ?_)
                  · have p13 := of_decide_eq_true h13; refine TL.run 9 rfl ?_; refine TL.nil ?_; exact K.ag () trivial (.b (zbk (zbk (zbs (zbs (zbs (zbs (zbs h8 h9) h10) h11) h12) h13))).symm .nil) (List.Sublist.refl _)
                  · have p13 := of_decide_eq_false h13; refine TL.y (Yv.fieldAddr rfl rfl) ?_; refine TL.y (Yv.aa 0 rfl rfl rfl rfl) ?_; refine TL.run 3 rfl ?_; refine TL.gs rfl rfl rfl (fun h14 => ?_) (fun h14 => ?_)
                    · have p14 := of_decide_eq_true h14; refine TL.run 4 rfl ?_; refine TL.nil ?_; exact K.ag () trivial (.b (zbk (zbs (zbs (zbs (zbs (zbs (zbs h8 h9) h10) h11) h12) h13) h14)).symm .nil) (List.Sublist.refl _)
                    · have p14 := of_decide_eq_false h14; refine TL.y (Yv.fieldAddr rfl rfl) ?_; refine TL.y (Yv.aa 0 rfl rfl rfl rfl) ?_; refine TL.run 2 rfl ?_; refine TL.nil ?_; exact K.ag () trivial (.b (or_f (zbs (zbs (zbs (zbs (zbs (zbs h8 h9) h10) h11) h12) h13) h14)) .nil) (List.Sublist.refl _)
      · rintro _ _; refine T.cond rfl (fun h15 => ?_) (fun h15 => ?_)
        · replace hk := zac hk h15; refine T.sr ?_; refine TL.run 1 rfl ?_; refine TL.ns (T.ret (K.a ?_)); obtain rfl := Option.some.inj hk; exact K.aj rfl rfl (fun w' hw => ⟨rfl, hw.isBelow⟩)
        · have p15 := h15; (try simp only [nfB] at p15); replace hk := zab hk h15; refine T.skip (K.seq (T.seq ?_)); have hq := zag hk; clear hk; obtain ⟨r92, hr92, hk⟩ := hq; (try dsimp only at hk); refine T.region ?_; refine TL.e (Ew.ax 3 rfl rfl rfl rfl (fun w hw hF => zbT _ w hF )) ?_; rintro _ _ ⟨⟨v91_0_0, cs91_0_0, v91_0_1, v91_0_2, v91_0_3⟩, F14, le13_14, ⟨hf91_0_0, hf91_0_1, hf91_0_2, hf91_0_3⟩, rfl, rfl⟩; dsimp only at hf91_0_0 hf91_0_1 hf91_0_2 hf91_0_3 ⊢; haveI := hf91_0_0.1.oneC; haveI := hf91_0_1.oneC; haveI := hf91_0_2.oneC; haveI := hf91_0_3.oneC; refine TL.e (Ew.ax 3 rfl rfl rfl rfl (fun w hw hF => zde _ w hF (zaE) v91_0_0 cs91_0_0 hf91_0_0 v91_0_1 hf91_0_1 v91_0_2 hf91_0_2 v91_0_3 hf91_0_3 2 r92 hr92)) ?_; rintro _ _ ⟨v92_0_0, F15, le14_15, hf92_0_0, rfl, rfl⟩; haveI := hf92_0_0.oneC; refine TL.run 5 rfl ?_; refine TL.ns (T.seq ?_); have hq := zag hk; clear hk; obtain ⟨r98, hr98, hk⟩ := hq; (try dsimp only at hk); refine T.region ?_; refine TL.e (Ew.ax 3 rfl rfl rfl rfl (fun w hw hF => zbT _ w hF )) ?_; rintro _ _ ⟨⟨v96_0_0, cs96_0_0, v96_0_1, v96_0_2, v96_0_3⟩, F16, le15_16, ⟨hf96_0_0, hf96_0_1, hf96_0_2, hf96_0_3⟩, rfl, rfl⟩; dsimp only at hf96_0_0 hf96_0_1 hf96_0_2 hf96_0_3 ⊢; haveI := hf96_0_0.1.oneC; haveI := hf96_0_1.oneC; haveI := hf96_0_2.oneC; haveI := hf96_0_3.oneC; refine TL.e (Ew.buildSlice rfl rfl rfl (by decide)) ?_; rintro _ _ ⟨g97, rfl, rfl⟩; refine TL.ay (fun w hw => hw.freezeR (i := 4) (j := 0) (by decide) rfl rfl) ?_; rintro F17 ⟨le16_17, hz17⟩; dsimp only [List.set, List.eraseIdx]; have le15_17 := le15_16.trans le16_17; have hf17 : SlC F17.toFrz (.slice (some ⟨g97, 0, none⟩) 2 2) 1 ([1, 3].map eI) := (SlK.lit hz17 rfl (Nat.le_refl _) (by decide)).toF (xs := [1, 3]) rfl (fun _ => rfl); refine TL.e (Ew.ax 3 rfl rfl rfl rfl (fun w hw hF => zdl _ w hF (zaE) v96_0_0 cs96_0_0 (SlD.mono (rep := GDomain.rep) (fun _ _ _ _ => GDomain.mono) hf96_0_0 le16_17) v96_0_1 (SlC.mono hf96_0_1 le16_17) v96_0_2 (SlC.mono hf96_0_2 le16_17) v96_0_3 (SlC.mono hf96_0_3 le16_17) [1, 3] (.slice (some ⟨g97, 0, none⟩) 2 2) hf17 r98 hr98)) ?_; rintro _ _ ⟨⟨v98_0_0, cs98_0_0, v98_0_1, v98_0_2, v98_0_3⟩, F18, le17_18, ⟨hf98_0_0, hf98_0_1, hf98_0_2, hf98_0_3⟩, rfl, rfl⟩; dsimp only at hf98_0_0 hf98_0_1 hf98_0_2 hf98_0_3 ⊢; have le15_18 := le15_17.trans le17_18; haveI := hf98_0_0.1.oneC; haveI := hf98_0_1.oneC; haveI := hf98_0_2.oneC; haveI := hf98_0_3.oneC; refine TL.run 3 rfl ?_; refine TL.e (Ew.alloc rfl) ?_; rintro _ _ ⟨g8, rfl, rfl⟩; refine TL.e0 (Ew.ah 0 rfl rfl rfl rfl rfl rfl) ?_; rintro _ _ ⟨rfl, rfl⟩; refine TL.run 1 rfl ?_; refine TL.ns (T.seq ?_); have hq := zag hk; clear hk; obtain ⟨r106, hr106, hk⟩ := hq; (try dsimp only at hk); refine T.region ?_; refine TL.e (Ew.buildSlice rfl rfl rfl (by decide)) ?_; rintro _ _ ⟨g102, rfl, rfl⟩; refine TL.ay (fun w hw => hw.freezeR (i := 5) (j := 0) (by decide) rfl rfl) ?_; rintro F19 ⟨le18_19, hz19⟩; dsimp only [List.set, List.eraseIdx]; have le15_19 := le15_18.trans le18_19; have hf19 : SlC F19.toFrz (.slice (some ⟨g102, 0, none⟩) 2 2) 1 ([2, 3].map eI) := (SlK.lit hz19 rfl (Nat.le_refl _) (by decide)).toF (xs := [2, 3]) rfl (fun _ => rfl); refine TL.y (Yv.build rfl rfl) ?_; refine TL.e (Ew.buildSlice rfl rfl rfl (by decide)) ?_; rintro _ _ ⟨g104, rfl, rfl⟩; have hl104 : OwnD GDomain.rep F19.toFrz 2 [[.int .i64 0, (.slice (some ⟨g102, 0, none⟩) 2 2)]] [(GDomain.mk 0 [2, 3])] := (OwnD.snoc (OwnD.nil _ _ 2) ⟨_, rfl, hf19⟩ rfl); refine TL.ay (fun w hw => hw.freezeR (i := 5) (j := 0) (by decide) rfl rfl) ?_; rintro F20 ⟨le19_20, hz20⟩; dsimp only [List.set, List.eraseIdx]; have le15_20 := le15_19.trans le19_20; have le18_20 := le18_19.trans le19_20; have hf20 : SlD GDomain.rep F20.toFrz (.slice (some ⟨g104, 0, none⟩) 1 1) 2 [[.int .i64 0, (.slice (some ⟨g102, 0, none⟩) 2 2)]] [(GDomain.mk 0 [2, 3])] := (SlK.lit hz20 rfl (Nat.le_refl _) (by decide)).toD (OwnD.mono (rep := GDomain.rep) (fun _ _ _ _ => GDomain.mono) hl104 le19_20) rfl; refine TL.y (Yv.build rfl rfl) ?_; refine TL.e (Ew.ax 4 rfl rfl rfl rfl (fun w hw hF => zdQ _ w hF (GProblem.mk [(GDomain.mk 0 [2, 3])] (GRules.mk [] [] [])) (.slice (some ⟨g104, 0, none⟩) 1 1) [[.int .i64 0, (.slice (some ⟨g102, 0, none⟩) 2 2)]] hf20 (.slice none 0 0) (SlC.nil _ 5) (.slice none 0 0) (SlC.nil _ 5) (.slice none 0 0) (SlC.nil _ 4) fuel r106 hr106)) ?_; rintro _ _ ⟨v106_0_0, F21, le20_21, hf106_0_0, rfl, rfl⟩; have le15_21 := le15_20.trans le20_21; have le18_21 := le18_20.trans le20_21; haveI := hf106_0_0.oneC; refine TL.run 5 rfl ?_; refine TL.ns (T.seq ?_); refine T.ai (ι := FzB w (fun _ => False) S0) (fun z => [(0, .bool (((((((((decide (r92.2 = 0)) && (decide (r98.2 = 0))) && (decide (r106.2 = 0))) && (zbP r92.1 [1, 3])) && (decide ((r98.1.Domains.length : Int) = 2))) && (decide ((r98.1.Rules.Pairs.length : Int) = 0))) && (decide ((r98.1.Rules.Loads.length : Int) = 0))) && (decide ((r98.1.Rules.Caps.length : Int) = 1))) && ((u8s r106.1) == ([1, 0, 3, 0, 0, 0] : List UInt8))))]) (fun z => [.row g8 29 [v98_0_0, v98_0_1, v98_0_2, v98_0_3], .row g5 35 [.int .i64 r52.1.Kind, .int .i64 r52.1.At], .row g3 35 [.int .i64 r45.1.Kind, .int .i64 r45.1.At], .row g1 35 [.int .i64 r38.1.Kind, .int .i64 r38.1.At], .fr z]) (fun z => F21.toFrz.Le z.toFrz) ?_ ?_
          · refine T.region ?_; refine TL.run 3 rfl ?_; refine TL.gs rfl rfl rfl (fun h16 => ?_) (fun h16 => ?_)
            · have p16 := of_decide_eq_true h16; refine TL.run 4 rfl ?_; refine TL.gs rfl rfl rfl (fun h17 => ?_) (fun h17 => ?_)
              · have p17 := of_decide_eq_true h17; refine TL.run 4 rfl ?_; refine TL.gs rfl rfl rfl (fun h18 => ?_) (fun h18 => ?_)
                · have p18 := of_decide_eq_true h18; refine TL.run 1 rfl ?_; refine TL.e (Ew.buildSlice rfl rfl rfl (by decide)) ?_; rintro _ _ ⟨g121, rfl, rfl⟩; refine TL.ay (fun w hw => hw.freezeR (i := 5) (j := 0) (by decide) rfl rfl) ?_; rintro F23 ⟨le21_23, hz23⟩; dsimp only [List.set, List.eraseIdx]; have le15_23 := le15_21.trans le21_23; have le18_23 := le18_21.trans le21_23; have hf23 : SlC F23.toFrz (.slice (some ⟨g121, 0, none⟩) 2 2) 1 ([1, 3].map eI) := (SlK.lit hz23 rfl (Nat.le_refl _) (by decide)).toF (xs := [1, 3]) rfl (fun _ => rfl); refine TL.e (Ew.ae rfl rfl rfl (fun w hw => zdT _ w (hw.fr (i := 4) rfl) r92.1 v92_0_0 (SlC.mono hf92_0_0 le15_23) [1, 3] (.slice (some ⟨g121, 0, none⟩) 2 2) hf23)) ?_; rintro _ _ ⟨rfl, rfl⟩; refine TL.run 2 rfl ?_; refine TL.gs rfl rfl rfl (fun h19 => ?_) (fun h19 => ?_)
                  · refine TL.y (Yv.fieldAddr rfl rfl) ?_; refine TL.y (Yv.aa 0 rfl rfl rfl rfl) ?_; refine TL.y (Yv.al rfl rfl (SlD.mono (rep := GDomain.rep) (fun _ _ _ _ => GDomain.mono) hf98_0_0 le18_23).1 (SlD.mono (rep := GDomain.rep) (fun _ _ _ _ => GDomain.mono) hf98_0_0 le18_23).2.1) ?_; have hm127 : r98.1.Domains.length ≤ 9223372036854775807 := (SlD.mono (rep := GDomain.rep) (fun _ _ _ _ => GDomain.mono) hf98_0_0 le18_23).2.1 ▸ (SlD.mono (rep := GDomain.rep) (fun _ _ _ _ => GDomain.mono) hf98_0_0 le18_23).1.max; refine TL.run 3 rfl ?_; refine TL.gs rfl rfl rfl (fun h20 => ?_) (fun h20 => ?_)
                    · have p20 := of_decide_eq_true h20; refine TL.y (Yv.fieldAddr rfl rfl) ?_; refine TL.y (Yv.fieldAddr rfl rfl) ?_; refine TL.y (Yv.aa 0 rfl rfl rfl rfl) ?_; refine TL.y (Yv.al rfl rfl (SlC.mono hf98_0_1 le18_23) (List.length_map _)) ?_; have hm134 : r98.1.Rules.Pairs.length ≤ 9223372036854775807 := (List.length_map _) ▸ (SlC.mono hf98_0_1 le18_23).max; refine TL.run 3 rfl ?_; refine TL.gs rfl rfl rfl (fun h21 => ?_) (fun h21 => ?_)
                      · have p21 := of_decide_eq_true h21; refine TL.y (Yv.fieldAddr rfl rfl) ?_; refine TL.y (Yv.fieldAddr rfl rfl) ?_; refine TL.y (Yv.aa 0 rfl rfl rfl rfl) ?_; refine TL.y (Yv.al rfl rfl (SlC.mono hf98_0_2 le18_23) (List.length_map _)) ?_; have hm141 : r98.1.Rules.Loads.length ≤ 9223372036854775807 := (List.length_map _) ▸ (SlC.mono hf98_0_2 le18_23).max; refine TL.run 3 rfl ?_; refine TL.gs rfl rfl rfl (fun h22 => ?_) (fun h22 => ?_)
                        · have p22 := of_decide_eq_true h22; refine TL.y (Yv.fieldAddr rfl rfl) ?_; refine TL.y (Yv.fieldAddr rfl rfl) ?_; refine TL.y (Yv.aa 0 rfl rfl rfl rfl) ?_; refine TL.y (Yv.al rfl rfl (SlC.mono hf98_0_3 le18_23) (List.length_map _)) ?_; have hm148 : r98.1.Rules.Caps.length ≤ 9223372036854775807 := (List.length_map _) ▸ (SlC.mono hf98_0_3 le18_23).max; refine TL.run 3 rfl ?_; refine TL.gs rfl rfl rfl (fun h23 => ?_) (fun h23 => ?_)
                          · have p23 := of_decide_eq_true h23; refine TL.run 1 rfl ?_; refine TL.y (Yv.bM 4 (e := 5) (by kernel_rfl) (by kernel_rfl) (by kernel_rfl) rfl rfl rfl (SlC.mono hf106_0_0 le21_23)) ?_; refine TL.y (Yv.bD (a := (u8s r106.1)) (b := ([1, 0, 3, 0, 0, 0] : List UInt8)) rfl rfl rfl) ?_; refine TL.run 2 rfl ?_; refine TL.nil ?_; exact K.ag F23 le21_23 (.b (zct (zar (zar (zar (zar (zar (zar (zar h16 h17) h18) h19) h20) h21) h22) h23)) .nil) (List.Sublist.refl _)
                          · have p23 := of_decide_eq_false h23; refine TL.run 5 rfl ?_; refine TL.nil ?_; exact K.ag F23 le21_23 (.b (zan (zar (zar (zar (zar (zar (zar (zar h16 h17) h18) h19) h20) h21) h22) h23)).symm .nil) (List.Sublist.refl _)
                        · have p22 := of_decide_eq_false h22; refine TL.run 12 rfl ?_; refine TL.nil ?_; exact K.ag F23 le21_23 (.b (zan (zan (zar (zar (zar (zar (zar (zar h16 h17) h18) h19) h20) h21) h22))).symm .nil) (List.Sublist.refl _)
                      · have p21 := of_decide_eq_false h21; refine TL.run 19 rfl ?_; refine TL.nil ?_; exact K.ag F23 le21_23 (.b (zan (zan (zan (zar (zar (zar (zar (zar h16 h17) h18) h19) h20) h21)))).symm .nil) (List.Sublist.refl _)
                    · have p20 := of_decide_eq_false h20; refine TL.run 26 rfl ?_; refine TL.nil ?_; exact K.ag F23 le21_23 (.b (zan (zan (zan (zan (zar (zar (zar (zar h16 h17) h18) h19) h20))))).symm .nil) (List.Sublist.refl _)
                  · refine TL.run 32 rfl ?_; refine TL.nil ?_; exact K.ag F23 le21_23 (.b (zan (zan (zan (zan (zan (zar (zar (zar h16 h17) h18) h19)))))).symm .nil) (List.Sublist.refl _)
                · have p18 := of_decide_eq_false h18; refine TL.run 37 rfl ?_; refine TL.nil ?_; exact K.ag F21 (Frz.Le.refl _) (.b (zan (zan (zan (zan (zan (zan (zar (zar h16 h17) h18))))))).symm .nil) (List.Sublist.refl _)
              · have p17 := of_decide_eq_false h17; refine TL.run 41 rfl ?_; refine TL.nil ?_; exact K.ag F21 (Frz.Le.refl _) (.b (zan (zan (zan (zan (zan (zan (zan (zar h16 h17)))))))).symm .nil) (List.Sublist.refl _)
            · have p16 := of_decide_eq_false h16; refine TL.run 45 rfl ?_; refine TL.nil ?_; exact K.ag F21 (Frz.Le.refl _) (.b (zan (zan (zan (zan (zan (zan (zan (zan h16)))))))).symm .nil) (List.Sublist.refl _)
          · rintro F22 le21_22; (try dsimp only at *); refine T.ret ?_; obtain rfl := Option.some.inj hk; exact K.aj rfl rfl (fun w' hw => ⟨rfl, hw.isBelow⟩)
def zby (fuel : Nat) (p : GProblem) (l : List GChoice) : Option Bool :=
  zaJ (fun (x_1 : Bool) =>
    (bif x_1 then
      (zbZ fuel).bind fun r18 =>
      some r18
      else
      grd (room ([] ++ l).length 16) <|
      (zbH p ([] ++ l)).bind fun r24 =>
      (za8 p ([] ++ l)).bind fun r30 =>
      (bif !(zbQ ([] ++ l) l) then
        some false
        else
        (zce p).bind fun r38 =>
        (bif ((!r38) || (!(zbu l))) then
          zaJ (fun (x_8 : Bool) =>
            some x_8)
          (fun k9 =>
            (bif (decide (r24.1.Kind = 0) && decide (r24.1.At = 0)) then
              (bif (decide (r30.1.Kind = 0) && decide (r30.1.At = 0)) then
                (bif decide (r24.2 = 2) then
                  (bif decide (r30.2 = 2) then
                    (zbZ fuel).bind fun r62 =>
                    k9 r62
                    else
                    k9 false)
                  else
                  k9 false)
                else
                k9 false)
              else
              k9 false))
          else
          zaJ (fun (x_14 : Bool) =>
            some x_14)
          (fun k15 =>
            (bif decide (r24.2 = 0) then
              (bif decide (r30.2 = 0) then
                (bif (decide (r24.1.Kind = (za5 p l true).Kind) && decide (r24.1.At = (za5 p l true).At)) then
                  (bif (decide (r30.1.Kind = (za5 p l false).Kind) && decide (r30.1.At = (za5 p l false).At)) then
                    (zbZ fuel).bind fun r85 =>
                    k15 r85
                    else
                    k15 false)
                  else
                  k15 false)
                else
                k15 false)
              else
              k15 false))))))
  (fun k2 =>
    (bif decide (70 < (l.length : Int)) then
      k2 true
      else
      (zcd fuel p 60 60).bind fun r15 =>
      k2 (!r15)))
theorem zc9 (F0 : Frz) (w : World) (hF0 : F0.At w) (p : GProblem) (vp_0 : Value) (cp_0 : List (List Value)) (hp_0 : SlD GDomain.rep F0 vp_0 2 cp_0 p.Domains) (vp_1 : Value) (hp_1 : SlC F0 vp_1 5 (p.Rules.Pairs.map GPair.enc)) (vp_2 : Value) (hp_2 : SlC F0 vp_2 5 (p.Rules.Loads.map GLoad.enc)) (vp_3 : Value) (hp_3 : SlC F0 vp_3 4 (p.Rules.Caps.map GCap.enc)) (l : List GChoice) (vl : Value) (hl : SlC F0 vl 2 (l.map GChoice.enc)) (fuel : Nat) (r : Bool) (hr : zby fuel p l = some r) : Calls Tryz.prog 3 #[.agg [vp_0, vp_1, vp_2, vp_3].toArray, vl] w fun e w' => e = .returned (.bool r) ∧ Below w.heap.size w w' := by
  have hk := hr; unfold zby at hk; haveI := hp_0.1.oneC; haveI := hp_1.oneC; haveI := hp_2.oneC; haveI := hp_3.oneC; haveI := hl.oneC; obtain ⟨S0, F1, rfl, hS0, hp0⟩ := zaj hF0; refine zal Tryz.func3 rfl rfl rfl hp0 ?_; refine T.sr ?_; refine TL.e (Ew.au rfl rfl) ?_; rintro _ _ ⟨g2, rfl, rfl⟩; refine TL.run 1 rfl ?_; refine TL.ns (T.seq (T.seq ?_)); (try dsimp only at hk); have hq := zae hk; clear hk; obtain ⟨k2, hk2, hk⟩ := hq; (try dsimp only at hk); refine T.ai (ι := Bool) (fun z => [(1, vl), (2, .pointer (some ⟨g2, 0, none⟩)), (17, .bool z)]) (fun z => [.row g2 29 [vp_0, vp_1, vp_2, vp_3], .fr F1]) (fun z => k2 z = some r) ?_ ?_
  · refine T.region ?_; refine TL.run 1 rfl ?_; refine TL.y (Yv.al rfl rfl hl (List.length_map _)) ?_; have hm11 : l.length ≤ 9223372036854775807 := (List.length_map _) ▸ hl.max; refine TL.run 2 rfl ?_; refine TL.gs rfl rfl rfl (fun h3 => ?_) (fun h3 => ?_)
    · have p3 := of_decide_eq_true h3; replace hk := zac hk h3; refine TL.run 4 rfl ?_; refine TL.nil ?_; exact K.ag true hk (.c (.c (.c .nil))) (List.Sublist.refl _)
    · have p3 := of_decide_eq_false h3; replace hk := zab hk h3; refine TL.y (Yv.ak 0 rfl rfl rfl rfl) ?_; have hq := zag hk; clear hk; obtain ⟨r15, hr15, hk⟩ := hq; refine TL.e (Ew.ae rfl rfl rfl (fun w hw => zeB _ w (hw.fr (i := 1) rfl) p vp_0 cp_0 hp_0 vp_1 hp_1 vp_2 hp_2 vp_3 hp_3 60 60 fuel r15 hr15)) ?_; rintro _ _ ⟨rfl, rfl⟩; refine TL.run 2 rfl ?_; refine TL.nil ?_; exact K.ag (!r15) hk (.c (.c (.c .nil))) (List.Sublist.refl _)
  · rintro x_1 hk; rw [← hk2] at hk; (try dsimp only at hk); refine T.cond rfl (fun h4 => ?_) (fun h4 => ?_)
    · replace hk := zac hk h4; refine T.seq ?_; have hq := zag hk; clear hk; obtain ⟨r18, hr18, hk⟩ := hq; (try dsimp only at hk); refine T.region ?_; refine TL.e (Ew.ae rfl rfl rfl (fun w hw => zcI _ w (hw.fr (i := 1) rfl)  fuel r18 hr18)) ?_; rintro _ _ ⟨rfl, rfl⟩; refine TL.run 1 rfl ?_; refine TL.ns (T.ret (K.a ?_)); obtain rfl := Option.some.inj hk; exact K.aj rfl rfl (fun w' hw => ⟨rfl, hw.isBelow⟩)
    · replace hk := zab hk h4; refine T.skip (K.seq (T.seq ?_)); have hq : (room ([] ++ l).length 16) ∧ _ := zaG hk; clear hk; obtain ⟨g20, hk⟩ := hq; (try dsimp only at hk); refine T.region ?_; refine TL.run 1 rfl ?_; refine TL.slNil 79 2 ?_; refine TL.e (Ew.aV 0 2 (zfL (fun _ => inferInstance)) rfl rfl rfl rfl rfl hl (zge (xs := ([] : List GChoice))) (zfM (xs := ([] : List GChoice))) g20 (by decide)) ?_; rintro v20 _ ⟨hv20, rfl⟩; refine TL.run 1 rfl ?_; refine TL.ns (T.seq ?_); refine T.ay (fun w hw => hw.freezeS (i := 2) (j := 0) (by decide) rfl rfl) ?_; rintro F2 ⟨le1_2, hz2⟩; dsimp only [List.set, List.eraseIdx]; have hf2 := hz2.toF rfl GChoice.len; haveI := hf2.oneC; have hq := zag hk; clear hk; obtain ⟨r24, hr24, hk⟩ := hq; (try dsimp only at hk); refine T.region ?_; refine TL.y (Yv.ak 0 rfl rfl rfl rfl) ?_; refine TL.run 1 rfl ?_; refine TL.e (Ew.ae rfl rfl rfl (fun w hw => zc6 _ w (hw.fr (i := 1) rfl) p vp_0 cp_0 (SlD.mono (rep := GDomain.rep) (fun _ _ _ _ => GDomain.mono) hp_0 le1_2) vp_1 (SlC.mono hp_1 le1_2) vp_2 (SlC.mono hp_2 le1_2) vp_3 (SlC.mono hp_3 le1_2) ([] ++ l) v20 hf2 r24 hr24)) ?_; rintro _ _ ⟨rfl, rfl⟩; refine TL.run 3 rfl ?_; refine TL.e (Ew.alloc rfl) ?_; rintro _ _ ⟨g6, rfl, rfl⟩; refine TL.e0 (Ew.ah 0 rfl rfl rfl rfl rfl rfl) ?_; rintro _ _ ⟨rfl, rfl⟩; refine TL.run 1 rfl ?_; refine TL.ns (T.seq ?_); have hq := zag hk; clear hk; obtain ⟨r30, hr30, hk⟩ := hq; (try dsimp only at hk); refine T.region ?_; refine TL.y (Yv.ak 1 rfl rfl rfl rfl) ?_; refine TL.run 1 rfl ?_; refine TL.e (Ew.ae rfl rfl rfl (fun w hw => zbY _ w (hw.fr (i := 2) rfl) p vp_0 cp_0 (SlD.mono (rep := GDomain.rep) (fun _ _ _ _ => GDomain.mono) hp_0 le1_2) vp_1 (SlC.mono hp_1 le1_2) vp_2 (SlC.mono hp_2 le1_2) vp_3 (SlC.mono hp_3 le1_2) ([] ++ l) v20 hf2 r30 hr30)) ?_; rintro _ _ ⟨rfl, rfl⟩; refine TL.run 3 rfl ?_; refine TL.e (Ew.alloc rfl) ?_; rintro _ _ ⟨g8, rfl, rfl⟩; refine TL.e0 (Ew.ah 0 rfl rfl rfl rfl rfl rfl) ?_; rintro _ _ ⟨rfl, rfl⟩; refine TL.run 1 rfl ?_; refine TL.ns (T.seq (T.sr ?_)); refine TL.run 2 rfl ?_; refine TL.e (Ew.ae rfl rfl rfl (fun w hw => zdR _ w (hw.fr (i := 3) rfl) ([] ++ l) v20 hf2 l vl (SlC.mono hl le1_2))) ?_; rintro _ _ ⟨rfl, rfl⟩; refine TL.run 1 rfl ?_; refine TL.ns ?_; refine T.cond rfl (fun h5 => ?_) (fun h5 => ?_)
      · replace hk := zac hk h5; refine T.sr ?_; refine TL.run 1 rfl ?_; refine TL.ns (T.ret (K.a ?_)); obtain rfl := Option.some.inj hk; exact K.aj rfl rfl (fun w' hw => ⟨rfl, hw.isBelow⟩)
      · replace hk := zab hk h5; refine T.skip (K.seq (T.seq (T.seq ?_))); have hq := zag hk; clear hk; obtain ⟨r38, hr38, hk⟩ := hq; (try dsimp only at hk); refine T.ai (ι := Unit) (fun z => [(1, vl), (2, .pointer (some ⟨g2, 0, none⟩)), (6, .pointer (some ⟨g6, 0, none⟩)), (7, .int .i64 r24.2), (8, .pointer (some ⟨g8, 0, none⟩)), (9, .int .i64 r30.2), (44, .bool ((!r38) || (!(zbu l))))]) (fun z => [.row g8 35 [.int .i64 r30.1.Kind, .int .i64 r30.1.At], .row g6 35 [.int .i64 r24.1.Kind, .int .i64 r24.1.At], .row g2 29 [vp_0, vp_1, vp_2, vp_3], .fr F2]) (fun z => True) ?_ ?_
        · refine T.region ?_; refine TL.y (Yv.ak 2 rfl rfl rfl rfl) ?_; refine TL.e (Ew.ae rfl rfl rfl (fun w hw => zez _ w (hw.fr (i := 3) rfl) p vp_0 cp_0 (SlD.mono (rep := GDomain.rep) (fun _ _ _ _ => GDomain.mono) hp_0 le1_2) vp_1 (SlC.mono hp_1 le1_2) vp_2 (SlC.mono hp_2 le1_2) vp_3 (SlC.mono hp_3 le1_2) r38 hr38)) ?_; rintro _ _ ⟨rfl, rfl⟩; refine TL.run 2 rfl ?_; refine TL.gs rfl rfl rfl (fun h6 => ?_) (fun h6 => ?_)
          · refine TL.run 4 rfl ?_; refine TL.nil ?_; exact K.ag () trivial (.c (.c (.c (.c (.c (.c (.b (zbk h6).symm .nil))))))) (List.Sublist.refl _)
          · refine TL.run 1 rfl ?_; refine TL.e (Ew.ae rfl rfl rfl (fun w hw => zdB _ w (hw.fr (i := 3) rfl) l vl (SlC.mono hl le1_2))) ?_; rintro _ _ ⟨rfl, rfl⟩; refine TL.run 2 rfl ?_; refine TL.nil ?_; exact K.ag () trivial (.c (.c (.c (.c (.c (.c (.b (or_f h6) .nil))))))) (List.Sublist.refl _)
        · rintro _ _; refine T.cond rfl (fun h7 => ?_) (fun h7 => ?_)
          · replace hk := zac hk h7; refine T.seq ?_; (try dsimp only at hk); have hq := zae hk; clear hk; obtain ⟨k9, hk9, hk⟩ := hq; (try dsimp only at hk); refine T.ai (ι := Bool) (fun z => [(4, .bool z)]) (fun z => [.fr F2]) (fun z => k9 z = some r) ?_ ?_
            · refine T.region ?_; refine TL.y (Yv.ak 1 rfl rfl rfl rfl) ?_; refine TL.y (Yv.build rfl rfl) ?_; refine TL.y (Yv.bb (by kernel_rfl) rfl rfl rfl) ?_; refine TL.run 1 rfl ?_; refine TL.gs rfl rfl rfl (fun h10 => ?_) (fun h10 => ?_)
              · have p10 := h10; (try simp only [nfB] at p10); replace hk := zac hk h10; refine TL.y (Yv.ak 0 rfl rfl rfl rfl) ?_; refine TL.y (Yv.build rfl rfl) ?_; refine TL.y (Yv.bb (by kernel_rfl) rfl rfl rfl) ?_; refine TL.run 2 rfl ?_; refine TL.gs rfl rfl rfl (fun h11 => ?_) (fun h11 => ?_)
                · have p11 := h11; (try simp only [nfB] at p11); replace hk := zac hk h11; refine TL.run 4 rfl ?_; refine TL.gs rfl rfl rfl (fun h12 => ?_) (fun h12 => ?_)
                  · have p12 := of_decide_eq_true h12; replace hk := zac hk h12; refine TL.run 4 rfl ?_; refine TL.gs rfl rfl rfl (fun h13 => ?_) (fun h13 => ?_)
                    · have p13 := of_decide_eq_true h13; replace hk := zac hk h13; have hq := zag hk; clear hk; obtain ⟨r62, hr62, hk⟩ := hq; refine TL.e (Ew.ae rfl rfl rfl (fun w hw => zcI _ w (hw.fr (i := 3) rfl)  fuel r62 hr62)) ?_; rintro _ _ ⟨rfl, rfl⟩; refine TL.run 2 rfl ?_; refine TL.nil ?_; refine K.pick [3] rfl (by decide) ?_; exact K.ag r62 hk (.c .nil) (List.Sublist.refl _)
                    · have p13 := of_decide_eq_false h13; replace hk := zab hk h13; refine TL.run 3 rfl ?_; refine TL.nil ?_; refine K.pick [3] rfl (by decide) ?_; exact K.ag false hk (.c .nil) (List.Sublist.refl _)
                  · have p12 := of_decide_eq_false h12; replace hk := zab hk h12; refine TL.run 7 rfl ?_; refine TL.nil ?_; refine K.pick [3] rfl (by decide) ?_; exact K.ag false hk (.c .nil) (List.Sublist.refl _)
                · replace hk := zab hk h11; refine TL.run 11 rfl ?_; refine TL.nil ?_; refine K.pick [3] rfl (by decide) ?_; exact K.ag false hk (.c .nil) (List.Sublist.refl _)
              · replace hk := zab hk h10; refine TL.run 16 rfl ?_; refine TL.nil ?_; refine K.pick [3] rfl (by decide) ?_; exact K.ag false hk (.c .nil) (List.Sublist.refl _)
            · rintro x_8 hk; rw [← hk9] at hk; (try dsimp only at hk); refine T.ret (K.a ?_); obtain rfl := Option.some.inj hk; exact K.aj rfl rfl (fun w' hw => ⟨rfl, hw.isBelow⟩)
          · replace hk := zab hk h7; refine T.skip (K.seq (T.seq ?_)); (try dsimp only at hk); have hq := zae hk; clear hk; obtain ⟨k15, hk15, hk⟩ := hq; (try dsimp only at hk); refine T.ai (ι := Bool) (fun z => [(4, .bool z)]) (fun z => [.fr F2]) (fun z => k15 z = some r) ?_ ?_
            · refine T.av (.still 0 (.still 1 (.still 2 (.still 3 (.still 4 (.still 5 (.still 6 (.still 7 (.still 8 (.still 9 (.eff 10 (.still 11 (.still 12 (.still 13 (.still 14 (.still 15 (.still 16 (.eff 17 (.still 18 (.still 19 (.still 20 (.eff 21 (.still 22 (.still 23 .done)))))))))))))))))))))))) _ (by kernel_rfl) (List.Sublist.refl _) ?_; refine TS.run 3 rfl ?_; refine TS.gs rfl rfl rfl rfl (fun h16 => ?_) (fun h16 => ?_)
              · have p16 := of_decide_eq_true h16; replace hk := zac hk h16; refine TS.run 4 rfl ?_; refine TS.gs rfl rfl rfl rfl (fun h17 => ?_) (fun h17 => ?_)
                · have p17 := of_decide_eq_true h17; replace hk := zac hk h17; refine TS.y rfl (Yv.ak 1 rfl rfl rfl rfl) ?_; refine TS.y rfl (Yv.ak 2 rfl rfl rfl rfl) ?_; refine TS.run 1 rfl ?_; refine TS.eff ?_; refine TSo.as rfl (Wt.some rfl rfl rfl rfl) rfl rfl (Ew.ae rfl rfl rfl (fun w hw => zdo _ w (hw.fr (i := 3) rfl) p vp_0 cp_0 (SlD.mono (rep := GDomain.rep) (fun _ _ _ _ => GDomain.mono) hp_0 le1_2) vp_1 (SlC.mono hp_1 le1_2) vp_2 (SlC.mono hp_2 le1_2) vp_3 (SlC.mono hp_3 le1_2) l vl (SlC.mono hl le1_2) true)) ?_; rintro _ _ ⟨rfl, rfl⟩; refine ⟨(fun w hw => hw.sub Sx), ?_⟩; refine TS.y rfl (Yv.bb (by kernel_rfl) rfl rfl rfl) ?_; refine TS.run 2 rfl ?_; refine TS.gs rfl rfl rfl rfl (fun h18 => ?_) (fun h18 => ?_)
                  · have p18 := h18; (try simp only [nfB] at p18); replace hk := zac hk h18; refine TS.y rfl (Yv.ak 0 rfl rfl rfl rfl) ?_; refine TS.y rfl (Yv.ak 2 rfl rfl rfl rfl) ?_; refine TS.run 1 rfl ?_; refine TS.eff ?_; refine TSo.as rfl (Wt.some rfl rfl rfl rfl) rfl rfl (Ew.ae rfl rfl rfl (fun w hw => zdo _ w (hw.fr (i := 3) rfl) p vp_0 cp_0 (SlD.mono (rep := GDomain.rep) (fun _ _ _ _ => GDomain.mono) hp_0 le1_2) vp_1 (SlC.mono hp_1 le1_2) vp_2 (SlC.mono hp_2 le1_2) vp_3 (SlC.mono hp_3 le1_2) l vl (SlC.mono hl le1_2) false)) ?_; rintro _ _ ⟨rfl, rfl⟩; refine ⟨(fun w hw => hw.sub Sx), ?_⟩; refine TS.y rfl (Yv.bb (by kernel_rfl) rfl rfl rfl) ?_; refine TS.run 2 rfl ?_; refine TS.eff ?_; refine TSo.gs rfl rfl rfl rfl (fun h19 => ?_) (fun h19 => ?_)
                    · have p19 := h19; (try simp only [nfB] at p19); replace hk := zac hk h19; have hq := zag hk; clear hk; obtain ⟨r85, hr85, hk⟩ := hq; refine TSo.as rfl (Wt.some rfl rfl rfl rfl) rfl rfl (Ew.ae rfl rfl rfl (fun w hw => zcI _ w (hw.fr (i := 3) rfl)  fuel r85 hr85)) ?_; rintro _ _ ⟨rfl, rfl⟩; refine ⟨(fun w hw => hw.sub Sx), ?_⟩; refine TS.run 2 rfl ?_; refine TS.done ?_; refine K.pick [3] rfl (by decide) ?_; exact K.ag r85 hk (.c .nil) (List.Sublist.refl _)
                    · replace hk := zab hk h19; refine TSo.off rfl (Wt.not rfl rfl rfl rfl) rfl rfl ?_; refine TS.run 2 rfl ?_; refine TS.done ?_; refine K.pick [3] rfl (by decide) ?_; exact K.ag false hk (.c .nil) (List.Sublist.refl _)
                  · replace hk := zab hk h18; refine TS.run 3 rfl ?_; refine TS.eff ?_; refine TSo.off rfl (Wt.not rfl rfl rfl rfl) rfl rfl ?_; refine TS.run 3 rfl ?_; refine TS.eff ?_; refine TSo.off rfl (Wt.not rfl rfl rfl rfl) rfl rfl ?_; refine TS.run 2 rfl ?_; refine TS.done ?_; refine K.pick [3] rfl (by decide) ?_; exact K.ag false hk (.c .nil) (List.Sublist.refl _)
                · have p17 := of_decide_eq_false h17; replace hk := zab hk h17; refine TS.run 3 rfl ?_; refine TS.eff ?_; refine TSo.off rfl (Wt.not rfl rfl rfl rfl) rfl rfl ?_; refine TS.run 6 rfl ?_; refine TS.eff ?_; refine TSo.off rfl (Wt.not rfl rfl rfl rfl) rfl rfl ?_; refine TS.run 3 rfl ?_; refine TS.eff ?_; refine TSo.off rfl (Wt.not rfl rfl rfl rfl) rfl rfl ?_; refine TS.run 2 rfl ?_; refine TS.done ?_; refine K.pick [3] rfl (by decide) ?_; exact K.ag false hk (.c .nil) (List.Sublist.refl _)
              · have p16 := of_decide_eq_false h16; replace hk := zab hk h16; refine TS.run 7 rfl ?_; refine TS.eff ?_; refine TSo.off rfl (Wt.not rfl rfl rfl rfl) rfl rfl ?_; refine TS.run 6 rfl ?_; refine TS.eff ?_; refine TSo.off rfl (Wt.not rfl rfl rfl rfl) rfl rfl ?_; refine TS.run 3 rfl ?_; refine TS.eff ?_; refine TSo.off rfl (Wt.not rfl rfl rfl rfl) rfl rfl ?_; refine TS.run 2 rfl ?_; refine TS.done ?_; refine K.pick [3] rfl (by decide) ?_; exact K.ag false hk (.c .nil) (List.Sublist.refl _)
            · rintro x_14 hk; rw [← hk15] at hk; (try dsimp only at hk); refine T.ret ?_; obtain rfl := Option.some.inj hk; exact K.aj rfl rfl (fun w' hw => ⟨rfl, hw.isBelow⟩)
theorem zfW (b : Bool) : (bif b then true else false) = b := by cases b <;> rfl
theorem zeX {n : Nat} (h : 100000 ≤ n) : zbZ n = some true := by
  obtain ⟨m, rfl⟩ : ∃ m, n = m + 100000 := ⟨n - 100000, by omega⟩
  kernel_rfl
theorem zgy {p : GProblem} {a b : Int} {fuel : Nat} (hf : 1000 ≤ fuel) : ∃ r, zcd fuel p a b = some r := by
  unfold zcd; simp only [zaJ]; refine zfw (σ := Int) (I := fun i => 0 ≤ i ∧ i ≤ 600) (μ := fun i => (600 - i).toNat) (post := fun o => ∃ r, o = some r) ⟨by omega, by omega⟩ (by omega) ?_; intro i next hi hn; by_cases h1 : i < (p.Domains.length : Int) <;> by_cases h2 : i < 600
  · rw [decide_eq_true h1, decide_eq_true h2, Bool.and_true, cond_true, zbC ⟨hi.1, h1⟩]
    cases decide (60 < ((nth p.Domains i.toNat).Channels.length : Int))
    · exact hn _ ⟨by omega, by omega⟩ (by omega)
    · exact ⟨_, rfl⟩
  · rw [decide_eq_false h2, Bool.and_false, cond_false]; exact ⟨_, rfl⟩
  · rw [decide_eq_false h1, Bool.false_and, cond_false]; exact ⟨_, rfl⟩
  · rw [decide_eq_false h1, Bool.false_and, cond_false]; exact ⟨_, rfl⟩
theorem allEq {α : Type} [Inhabited α] [DecidableEq α] {a b : List α} (hl : a.length = b.length) : ((List.range a.length).all fun i => decide (nth a i = nth b i)) = decide (a = b) := by
  rw [Bool.eq_iff_iff, List.all_eq_true, decide_eq_true_eq]; constructor
  · intro h; refine List.ext_getElem hl fun i h1 h2 => ?_; have := of_decide_eq_true (h i (List.mem_range.2 h1))
    rwa [za7 h1, za7 h2] at this
  · rintro rfl i _; simp
theorem zgF {α : Type} [Inhabited α] [DecidableEq α] {a b : List α} {r : α → α → Bool} {k : Unit → Bool} (hr : ∀ x y, r x y = !decide (x = y)) (hl : a.length = b.length) : zai (fun (i : Nat) (next : Unit → Bool) (_ : Unit) => bif r (nth a i) (nth b i) then false else next ()) k (a.length - 0) 0 () = (decide (a = b) && k ()) := by
  rw [Nat.sub_zero, zeY (fun i => decide (nth a i = nth b i)) (fun i next hi => by rw [hr]; cases decide (nth a i = nth b i) <;> rfl), allEq hl]
theorem eqL_x {α : Type} [Inhabited α] [DecidableEq α] {a b : List α} {r : α → α → Bool} (hr : ∀ x y, r x y = !decide (x = y)) : (bif decide (¬ (a.length : Int) = (b.length : Int)) then false else zai (fun (i : Nat) (next : Unit → Bool) (_ : Unit) => bif r (nth a i) (nth b i) then false else next ()) (fun _ => true) (a.length - 0) 0 ()) = decide (a = b) := by
  by_cases hl : a.length = b.length
  · rw [decide_eq_false (by omega), cond_false, zgF hr hl, Bool.and_true]
  · rw [decide_eq_true (by omega), cond_true, decide_eq_false (fun e => hl (by rw [e]))]
theorem ze7 (l : List GChoice) : zas l = zbu l := by
  have e1 : zas l = (List.range' 0 (l.length - 0)).all fun i => (zad (nth l i).Station && zaf (nth l i).Channel 2 51) && !(decide (0 < (i : Int)) && decide ((nth l i).Station ≤ (nth l (((i : Int) - 1).toNat)).Station)) := by
    refine (zbr (k := fun _ => true) (z := false) (fun i => (zad (nth l i).Station && zaf (nth l i).Channel 2 51) && !(decide (0 < (i : Int)) && decide ((nth l i).Station ≤ (nth l (((i : Int) - 1).toNat)).Station))) (fun i next h1 h2 => ?_)).trans ?_
    · cases zad (nth l i).Station <;> cases zaf (nth l i).Channel 2 51 <;> cases (decide (0 < (i : Int)) && decide ((nth l i).Station ≤ (nth l (((i : Int) - 1).toNat)).Station)) <;> rfl
    · exact zfW _
  rw [e1]; symm; refine (zbr (k := fun _ => true) (z := false) (fun i => (zad (nth l i).Station && zaf (nth l i).Channel 2 51) && !(decide (0 < (i : Int)) && decide ((nth l i).Station ≤ (nth l (((i : Int) - 1).toNat)).Station))) (fun i next h1 h2 => ?_)).trans ?_
  · rw [zcw (nth l i).Channel 2, zcw 51]; unfold zaf
    show (bif (((!zad (nth l i).Station || _) || _) || _) then _ else _) = _
    cases zad (nth l i).Station <;> cases decide (2 ≤ (nth l i).Channel) <;> cases decide ((nth l i).Channel ≤ 51) <;> cases (decide (0 < (i : Int)) && decide ((nth l i).Station ≤ (nth l (((i : Int) - 1).toNat)).Station)) <;> rfl
  · exact zfW _
theorem zda {σ ρ : Type} {f : Nat → (σ → Option ρ) → σ → Option ρ} {f' : Nat → (σ → ρ) → σ → ρ} {k : σ → Option ρ} {k' : σ → ρ} {n : Nat} (hk : ∀ s, k s = some (k' s)) (hf : ∀ j next next' s, j < n → (∀ s, next s = some (next' s)) → f j next s = some (f' j next' s)) (s : σ) : zai f k n 0 s = some (zai f' k' n 0 s) := by
  have key : ∀ m i s, i + m = n → zai f k m i s = some (zai f' k' m i s) := by
    intro m
    induction m with
    | zero => intro i s _; exact hk s
    | succ m ih => intro i s e; exact hf i _ _ s (by omega) fun s => ih (i + 1) s (by omega)
  exact key n 0 s (by omega)
def onL : List GChoice → Int → Int
  | [], _ => 0
  | x :: r, n => bif decide (x.Station = n) then x.Channel else onL r n
theorem on_x (l : List GChoice) (n : Int) : zau l n = onL l n := by
  have key : ∀ m i, i + m = l.length → zai (fun (i : Nat) (next : Unit → Int) (_ : Unit) => bif decide ((nth l i).Station = n) then (nth l i).Channel else next ()) (fun _ => (0 : Int)) m i () = onL (l.drop i) n := by
    intro m
    induction m with
    | zero => intro i e; rw [List.drop_eq_nil_of_le (show l.length ≤ i by omega)]; rfl
    | succ m ih =>
      intro i e; have h2 := ih (i + 1) (by omega); rw [List.drop_eq_getElem_cons (show i < l.length by omega), ← za7 (show i < l.length by omega)]
      show (bif decide ((nth l i).Station = n) then (nth l i).Channel else _) = bif decide ((nth l i).Station = n) then (nth l i).Channel else _
      rw [← h2]
  have := key l.length 0 (by omega); rw [List.drop_zero] at this; exact this
theorem zgg {x : GChoice} {n : Int} (h : x.Station ≠ n) : ∀ a, onL (a ++ [x]) n = onL a n
  | [] => by show (bif decide (x.Station = n) then x.Channel else 0) = 0; rw [decide_eq_false h]; rfl
  | y :: a => by
    show (bif decide (y.Station = n) then y.Channel else onL (a ++ [x]) n) = bif decide (y.Station = n) then y.Channel else onL a n
    rw [zgg h a]
theorem zgk {x : GChoice} {n : Int} (h : x.Station = n) : ∀ a : List GChoice, (∀ y ∈ a, y.Station ≠ n) → onL (a ++ [x]) n = x.Channel
  | [], _ => by show (bif decide (x.Station = n) then x.Channel else 0) = _; rw [decide_eq_true h]; rfl
  | y :: a, ha => by
    show (bif decide (y.Station = n) then y.Channel else onL (a ++ [x]) n) = _
    rw [decide_eq_false (ha y (List.mem_cons_self ..)), cond_false]; exact zgk h a fun z hz => ha z (List.mem_cons_of_mem _ hz)
structure VL (l : List GChoice) : Prop where
  st : ∀ i, i < l.length → 0 ≤ (nth l i).Station ∧ (nth l i).Station ≤ 511
  ch : ∀ i, i < l.length → 2 ≤ (nth l i).Channel ∧ (nth l i).Channel ≤ 51
  lt : ∀ i j, i < j → j < l.length → (nth l i).Station < (nth l j).Station
theorem zfQ (l : List GChoice) : zas l = (List.range' 0 (l.length - 0)).all fun i => (zad (nth l i).Station && zaf (nth l i).Channel 2 51) && !(decide (0 < (i : Int)) && decide ((nth l i).Station ≤ (nth l (((i : Int) - 1).toNat)).Station)) := by
  refine (zbr (k := fun _ => true) (z := false) (fun i => (zad (nth l i).Station && zaf (nth l i).Channel 2 51) && !(decide (0 < (i : Int)) && decide ((nth l i).Station ≤ (nth l (((i : Int) - 1).toNat)).Station))) (fun i next h1 h2 => ?_)).trans (zfW _)
  cases zad (nth l i).Station <;> cases zaf (nth l i).Channel 2 51 <;> cases (decide (0 < (i : Int)) && decide ((nth l i).Station ≤ (nth l (((i : Int) - 1).toNat)).Station)) <;> rfl
theorem zgB {l : List GChoice} (h : zas l = true) : VL l := by
  rw [zfQ, List.all_eq_true] at h; have g : ∀ i, i < l.length → _ := fun i hi => h i (List.mem_range'_1.2 ⟨by omega, by omega⟩)
  have hlt : ∀ j, 0 < j → j < l.length → (nth l (j - 1)).Station < (nth l j).Station := fun j h0 hj => by
    have h1 := zcz (g j hj); rw [decide_eq_true (show 0 < (j : Int) by omega), Bool.true_and, Bool.not_eq_true', decide_eq_false_iff_not, show ((j : Int) - 1).toNat = j - 1 by omega] at h1; omega
  refine ⟨fun i hi => zb9 (zb5 (zb5 (g i hi))), fun i hi => ?_, fun i j hij hj => ?_⟩
  · have := zcz (zb5 (g i hi)); unfold zaf at this; rw [Bool.and_eq_true, decide_eq_true_eq, decide_eq_true_eq] at this; exact this
  · induction j with
    | zero => omega
    | succ j ih =>
      have h1 := hlt (j + 1) (by omega) hj; rw [show j + 1 - 1 = j from rfl] at h1; rcases Nat.lt_or_ge i j with h2 | h2
      · have := ih h2 (by omega); omega
      · rw [show i = j by omega]; exact h1
theorem zeM {α : Type} [Inhabited α] {l : List α} {i : Nat} (hi : i < l.length) : l.take (i + 1) = l.take i ++ [nth l i] := by
  rw [List.take_add_one, List.getElem?_eq_getElem hi, za7 hi]; rfl
theorem zfT {α : Type} [Inhabited α] {l : List α} {i : Nat} {y : α} (h : y ∈ l.take i) : ∃ j, j < i ∧ j < l.length ∧ nth l j = y := by
  obtain ⟨j, hj, rfl⟩ := List.mem_iff_getElem.1 h; (have h1 : j < i ∧ j < l.length := by rw [List.length_take] at hj; omega); exact ⟨j, h1.1, h1.2, by rw [za7 h1.2, List.getElem_take]⟩
theorem zfh {l : List GChoice} (h : VL l) {i : Nat} (hi : i < l.length) (n : Int) : onL (l.take (i + 1)) n = if n = (nth l i).Station then (nth l i).Channel else onL (l.take i) n := by
  rw [zeM hi]; by_cases e : n = (nth l i).Station
  · rw [if_pos e]; refine zgk e.symm _ fun y hy => ?_; obtain ⟨j, h1, h2, rfl⟩ := zfT hy; have := h.lt j i h1 hi; omega
  · rw [if_neg e]; exact zgg (fun h => e h.symm) _
theorem zfU {l : List GChoice} (h : VL l) (n : Int) : onL l n = 0 ∨ (2 ≤ onL l n ∧ onL l n ≤ 51) := by
  have key : ∀ i, i ≤ l.length → onL (l.take i) n = 0 ∨ (2 ≤ onL (l.take i) n ∧ onL (l.take i) n ≤ 51) := by
    intro i
    induction i with
    | zero => intro _; exact .inl rfl
    | succ i ih =>
      intro hi; rw [zfh h (by omega)]; by_cases e : n = (nth l i).Station
      · rw [if_pos e]; exact .inr (h.ch i (by omega))
      · rw [if_neg e]; exact ih (by omega)
  have := key l.length (Nat.le_refl _)
  rwa [List.take_length] at this
def TabC (l : List GChoice) (c : Vec 512 Int) : Prop := ∀ n, n < 512 → Vec.get c n = onL l (n : Int)
theorem TabC.get {l : List GChoice} {c : Vec 512 Int} (h : TabC l c) {i : Int} (hi : 0 ≤ i ∧ i < 512) : Vec.get c i.toNat = onL l i := by
  rw [h _ (by omega), show ((i.toNat : Nat) : Int) = i by omega]
def zeO (l : List GChoice) (n : Int) (s : Int) (x : GLoad) : Int := bif (((decide (x.To = n)) && (decide (onL l x.From = onL l n))) && (decide (x.Low ≤ onL l n))) && (decide (onL l n ≤ x.High)) then wI (s + x.Weight) else s
theorem zgG (p : GProblem) (l : List GChoice) (n : Int) : zcb p n (onL l n) l = p.Rules.Loads.foldl (zeO l n) 0 := by
  rw [← ze4]; refine (zfn (k := fun s : Int => s) (n := p.Rules.Loads.length - 0) (s := 0) (fun i s => zeO l n s (nth p.Rules.Loads i)) (fun i next s hi => ?_)); rw [on_x]; unfold zeO
  cases (((decide ((nth p.Rules.Loads i).To = n)) && (decide (onL l (nth p.Rules.Loads i).From = onL l n))) && (decide ((nth p.Rules.Loads i).Low ≤ onL l n))) && (decide (onL l n ≤ (nth p.Rules.Loads i).High)) <;> rfl
theorem zf3 {r : List GLoad} {l : List GChoice} {c : Vec 512 Int} (hc : TabC l c) (hr : ∀ x ∈ r, zaD x = true) : ∃ v, zbR r c = some v ∧ ∀ n, n < 512 → Vec.get v n = r.foldl (zeO l (n : Int)) 0 := by
  have hg : ∀ i, i < r.length → (0 ≤ (nth r i).To ∧ (nth r i).To < 512) ∧ (0 ≤ (nth r i).From ∧ (nth r i).From < 512) := fun i hi => by
    have := zdk (hr _ (zcr hi)); have a := zb9 this.1; have b := zb9 this.2; omega
  let u := fun (x : GLoad) => ((decide (x.Low ≤ onL l x.To)) && (decide (onL l x.To ≤ x.High))) && (decide (onL l x.From = onL l x.To))
  obtain ⟨h1, h2⟩ := zcP (k := fun c : Vec 512 Int => some c) (n := r.length - 0) (s := Vec.fill 512 (0 : Int))
    (f := fun (i_5 : Nat) (next4 : Vec 512 Int → Option (Vec 512 Int)) (c_3 : Vec 512 Int) =>
      grd (0 ≤ (nth r i_5).To ∧ (nth r i_5).To < (512 : Int)) <|
      zaJ (fun (x_7 : Bool) =>
        (bif x_7 then
          next4 (Vec.put c_3 (((nth r i_5).To).toNat) (wI ((Vec.get c_3 (((nth r i_5).To).toNat)) + ((nth r i_5).Weight))))
          else
          next4 c_3))
      (fun k8 =>
        (bif (zaf (Vec.get c (((nth r i_5).To).toNat)) ((nth r i_5).Low) ((nth r i_5).High)) then
          grd (0 ≤ (nth r i_5).From ∧ (nth r i_5).From < (512 : Int)) <|
          k8 (decide ((Vec.get c (((nth r i_5).From).toNat)) = (Vec.get c (((nth r i_5).To).toNat))))
          else
          k8 false)))
    (fun i v => ∀ n, n < 512 → Vec.get v n = (r.take i).foldl (zeO l (n : Int)) 0)
    (fun i v => bif u (nth r i) then Vec.put v (nth r i).To.toNat (wI (Vec.get v (nth r i).To.toNat + (nth r i).Weight)) else v)
    (fun n hn => Vec.get_fill hn)
    (fun i v hi hv n hn => by
      have h3 := hg i (by omega); rw [zeM (show i < r.length by omega), List.foldl_append, List.foldl_cons, List.foldl_nil, ← hv n hn]; unfold zeO; by_cases e : (nth r i).To = (n : Int)
      · rw [decide_eq_true e, Bool.true_and]
        have e2 : (((decide (onL l (nth r i).From = onL l (n : Int))) && (decide ((nth r i).Low ≤ onL l (n : Int)))) && (decide (onL l (n : Int) ≤ (nth r i).High))) = u (nth r i) := by
          show _ = (((decide ((nth r i).Low ≤ onL l (nth r i).To)) && (decide (onL l (nth r i).To ≤ (nth r i).High))) && (decide (onL l (nth r i).From = onL l (nth r i).To)))
          rw [e]
          cases decide (onL l (nth r i).From = onL l (n : Int)) <;> cases decide ((nth r i).Low ≤ onL l (n : Int)) <;> cases decide (onL l (n : Int) ≤ (nth r i).High) <;> rfl
        rw [e2, show (nth r i).To.toNat = n by omega]
        cases u (nth r i)
        · rfl
        · rw [cond_true, cond_true, Vec.get_put (by omega), if_pos rfl]
      · rw [decide_eq_false e, Bool.false_and, Bool.false_and, Bool.false_and, cond_false]
        cases u (nth r i)
        · rfl
        · rw [cond_true, Vec.get_put (by omega), if_neg (by omega)])
    (fun i next v hi hv => by
      have h3 := hg i (by omega); rw [zbC h3.1, hc.get h3.1, hc.get h3.2]; unfold zaf zaJ
      show (bif _ then grd _ _ else _) = next (bif ((decide ((nth r i).Low ≤ onL l (nth r i).To)) && (decide (onL l (nth r i).To ≤ (nth r i).High))) && (decide (onL l (nth r i).From = onL l (nth r i).To)) then _ else _)
      rw [zbC h3.2]
      cases ((decide ((nth r i).Low ≤ onL l (nth r i).To)) && (decide (onL l (nth r i).To ≤ (nth r i).High))) <;> cases decide (onL l (nth r i).From = onL l (nth r i).To) <;> rfl)
  refine ⟨_, h1, fun n hn => ?_⟩; have := h2 n hn
  rwa [Nat.sub_zero, List.take_length] at this
theorem zgu (l : List Int) (v : Int) : decide (0 ≤ za4 l v) = l.any fun x => decide (x = v) := by
  have key : ∀ m i, i + m = l.length → decide (0 ≤ zai (fun (i : Nat) (next : Unit → Int) (_ : Unit) => bif decide (v = nth l i) then (i : Int) else next ()) (fun _ => (-1)) m i ()) = (l.drop i).any fun x => decide (x = v) := by
    intro m
    induction m with
    | zero => intro i e; rw [List.drop_eq_nil_of_le (show l.length ≤ i by omega)]; rfl
    | succ m ih =>
      intro i e; have h2 := ih (i + 1) (by omega); rw [List.drop_eq_getElem_cons (show i < l.length by omega), List.any_cons, ← za7 (show i < l.length by omega)]
      show decide (0 ≤ (bif decide (v = nth l i) then (i : Int) else _)) = _
      by_cases e2 : v = nth l i
      · rw [decide_eq_true e2, decide_eq_true e2.symm, cond_true, decide_eq_true (by omega)]; rfl
      · have e3 : ¬ nth l i = v := fun h => e2 h.symm; rw [decide_eq_false e3, Bool.false_or, ← h2]
        show decide (0 ≤ (bif decide (v = nth l i) then (i : Int) else _)) = _
        rw [decide_eq_false e2]; rfl
  have := key l.length 0 (by omega); rw [List.drop_zero] at this; exact this
theorem zgJ (l : List Int) (v : Int) : zbV l v = l.any fun x => decide (x = v) := by
  have h := zfI (f := fun (i : Nat) (next : Unit → Bool) (_ : Unit) => bif decide (nth l i = v) then true else next ()) (k := fun _ => false) (n := l.length - 0) (fun i => decide (nth l i = v)) (fun i next hi => by cases decide (nth l i = v) <;> rfl); rw [Nat.sub_zero, zeR (q := fun x => decide (x = v)), Bool.or_false] at h; exact h
theorem zfr (l : List Int) (v : Int) : zaH l v = zbV l v := by
  unfold zaH; rw [zgu, zgJ]
theorem zgs {ρ : Type} {l : List GChoice} (h : VL l) (K : Vec 512 Int → Option ρ) : ∃ c, TabC l c ∧ zai (fun (i_5 : Nat) (next4 : Vec 512 Int → Option ρ) (c_3 : Vec 512 Int) => grd (0 ≤ (nth l i_5).Station ∧ (nth l i_5).Station < (512 : Int)) <| next4 (Vec.put c_3 (((nth l i_5).Station).toNat) ((nth l i_5).Channel))) K (l.length - 0) 0 (Vec.fill 512 0) = K c := by
  obtain ⟨h1, h2⟩ := zcP (k := K) (n := l.length - 0) (s := Vec.fill 512 (0 : Int))
    (f := fun (i_5 : Nat) (next4 : Vec 512 Int → Option ρ) (c_3 : Vec 512 Int) => grd (0 ≤ (nth l i_5).Station ∧ (nth l i_5).Station < (512 : Int)) <| next4 (Vec.put c_3 (((nth l i_5).Station).toNat) ((nth l i_5).Channel)))
    (fun i c => ∀ n, n < 512 → Vec.get c n = onL (l.take i) (n : Int))
    (fun i c => Vec.put c (((nth l i).Station).toNat) ((nth l i).Channel))
    (fun n hn => Vec.get_fill hn)
    (fun i c hi hc n hn => by
      have h3 := h.st i (by omega); rw [zfh h (by omega), Vec.get_put (by omega), hc n hn]; by_cases e : (n : Int) = (nth l i).Station
      · rw [if_pos e, if_pos (by omega)]
      · rw [if_neg e, if_neg (by omega)])
    (fun i next c hi hc => by
      have h3 := h.st i (by omega)
      rw [zbC ⟨h3.1, by omega⟩])
  refine ⟨_, fun n hn => ?_, h1⟩; have := h2 n hn
  rwa [Nat.sub_zero, List.take_length] at this
theorem zgh {a b : Int} (h : zaR a b = true) : 2 ≤ a ∧ a ≤ b ∧ b ≤ 51 :=
  ⟨of_decide_eq_true (zb5 (zb5 h)), of_decide_eq_true (zcz (zb5 h)), of_decide_eq_true (zcz h)⟩
theorem zgH {n a b : Int} (h : zaf n a b = true) : a ≤ n ∧ n ≤ b := ⟨of_decide_eq_true (zb5 h), of_decide_eq_true (zcz h)⟩
theorem zd6 {p : GProblem} {l : List GChoice} {all : Bool} (hp : okP p = true) (hl : VL l) : zaY p l all = some (za5 p l all) := by
  have hD := zb5 hp; have hg := zeg (zb5 (zcz hp)); have hi := zb5 (zcz (zcz hp)); obtain ⟨s, h3, h4⟩ := zeZ (p := p) (by have := ze6 hD hi; unfold room; omega) (fun d hd => zeN hD hd); unfold zaY za5; refine (zgs hl _).elim fun c hc => hc.2.trans ?_; have hc := hc.1; refine zda (fun s9 => ?_) (fun i next next' s9 hin hn => ?_) (0, 0)
  · show (zaZ p).bind _ = _
    rw [h3]; refine zda (fun s22 => ?_) (fun i next next' s22 hin hn => ?_) _
    · refine zda (fun s31 => ?_) (fun i next next' s31 hin hn => ?_) _
      · obtain ⟨v, hv, hv2⟩ := zf3 hc hg.l
        show (zbR p.Rules.Loads c).bind _ = _
        rw [hv]; refine zda (fun s43 => rfl) (fun i next next' s43 hin hn => ?_) _; have hm := zcr (show i < p.Rules.Caps.length by omega); have hs := zb9 (zem (hg.c _ hm)); have hr := zgh (zcz (hg.c _ hm))
        show grd _ _ = _
        rw [zbC ⟨hs.1, by omega⟩, hc.get ⟨hs.1, by omega⟩, hv2 _ (by omega), show (((nth p.Rules.Caps i).Station.toNat : Nat) : Int) = (nth p.Rules.Caps i).Station by omega]
        have e : zbt p (nth p.Rules.Caps i) l = ((zaf (onL l (nth p.Rules.Caps i).Station) (nth p.Rules.Caps i).Low (nth p.Rules.Caps i).High) && decide ((nth p.Rules.Caps i).Max < p.Rules.Loads.foldl (zeO l (nth p.Rules.Caps i).Station) 0)) := by
          unfold zbt zaf; rw [on_x, zgG]; by_cases h0 : (nth p.Rules.Caps i).Low ≤ onL l (nth p.Rules.Caps i).Station
          · rw [decide_eq_true h0, decide_eq_true (show ¬ onL l (nth p.Rules.Caps i).Station = 0 by omega)]; rfl
          · rw [decide_eq_false h0]; simp
        rw [e]
        cases ((zaf (onL l (nth p.Rules.Caps i).Station) (nth p.Rules.Caps i).Low (nth p.Rules.Caps i).High) && decide ((nth p.Rules.Caps i).Max < p.Rules.Loads.foldl (zeO l (nth p.Rules.Caps i).Station) 0))
        · exact hn _
        · rfl
      · have hm := zcr (show i < p.Rules.Pairs.length by omega); have hq := hg.p _ hm; have hA := zb9 (zcN hq).1; have hB := zb9 (zcN hq).2; have hr := zgh (zcz hq); have ho := zgH (zcz (zb5 hq))
        show grd _ _ = _
        rw [zbC ⟨hA.1, by omega⟩, hc.get ⟨hA.1, by omega⟩, hc.get ⟨hB.1, by omega⟩]
        show (bif zaf _ _ _ then grd _ _ else _) = _
        rw [zbC ⟨hB.1, by omega⟩]
        have e : zbb (nth p.Rules.Pairs i) l = ((zaf (onL l (nth p.Rules.Pairs i).A) (nth p.Rules.Pairs i).Low (nth p.Rules.Pairs i).High) && decide (onL l (nth p.Rules.Pairs i).B = wI (onL l (nth p.Rules.Pairs i).A + (nth p.Rules.Pairs i).Offset))) := by
          unfold zbb zaf; rw [on_x, on_x]; by_cases h0 : (nth p.Rules.Pairs i).Low ≤ onL l (nth p.Rules.Pairs i).A
          · have hR := zfU hl (nth p.Rules.Pairs i).A; rw [wI_in (by omega), decide_eq_true h0, decide_eq_true (show ¬ onL l (nth p.Rules.Pairs i).A = 0 by omega)]; by_cases h1 : onL l (nth p.Rules.Pairs i).B = onL l (nth p.Rules.Pairs i).A + (nth p.Rules.Pairs i).Offset
            · rw [decide_eq_true h1, decide_eq_true (show ¬ onL l (nth p.Rules.Pairs i).B = 0 by omega)]; rfl
            · rw [decide_eq_false h1, Bool.and_false, Bool.and_false]
          · rw [decide_eq_false h0]; simp
        show _ = some (bif zbb (nth p.Rules.Pairs i) l then _ else _)
        rw [e]
        cases zaf (onL l (nth p.Rules.Pairs i).A) (nth p.Rules.Pairs i).Low (nth p.Rules.Pairs i).High
        · exact hn _
        · cases decide (onL l (nth p.Rules.Pairs i).B = wI (onL l (nth p.Rules.Pairs i).A + (nth p.Rules.Pairs i).Offset))
          · exact hn _
          · rfl
    · have hs := hl.st i (by omega)
      show (zah s (nth l i).Station).bind _ = some (bif decide (zaX p (nth l i).Station < 0) then _ else _)
      rw [zfv, h4, zen, decide_eq_true hs.1, decide_eq_true (show (nth l i).Station < 512 by omega), Bool.and_self, Bool.true_and]
      show (bif !(anyD p (nth l i).Station) then _ else _) = _
      cases anyD p (nth l i).Station
      · rfl
      · exact hn _
  · have hs := zeN hD (zcr (show i < p.Domains.length by omega))
    show grd _ _ = some (bif _ then _ else _)
    rw [zbC ⟨hs.1, hs.2⟩, hc.get hs, on_x, zfr]
    cases (((decide (onL l (nth p.Domains i).Station = 0)) && all) || ((decide (¬ onL l (nth p.Domains i).Station = 0)) && (!zbV (nth p.Domains i).Channels (onL l (nth p.Domains i).Station))))
    · exact hn _
    · rfl
theorem zfx (a b : List GChoice) : zbQ a b = decide (a = b) := eqL_x (r := fun x y : GChoice => !(decide (x.Station = y.Station) && decide (x.Channel = y.Channel))) fun x y => by
  have : (decide (x.Station = y.Station) && decide (x.Channel = y.Channel)) = decide (x = y) := by
    rw [Bool.eq_iff_iff]; cases x; cases y; simp
  rw [this]
theorem zgt (p : GProblem) (l : List GChoice) : zbH p l = some (bif okP p && zas l then (za5 p l true, 0) else (⟨0, 0⟩, 2)) := by
  unfold zbH; rw [zfF]
  cases h1 : okP p
  · rfl
  cases h2 : zas l
  · rfl
  show (zaY p l true).bind _ = _
  rw [zd6 h1 (zgB h2)]; rfl
theorem zfP (p : GProblem) (l : List GChoice) : za8 p l = some (bif okP p && zas l then (za5 p l false, 0) else (⟨0, 0⟩, 2)) := by
  unfold za8; rw [zfF]
  cases h1 : okP p
  · rfl
  cases h2 : zas l
  · rfl
  show (zaY p l false).bind _ = _
  rw [zd6 h1 (zgB h2)]; rfl
theorem zew {n : Nat} (h : 100000 ≤ n) (p : GProblem) (l : List GChoice) : zby n p l = some true := by
  unfold zby; obtain ⟨a, ha⟩ := zgy (p := p) (a := 60) (b := 60) (fuel := n) (by omega); by_cases h7 : 70 < (l.length : Int)
  · simp only [zaJ, decide_eq_true h7, cond_true, zeX h, Option.bind_some]
  simp only [zaJ, decide_eq_false h7, cond_false, ha, Option.bind_some, zeX h, List.nil_append, zgt, zfP, zfq, zfx, decide_true, Bool.not_true, ← ze7]
  cases a
  · rfl
  simp only [Bool.not_true, cond_false]; rw [zbC (by unfold room; omega)]
  cases okP p <;> cases zas l <;> simp
end Go.Proofs.YtipomhejoajjdaaGreat
namespace Go.Proofs.YtipomhejoajjdaaGreat
open Go.RowKit Go.ChangeShapes Go.WideShapes Go.Deep
def Opens {H : Type} (enc : TypeId × Value → H) (w : World) (base : Nat) (spare : Nat → Bool) (held : Bool) (t : TypeId) {α : Type} (R : List Value → α → Prop) : Prop :=
  ∀ fuel cs y, DataW.trod enc Tryz.prog w base spare held fuel t cs = some y → ∃ x, R cs x
section
variable {H : Type} {enc : TypeId × Value → H} {w : World} {base : Nat} {spare : Nat → Bool} {held : Bool}
theorem Opens.int {t : TypeId} (ht : Tryz.prog.underlying t = some (.int .i64)) : Opens enc w base spare held t (fun cs (x : Int) => cs = [.int .i64 x]) := fun fuel cs y h => by
  obtain ⟨k, hk, _⟩ := DataW.trod_int ht h; exact ⟨k, hk⟩
theorem zgx {a : Addr} {v : Value} (h : w.cell? a = some v) : Cb w a.block := by
  unfold World.cell? at h
  split at h
  all_goals (first | exact ⟨_, _, _, by assumption⟩ | simp at h | skip)
theorem Opens.any {t e : TypeId} {k : Nat} {α : Type} [Inhabited α] {R : List Value → α → Prop} (ht : Tryz.prog.underlying t = some (.slice e)) (hk : Tryz.prog.cellsOf e = k) (hpos : 0 < k) (ho : Opens enc w base spare held e R) :
    Opens enc w base spare held t (fun cs (l : List α) => ∃ v c, cs = [v] ∧ SlC (Frz.all w) v k c ∧ c.length = l.length ∧ ∀ i, i < l.length → R (nth c i) (nth l i)) := fun fuel cs y h => by
  rcases open_slice ht h with ⟨h0, _⟩ | ⟨a, len, cap, m, n, D, Pl, hcs, hb, hl, hm, hmm, _, hx⟩
  · exact ⟨[], _, [], h0, SlC.nil _ _, rfl, fun i hi => absurd hi (Nat.not_lt_zero i)⟩
  · subst hcs; (have hlm : len ≤ m := by rw [hmm]; split <;> omega)
    have each : ∀ i, i < m → ∃ x : List Value × α, x.1.length = k ∧ R x.1 x.2 ∧ ∀ j, j < k → w.cell? (a.add (i * k + j)) = x.1[j]? := fun i hi => by
      obtain ⟨cs', h1, h2⟩ := hx i hi; rw [hk] at h1; obtain ⟨_, hlen, hcell⟩ := World.cells?_some h1; obtain ⟨x, hR⟩ := ho _ _ _ h2; exact ⟨(cs', x), hlen, hR, fun j hj => by rw [← hcell j hj, add_add]⟩
    obtain ⟨X, hX⟩ := choose_lt each
    have hn : ∀ i, i < len → nth ((List.range len).map fun i => (X i).1) i = (X i).1 := fun i hi => by
      rw [za7 (by simpa using hi)]; simp
    have hn2 : ∀ i, i < len → nth ((List.range len).map fun i => (X i).2) i = (X i).2 := fun i hi => by
      rw [za7 (by simpa using hi)]; simp
    refine ⟨(List.range len).map fun i => (X i).2, _, (List.range len).map fun i => (X i).1, rfl, ⟨some a, cap, by simp, by simpa using hl, by unfold maxLen at hm; omega, fun c hc => ?_, fun hp => ?_⟩, by simp, fun i hi => ?_⟩
    · simp at hc; obtain ⟨i, hi, rfl⟩ := hc; exact (hX i (by omega)).1
    · (have hp' : 0 < len := by simpa using hp); have c0 := (hX 0 (by omega)).2.2 0 hpos; have hx0 := (hX 0 (by omega)).1; rw [List.getElem?_eq_getElem (by omega)] at c0; have hcb := zgx c0; have hs := World.cell?_spot c0; simp [Addr.add] at hs hcb; obtain ⟨b, off, sp⟩ := a; simp at hs hcb; subst hs; refine ⟨b, off, rfl, hcb, fun i hi j hj => ?_⟩; simp at hi; rw [hn i hi] at hj ⊢; have hxi := hX i (by omega); have := hxi.2.2 j (by omega); refine Eq.trans ?_ this
      show w.cell? _ = _
      rw [zcO, Nat.add_assoc]
    · simp at hi; rw [hn i hi, hn2 i hi]; exact (hX i (by omega)).2.1
theorem Opens.slC {t e : TypeId} {k : Nat} {α : Type} [Inhabited α] {en : α → List Value} (ht : Tryz.prog.underlying t = some (.slice e)) (hk : Tryz.prog.cellsOf e = k) (hpos : 0 < k) (ho : Opens enc w base spare held e (fun cs (x : α) => cs = en x)) :
    Opens enc w base spare held t (fun cs (l : List α) => ∃ v, cs = [v] ∧ SlC (Frz.all w) v k (l.map en)) := fun fuel cs y h => by
  obtain ⟨l, v, c, h1, h2, h3, h4⟩ := Opens.any ht hk hpos ho _ _ _ h; refine ⟨l, v, h1, ?_⟩
  have : c = l.map en := by
    apply List.ext_getElem (by simpa using h3); intro i hi hi2; rw [← za7 hi, h4 i (by omega), List.getElem_map, za7 (by omega)]
  rw [← this]; exact h2
theorem Opens.slD {t e : TypeId} {k : Nat} {α : Type} [Inhabited α] {rep : Frz → List Value → α → Prop} (ht : Tryz.prog.underlying t = some (.slice e)) (hk : Tryz.prog.cellsOf e = k) (hpos : 0 < k) (ho : Opens enc w base spare held e (rep (Frz.all w))) :
    Opens enc w base spare held t (fun cs (l : List α) => ∃ v c, cs = [v] ∧ SlD rep (Frz.all w) v k c l) := fun fuel cs y h => by
  obtain ⟨l, v, c, h1, h2, h3, h4⟩ := Opens.any ht hk hpos ho _ _ _ h; exact ⟨l, v, c, h1, h2, h3, h4⟩
end
end Go.Proofs.YtipomhejoajjdaaGreat
