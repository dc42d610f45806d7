/- Yr Ys Pc Pd Pk Pe Pl: shortened and put together by squeeze.py. -/
import Derived.Test.YtipomhejoajjdaaGreatQ07
set_option maxRecDepth 100000
set_option maxHeartbeats 4000000
set_option linter.unusedVariables false
set_option linter.unusedSectionVars false
set_option linter.unusedSimpArgs false
namespace Go.Proofs.YtipomhejoajjdaaGreat
open Go.RowKit
def za2  : GProblem :=
  (GProblem.mk [(GDomain.mk 1 [14, 15, 16]), (GDomain.mk 2 [14, 15]), (GDomain.mk 3 [15])] (GRules.mk [(GPair.mk 1 2 0 14 16), (GPair.mk 1 2 1 14 15)] [(GLoad.mk 3 2 5 14 51)] [(GCap.mk 3 4 14 51)]))
theorem zcG (F0 : Frz) (w : World) (hF0 : F0.At w)  : Calls Tryz.prog 36 #[] w fun e w' => ∃ (y : Value × List (List Value) × Value × Value × Value) (G : Frz), (SlD GDomain.rep G y.1 2 y.2.1 ((za2).Domains) ∧ SlC G y.2.2.1 5 (((za2).Rules.Pairs).map GPair.enc) ∧ SlC G y.2.2.2.1 5 (((za2).Rules.Loads).map GLoad.enc) ∧ SlC G y.2.2.2.2 4 (((za2).Rules.Caps).map GCap.enc)) ∧ e = .returned (.agg [y.1, y.2.2.1, y.2.2.2.1, y.2.2.2.2].toArray) ∧ Fx F0 w G w' := by
  obtain ⟨r, hk⟩ : ∃ r, za2 = r := ⟨_, rfl⟩; rw [hk]; unfold za2 at hk; obtain ⟨S0, F1, rfl, hS0, hp0⟩ := zap hF0; refine zao Tryz.func36 rfl rfl rfl hp0 ?_; refine T.sr ?_; refine TL.e (Ew.alloc rfl) ?_; rintro _ _ ⟨g0, rfl, rfl⟩; refine TL.nx ?_; refine TL.e (Ew.buildSlice rfl rfl rfl (by decide)) ?_; rintro _ _ ⟨g1, rfl, rfl⟩; refine TL.aw (fun w hw => hw.freezeR (i := 2) (j := 0) (by decide) rfl rfl) ?_; rintro F2 ⟨le1_2, hz2⟩; dsimp only [List.set, List.eraseIdx]; have hf2 : SlC F2.toFrz (.slice (some ⟨g1, 0, none⟩) 3 3) 1 ([14, 15, 16].map eI) := (SlK.lit hz2 rfl (Nat.le_refl _) (by decide)).toF (xs := [14, 15, 16]) rfl (fun _ => rfl); refine TL.y (Yv.build rfl rfl) ?_; refine TL.e (Ew.buildSlice rfl rfl rfl (by decide)) ?_; rintro _ _ ⟨g3, rfl, rfl⟩; refine TL.aw (fun w hw => hw.freezeR (i := 2) (j := 0) (by decide) rfl rfl) ?_; rintro F3 ⟨le2_3, hz3⟩; dsimp only [List.set, List.eraseIdx]; have le1_3 := le1_2.trans le2_3; have hf3 : SlC F3.toFrz (.slice (some ⟨g3, 0, none⟩) 2 2) 1 ([14, 15].map eI) := (SlK.lit hz3 rfl (Nat.le_refl _) (by decide)).toF (xs := [14, 15]) rfl (fun _ => rfl); refine TL.y (Yv.build rfl rfl) ?_; refine TL.e (Ew.buildSlice rfl rfl rfl (by decide)) ?_; rintro _ _ ⟨g5, rfl, rfl⟩; refine TL.aw (fun w hw => hw.freezeR (i := 2) (j := 0) (by decide) rfl rfl) ?_; rintro F4 ⟨le3_4, hz4⟩; dsimp only [List.set, List.eraseIdx]; have le1_4 := le1_3.trans le3_4; have le2_4 := le2_3.trans le3_4; have hf4 : SlC F4.toFrz (.slice (some ⟨g5, 0, none⟩) 1 1) 1 ([15].map eI) := (SlK.lit hz4 rfl (Nat.le_refl _) (by decide)).toF (xs := [15]) rfl (fun _ => rfl); refine TL.y (Yv.build rfl rfl) ?_; refine TL.e (Ew.buildSlice rfl rfl rfl (by decide)) ?_; rintro _ _ ⟨g7, rfl, rfl⟩; have hl7 : OwnD GDomain.rep F4.toFrz 2 [[.int .i64 1, (.slice (some ⟨g1, 0, none⟩) 3 3)], [.int .i64 2, (.slice (some ⟨g3, 0, none⟩) 2 2)], [.int .i64 3, (.slice (some ⟨g5, 0, none⟩) 1 1)]] [(GDomain.mk 1 [14, 15, 16]), (GDomain.mk 2 [14, 15]), (GDomain.mk 3 [15])] := (OwnD.snoc (OwnD.snoc (OwnD.snoc (OwnD.nil _ _ 2) ⟨_, rfl, (SlC.mono hf2 le2_4)⟩ rfl) ⟨_, rfl, (SlC.mono hf3 le3_4)⟩ rfl) ⟨_, rfl, hf4⟩ rfl); refine TL.y (Yv.build rfl rfl) ?_; refine TL.y (Yv.build rfl rfl) ?_; refine TL.e (Ew.buildSlice rfl rfl rfl (by decide)) ?_; rintro _ _ ⟨g10, rfl, rfl⟩; refine TL.y (Yv.build rfl rfl) ?_; refine TL.e (Ew.buildSlice rfl rfl rfl (by decide)) ?_; rintro _ _ ⟨g12, rfl, rfl⟩; refine TL.y (Yv.build rfl rfl) ?_; refine TL.e (Ew.buildSlice rfl rfl rfl (by decide)) ?_; rintro _ _ ⟨g14, rfl, rfl⟩; refine TL.y (Yv.build rfl rfl) ?_; refine TL.y (Yv.build rfl rfl) ?_; refine TL.e0 (Ew.ae 4 rfl rfl rfl rfl rfl rfl) ?_; rintro _ _ ⟨rfl, rfl⟩; refine TL.ns (T.ret ?_); refine K.aw (fun w hw => hw.freezeR (i := 5) (j := 3) (by decide) rfl rfl) ?_; rintro F5 ⟨le4_5, hz5⟩; dsimp only [List.set, List.eraseIdx]; have le1_5 := le1_4.trans le4_5; have hf5 : SlD GDomain.rep F5.toFrz (.slice (some ⟨g7, 0, none⟩) 3 3) 2 [[.int .i64 1, (.slice (some ⟨g1, 0, none⟩) 3 3)], [.int .i64 2, (.slice (some ⟨g3, 0, none⟩) 2 2)], [.int .i64 3, (.slice (some ⟨g5, 0, none⟩) 1 1)]] [(GDomain.mk 1 [14, 15, 16]), (GDomain.mk 2 [14, 15]), (GDomain.mk 3 [15])] := (SlK.lit hz5 rfl (Nat.le_refl _) (by decide)).toD (OwnD.mono (rep := GDomain.rep) (fun _ _ _ _ => GDomain.mono) hl7 le4_5) rfl; refine K.aw (fun w hw => hw.freezeR (i := 4) (j := 2) (by decide) rfl rfl) ?_; rintro F6 ⟨le5_6, hz6⟩; dsimp only [List.set, List.eraseIdx]; have le1_6 := le1_5.trans le5_6; have hf6 : SlC F6.toFrz (.slice (some ⟨g10, 0, none⟩) 2 2) 5 ([(GPair.mk 1 2 0 14 16), (GPair.mk 1 2 1 14 15)].map GPair.enc) := (SlK.lit hz6 rfl (Nat.le_refl _) (by decide)).toF (xs := [(GPair.mk 1 2 0 14 16), (GPair.mk 1 2 1 14 15)]) rfl GPair.len; refine K.aw (fun w hw => hw.freezeR (i := 3) (j := 1) (by decide) rfl rfl) ?_; rintro F7 ⟨le6_7, hz7⟩; dsimp only [List.set, List.eraseIdx]; have le1_7 := le1_6.trans le6_7; have le5_7 := le5_6.trans le6_7; have hf7 : SlC F7.toFrz (.slice (some ⟨g12, 0, none⟩) 1 1) 5 ([(GLoad.mk 3 2 5 14 51)].map GLoad.enc) := (SlK.lit hz7 rfl (Nat.le_refl _) (by decide)).toF (xs := [(GLoad.mk 3 2 5 14 51)]) rfl GLoad.len; refine K.aw (fun w hw => hw.freezeR (i := 2) (j := 0) (by decide) rfl rfl) ?_; rintro F8 ⟨le7_8, hz8⟩; dsimp only [List.set, List.eraseIdx]; have le1_8 := le1_7.trans le7_8; have le5_8 := le5_7.trans le7_8; have le6_8 := le6_7.trans le7_8; have hf8 : SlC F8.toFrz (.slice (some ⟨g14, 0, none⟩) 1 1) 4 ([(GCap.mk 3 4 14 51)].map GCap.enc) := (SlK.lit hz8 rfl (Nat.le_refl _) (by decide)).toF (xs := [(GCap.mk 3 4 14 51)]) rfl GCap.len; subst hk; exact K.aH 0 rfl rfl rfl rfl (fun w' hw => ⟨((.slice (some ⟨g7, 0, none⟩) 3 3), [[.int .i64 1, (.slice (some ⟨g1, 0, none⟩) 3 3)], [.int .i64 2, (.slice (some ⟨g3, 0, none⟩) 2 2)], [.int .i64 3, (.slice (some ⟨g5, 0, none⟩) 1 1)]], (.slice (some ⟨g10, 0, none⟩) 2 2), (.slice (some ⟨g12, 0, none⟩) 1 1), (.slice (some ⟨g14, 0, none⟩) 1 1)), F8.toFrz, ⟨(SlD.mono (rep := GDomain.rep) (fun _ _ _ _ => GDomain.mono) hf5 le5_8), (SlC.mono hf6 le6_8), (SlC.mono hf7 le7_8), hf8⟩, rfl, Fx.of hw (i := 1) rfl hS0 le1_8⟩)
def zaZ (a : Int) (b : Int) (c : Int) : List GChoice :=
  [(GChoice.mk 1 a), (GChoice.mk 2 b), (GChoice.mk 3 c)]
theorem zcN (F0 : Frz) (w : World) (hF0 : F0.At w) (a : Int) (b : Int) (c : Int) : Calls Tryz.prog 35 #[.int .i64 a, .int .i64 b, .int .i64 c] w fun e w' => ∃ (y : Value) (G : Frz), (SlC G y 2 ((zaZ a b c).map GChoice.enc)) ∧ e = .returned (y) ∧ Fx F0 w G w' := by
  obtain ⟨r, hk⟩ : ∃ r, zaZ a b c = r := ⟨_, rfl⟩; rw [hk]; unfold zaZ at hk; obtain ⟨S0, F1, rfl, hS0, hp0⟩ := zap hF0; refine zao Tryz.func35 rfl rfl rfl hp0 ?_; refine T.sr ?_; refine TL.run 1 rfl ?_; refine TL.nx ?_; refine TL.run 1 rfl ?_; refine TL.y (Yv.build rfl rfl) ?_; refine TL.run 1 rfl ?_; refine TL.y (Yv.build rfl rfl) ?_; refine TL.run 1 rfl ?_; refine TL.y (Yv.build rfl rfl) ?_; refine TL.e (Ew.buildSlice rfl rfl rfl (by decide)) ?_; rintro _ _ ⟨g13, rfl, rfl⟩; refine TL.run 1 rfl ?_; refine TL.ns (T.ret ?_); refine K.aw (fun w hw => hw.freezeR (i := 1) (j := 0) (by decide) rfl rfl) ?_; rintro F2 ⟨le1_2, hz2⟩; dsimp only [List.set, List.eraseIdx]; have hf2 : SlC F2.toFrz (.slice (some ⟨g13, 0, none⟩) 3 3) 2 ([(GChoice.mk 1 a), (GChoice.mk 2 b), (GChoice.mk 3 c)].map GChoice.enc) := (SlK.lit hz2 rfl (Nat.le_refl _) (by decide)).toF (xs := [(GChoice.mk 1 a), (GChoice.mk 2 b), (GChoice.mk 3 c)]) rfl GChoice.len; subst hk; exact K.aj rfl rfl (fun w' hw => ⟨(.slice (some ⟨g13, 0, none⟩) 3 3), F2.toFrz, hf2, rfl, Fx.of hw (i := 0) rfl hS0 le1_2⟩)
def zcd (l : List GChoice) (kind : Int) (at_ : Int) : Option Bool :=
  (zbN (za2) l).bind fun r12 =>
  some (((decide (r12.2 = 0)) && (decide (r12.1.Kind = kind))) && (decide (r12.1.At = at_)))
theorem zcV (F0 : Frz) (w : World) (hF0 : F0.At w) (l : List GChoice) (vl : Value) (hl : SlC F0 vl 2 (l.map GChoice.enc)) (kind : Int) (at_ : Int) (r : Bool) (hr : zcd l kind at_ = some r) : Calls Tryz.prog 34 #[vl, .int .i64 kind, .int .i64 at_] w fun e w' => e = .returned (.bool r) ∧ Below w.heap.size w w' := by
  have hk := hr; unfold zcd at hk; haveI := hl.oneC; obtain ⟨S0, F1, rfl, hS0, hp0⟩ := zap hF0; refine zao Tryz.func34 rfl rfl rfl hp0 ?_; refine T.sr ?_; refine TL.run 1 rfl ?_; refine TL.ns (T.seq ?_); have hq := zae hk; clear hk; obtain ⟨r12, hr12, hk⟩ := hq; (try dsimp only at hk); refine T.region ?_; refine TL.e (Ew.az 0 rfl rfl rfl rfl (fun w hw hF => zcG _ w hF )) ?_; rintro _ _ ⟨⟨v10_0_0, cs10_0_0, v10_0_1, v10_0_2, v10_0_3⟩, F2, le1_2, ⟨hf10_0_0, hf10_0_1, hf10_0_2, hf10_0_3⟩, rfl, rfl⟩; dsimp only at hf10_0_0 hf10_0_1 hf10_0_2 hf10_0_3 ⊢; haveI := hf10_0_0.1.oneC; haveI := hf10_0_1.oneC; haveI := hf10_0_2.oneC; haveI := hf10_0_3.oneC; refine TL.run 1 rfl ?_; refine TL.e (Ew.af rfl rfl rfl (fun w hw => zc2 _ w (hw.fr (i := 0) rfl) (za2) v10_0_0 cs10_0_0 hf10_0_0 v10_0_1 hf10_0_1 v10_0_2 hf10_0_2 v10_0_3 hf10_0_3 l vl (SlC.mono hl le1_2) r12 hr12)) ?_; rintro _ _ ⟨rfl, rfl⟩; refine TL.run 3 rfl ?_; refine TL.e (Ew.alloc rfl) ?_; rintro _ _ ⟨g7, rfl, rfl⟩; refine TL.e0 (Ew.ae 0 rfl rfl rfl rfl rfl rfl) ?_; rintro _ _ ⟨rfl, rfl⟩; refine TL.run 1 rfl ?_; refine TL.ns (T.seq ?_); refine T.ah (ι := Unit) (fun z => [(6, .bool (((decide (r12.2 = 0)) && (decide (r12.1.Kind = kind))) && (decide (r12.1.At = at_))))]) (fun z => [.row g7 35 [.int .i64 r12.1.Kind, .int .i64 r12.1.At], .fr F2]) (fun z => True) ?_ ?_
  · refine T.region ?_; refine TL.run 3 rfl ?_; refine TL.gs rfl rfl rfl (fun h1 => ?_) (fun h1 => ?_)
    · have p1 := of_decide_eq_true h1; refine TL.y (Yv.fieldAddr rfl rfl) ?_; refine TL.y (Yv.aa 0 rfl rfl rfl rfl) ?_; refine TL.run 4 rfl ?_; refine TL.gs rfl rfl rfl (fun h2 => ?_) (fun h2 => ?_)
      · have p2 := of_decide_eq_true h2; refine TL.y (Yv.fieldAddr rfl rfl) ?_; refine TL.y (Yv.aa 0 rfl rfl rfl rfl) ?_; refine TL.run 4 rfl ?_; refine TL.nil ?_; exact K.ai () trivial (.b (zdw (za0 h1 h2)) .nil) (List.Sublist.refl _)
      · have p2 := of_decide_eq_false h2; refine TL.run 6 rfl ?_; refine TL.nil ?_; exact K.ai () trivial (.b (zaC (za0 h1 h2)).symm .nil) (List.Sublist.refl _)
    · have p1 := of_decide_eq_false h1; refine TL.run 12 rfl ?_; refine TL.nil ?_; exact K.ai () trivial (.b (zaC (zaC h1)).symm .nil) (List.Sublist.refl _)
  · rintro _ _; refine T.ret ?_; obtain rfl := Option.some.inj hk; exact K.aj rfl rfl (fun w' hw => ⟨rfl, hw.isBelow⟩)
def zcL (fuel : Nat)  : Option Bool :=
  (zcd (zaZ 14 14 15) 3 0).bind fun r11 =>
  zaW (fun (x_1 : Bool) =>
    (bif x_1 then
      some false
      else
      grd (0 ≤ 2 ∧ 2 ≤ ((zaZ 15 14 15).length : Int)) <|
      (zbI (za2) ((zaZ 15 14 15).take 2)).bind fun r38 =>
      (zbI (za2) [(GChoice.mk 3 16)]).bind fun r45 =>
      (zbI (za2) [(GChoice.mk 4 15)]).bind fun r52 =>
      (bif ((((((((decide (¬ r38.2 = 0)) || (decide (¬ r45.2 = 0))) || (decide (¬ r52.2 = 0))) || (decide (¬ r38.1.Kind = 0))) || (decide (¬ r45.1.Kind = 1))) || (decide (¬ r45.1.At = 2))) || (decide (¬ r52.1.Kind = 2))) || (decide (¬ r52.1.At = 0))) then
        some false
        else
        (zcS (za2) 2).bind fun r92 =>
        (zbO (za2) [1, 3]).bind fun r98 =>
        (zb6 fuel (GProblem.mk [(GDomain.mk 0 [2, 3])] (GRules.mk [] [] []))).bind fun r106 =>
        some (((((((((decide (r92.2 = 0)) && (decide (r98.2 = 0))) && (decide (r106.2 = 0))) && (zcB r92.1 [1, 3])) && (decide ((r98.1.Domains.length : Int) = 2))) && (decide ((r98.1.Rules.Pairs.length : Int) = 0))) && (decide ((r98.1.Rules.Loads.length : Int) = 0))) && (decide ((r98.1.Rules.Caps.length : Int) = 1))) && ((u8s r106.1) == ([1, 0, 3, 0, 0, 0] : List UInt8))))))
  (fun k2 =>
    (bif !r11 then
      k2 true
      else
      (zcd (zaZ 14 15 15) 3 1).bind fun r15 =>
      (bif !r15 then
        k2 true
        else
        (zcd (zaZ 15 14 15) 0 0).bind fun r20 =>
        (bif !r20 then
          k2 true
          else
          (zcd (zaZ 16 15 15) 4 0).bind fun r25 =>
          (bif !r25 then
            k2 true
            else
            grd (0 ≤ 2 ∧ 2 ≤ ((zaZ 15 14 15).length : Int)) <|
            (zcd ((zaZ 15 14 15).take 2) 1 2).bind fun r31 =>
            k2 (!r31))))))
theorem zdC (F0 : Frz) (w : World) (hF0 : F0.At w)  (fuel : Nat) (r : Bool) (hr : zcL fuel = some r) : Calls Tryz.prog 10 #[] w fun e w' => e = .returned (.bool r) ∧ Below w.heap.size w w' := by
  have hk := hr; unfold zcL at hk; obtain ⟨S0, F1, rfl, hS0, hp0⟩ := zap hF0; refine zao Tryz.func10 rfl rfl rfl hp0 ?_; refine T.sr ?_; refine TL.run 1 rfl ?_; refine TL.ns (T.seq (T.seq ?_)); have hq := zae hk; clear hk; obtain ⟨r11, hr11, hk⟩ := hq; (try dsimp only at hk); have hq := zag hk; clear hk; obtain ⟨k2, hk2, hk⟩ := hq; (try dsimp only at hk); refine T.ah (ι := Bool × FzB w (fun _ => False) S0) (fun z => [(33, .bool z.1)]) (fun z => [.fr z.2]) (fun z => k2 z.1 = some r ∧ F1.toFrz.Le z.2.toFrz) ?_ ?_
  · refine T.region ?_; refine TL.e (Ew.az 0 rfl rfl rfl rfl (fun w hw hF => zcN _ w hF 14 14 15)) ?_; rintro _ _ ⟨v10_0_0, F3, le1_3, hf10_0_0, hq, rfl⟩; obtain rfl := hq.symm; haveI := hf10_0_0.oneC; refine TL.e (Ew.af rfl rfl rfl (fun w hw => zcV _ w (hw.fr (i := 0) rfl) (zaZ 14 14 15) v10_0_0 hf10_0_0 3 0 r11 hr11)) ?_; rintro _ _ ⟨rfl, rfl⟩; refine TL.run 2 rfl ?_; refine TL.gs rfl rfl rfl (fun h3 => ?_) (fun h3 => ?_)
    · replace hk := zaa hk h3; refine TL.run 20 rfl ?_; refine TL.nil ?_; exact K.ai (true, F3) ⟨hk, le1_3⟩ (.c .nil) (List.Sublist.refl _)
    · replace hk := zab hk h3; refine TL.e (Ew.az 0 rfl rfl rfl rfl (fun w hw hF => zcN _ w hF 14 15 15)) ?_; rintro _ _ ⟨v14_0_0, F4, le3_4, hf14_0_0, hq, rfl⟩; obtain rfl := hq.symm; have le1_4 := le1_3.trans le3_4; haveI := hf14_0_0.oneC; have hq := zae hk; clear hk; obtain ⟨r15, hr15, hk⟩ := hq; refine TL.e (Ew.af rfl rfl rfl (fun w hw => zcV _ w (hw.fr (i := 0) rfl) (zaZ 14 15 15) v14_0_0 hf14_0_0 3 1 r15 hr15)) ?_; rintro _ _ ⟨rfl, rfl⟩; refine TL.run 3 rfl ?_; refine TL.gs rfl rfl rfl (fun h4 => ?_) (fun h4 => ?_)
      · replace hk := zaa hk h4; refine TL.run 15 rfl ?_; refine TL.nil ?_; exact K.ai (true, F4) ⟨hk, le1_4⟩ (.c .nil) (List.Sublist.refl _)
      · replace hk := zab hk h4; refine TL.e (Ew.az 0 rfl rfl rfl rfl (fun w hw hF => zcN _ w hF 15 14 15)) ?_; rintro _ _ ⟨v19_0_0, F5, le4_5, hf19_0_0, hq, rfl⟩; obtain rfl := hq.symm; have le1_5 := le1_4.trans le4_5; haveI := hf19_0_0.oneC; have hq := zae hk; clear hk; obtain ⟨r20, hr20, hk⟩ := hq; refine TL.e (Ew.af rfl rfl rfl (fun w hw => zcV _ w (hw.fr (i := 0) rfl) (zaZ 15 14 15) v19_0_0 hf19_0_0 0 0 r20 hr20)) ?_; rintro _ _ ⟨rfl, rfl⟩; refine TL.run 3 rfl ?_; refine TL.gs rfl rfl rfl (fun h5 => ?_) (fun h5 => ?_)
        · replace hk := zaa hk h5; refine TL.run 10 rfl ?_; refine TL.nil ?_; exact K.ai (true, F5) ⟨hk, le1_5⟩ (.c .nil) (List.Sublist.refl _)
        · replace hk := zab hk h5; refine TL.e (Ew.az 0 rfl rfl rfl rfl (fun w hw hF => zcN _ w hF 16 15 15)) ?_; rintro _ _ ⟨v24_0_0, F6, le5_6, hf24_0_0, hq, rfl⟩; obtain rfl := hq.symm; have le1_6 := le1_5.trans le5_6; haveI := hf24_0_0.oneC; have hq := zae hk; clear hk; obtain ⟨r25, hr25, hk⟩ := hq; refine TL.e (Ew.af rfl rfl rfl (fun w hw => zcV _ w (hw.fr (i := 0) rfl) (zaZ 16 15 15) v24_0_0 hf24_0_0 4 0 r25 hr25)) ?_; rintro _ _ ⟨rfl, rfl⟩; refine TL.run 3 rfl ?_; refine TL.gs rfl rfl rfl (fun h6 => ?_) (fun h6 => ?_)
          · replace hk := zaa hk h6; refine TL.run 5 rfl ?_; refine TL.nil ?_; exact K.ai (true, F6) ⟨hk, le1_6⟩ (.c .nil) (List.Sublist.refl _)
          · replace hk := zab hk h6; refine TL.e (Ew.az 0 rfl rfl rfl rfl (fun w hw hF => zcN _ w hF 15 14 15)) ?_; rintro _ _ ⟨v29_0_0, F7, le6_7, hf29_0_0, hq, rfl⟩; obtain rfl := hq.symm; have le1_7 := le1_6.trans le6_7; haveI := hf29_0_0.oneC; have hq : (0 ≤ 2 ∧ 2 ≤ ((zaZ 15 14 15).length : Int)) ∧ _ := zaB hk; clear hk; obtain ⟨g30h, hk⟩ := hq; refine TL.y (Yv.bI (i := 2) rfl rfl rfl hf29_0_0 (List.length_map _) (show (2 : Int) = ((2 : Nat) : Int) from rfl) (by omega)) ?_; have hs30_ : SlC F7.toFrz (zd8 v29_0_0 0 2 2) 2 (((zaZ 15 14 15).take 2).map GChoice.enc) := hf29_0_0.sliceh (i := 2) (by omega); haveI := hs30_.oneC; have hq := zae hk; clear hk; obtain ⟨r31, hr31, hk⟩ := hq; refine TL.e (Ew.af rfl rfl rfl (fun w hw => zcV _ w (hw.fr (i := 0) rfl) ((zaZ 15 14 15).take 2) (zd8 v29_0_0 0 2 2) hs30_ 1 2 r31 hr31)) ?_; rintro _ _ ⟨rfl, rfl⟩; refine TL.run 2 rfl ?_; refine TL.nil ?_; exact K.ai (!r31, F7) ⟨hk, le1_7⟩ (.c .nil) (List.Sublist.refl _)
  · rintro ⟨x_1, F2⟩ ⟨hk, le1_2⟩; (try dsimp only at *); rw [← hk2] at hk; (try dsimp only at hk); refine T.cond rfl (fun h7 => ?_) (fun h7 => ?_)
    · replace hk := zaa hk h7; refine T.sr ?_; refine TL.run 1 rfl ?_; refine TL.ns (T.ret (K.then_ret ?_)); obtain rfl := Option.some.inj hk; exact K.aj rfl rfl (fun w' hw => ⟨rfl, hw.isBelow⟩)
    · replace hk := zab hk h7; refine T.skip (K.seq (T.seq ?_)); have hq : (0 ≤ 2 ∧ 2 ≤ ((zaZ 15 14 15).length : Int)) ∧ _ := zaB hk; clear hk; obtain ⟨g37h, hk⟩ := hq; have hq := zae hk; clear hk; obtain ⟨r38, hr38, hk⟩ := hq; (try dsimp only at hk); refine T.region ?_; refine TL.e (Ew.az 0 rfl rfl rfl rfl (fun w hw hF => zcG _ w hF )) ?_; rintro _ _ ⟨⟨v35_0_0, cs35_0_0, v35_0_1, v35_0_2, v35_0_3⟩, F8, le2_8, ⟨hf35_0_0, hf35_0_1, hf35_0_2, hf35_0_3⟩, rfl, rfl⟩; dsimp only at hf35_0_0 hf35_0_1 hf35_0_2 hf35_0_3 ⊢; haveI := hf35_0_0.1.oneC; haveI := hf35_0_1.oneC; haveI := hf35_0_2.oneC; haveI := hf35_0_3.oneC; refine TL.e (Ew.az 0 rfl rfl rfl rfl (fun w hw hF => zcN _ w hF 15 14 15)) ?_; rintro _ _ ⟨v36_0_0, F9, le8_9, hf36_0_0, hq, rfl⟩; obtain rfl := hq.symm; haveI := hf36_0_0.oneC; refine TL.y (Yv.bI (i := 2) rfl rfl rfl hf36_0_0 (List.length_map _) (show (2 : Int) = ((2 : Nat) : Int) from rfl) (by omega)) ?_; have hs37_ : SlC F9.toFrz (zd8 v36_0_0 0 2 2) 2 (((zaZ 15 14 15).take 2).map GChoice.enc) := hf36_0_0.sliceh (i := 2) (by omega); haveI := hs37_.oneC; refine TL.e (Ew.af rfl rfl rfl (fun w hw => zcP _ w (hw.fr (i := 0) rfl) (za2) v35_0_0 cs35_0_0 (SlD.mono (rep := GDomain.rep) (fun _ _ _ _ => GDomain.mono) hf35_0_0 le8_9) v35_0_1 (SlC.mono hf35_0_1 le8_9) v35_0_2 (SlC.mono hf35_0_2 le8_9) v35_0_3 (SlC.mono hf35_0_3 le8_9) ((zaZ 15 14 15).take 2) (zd8 v36_0_0 0 2 2) hs37_ r38 hr38)) ?_; rintro _ _ ⟨rfl, rfl⟩; refine TL.run 3 rfl ?_; refine TL.e (Ew.alloc rfl) ?_; rintro _ _ ⟨g1, rfl, rfl⟩; refine TL.e0 (Ew.ae 0 rfl rfl rfl rfl rfl rfl) ?_; rintro _ _ ⟨rfl, rfl⟩; refine TL.run 1 rfl ?_; refine TL.ns (T.seq ?_); have hq := zae hk; clear hk; obtain ⟨r45, hr45, hk⟩ := hq; (try dsimp only at hk); refine T.region ?_; refine TL.e (Ew.az 1 rfl rfl rfl rfl (fun w hw hF => zcG _ w hF )) ?_; rintro _ _ ⟨⟨v42_0_0, cs42_0_0, v42_0_1, v42_0_2, v42_0_3⟩, F10, le9_10, ⟨hf42_0_0, hf42_0_1, hf42_0_2, hf42_0_3⟩, rfl, rfl⟩; dsimp only at hf42_0_0 hf42_0_1 hf42_0_2 hf42_0_3 ⊢; haveI := hf42_0_0.1.oneC; haveI := hf42_0_1.oneC; haveI := hf42_0_2.oneC; haveI := hf42_0_3.oneC; refine TL.y (Yv.build rfl rfl) ?_; refine TL.e (Ew.buildSlice rfl rfl rfl (by decide)) ?_; rintro _ _ ⟨g44, rfl, rfl⟩; refine TL.aw (fun w hw => hw.freezeR (i := 2) (j := 0) (by decide) rfl rfl) ?_; rintro F11 ⟨le10_11, hz11⟩; dsimp only [List.set, List.eraseIdx]; have hf11 : SlC F11.toFrz (.slice (some ⟨g44, 0, none⟩) 1 1) 2 ([(GChoice.mk 3 16)].map GChoice.enc) := (SlK.lit hz11 rfl (Nat.le_refl _) (by decide)).toF (xs := [(GChoice.mk 3 16)]) rfl GChoice.len; refine TL.e (Ew.af rfl rfl rfl (fun w hw => zcP _ w (hw.fr (i := 1) rfl) (za2) v42_0_0 cs42_0_0 (SlD.mono (rep := GDomain.rep) (fun _ _ _ _ => GDomain.mono) hf42_0_0 le10_11) v42_0_1 (SlC.mono hf42_0_1 le10_11) v42_0_2 (SlC.mono hf42_0_2 le10_11) v42_0_3 (SlC.mono hf42_0_3 le10_11) [(GChoice.mk 3 16)] (.slice (some ⟨g44, 0, none⟩) 1 1) hf11 r45 hr45)) ?_; rintro _ _ ⟨rfl, rfl⟩; refine TL.run 3 rfl ?_; refine TL.e (Ew.alloc rfl) ?_; rintro _ _ ⟨g3, rfl, rfl⟩; refine TL.e0 (Ew.ae 0 rfl rfl rfl rfl rfl rfl) ?_; rintro _ _ ⟨rfl, rfl⟩; refine TL.run 1 rfl ?_; refine TL.ns (T.seq ?_); have hq := zae hk; clear hk; obtain ⟨r52, hr52, hk⟩ := hq; (try dsimp only at hk); refine T.region ?_; refine TL.e (Ew.az 2 rfl rfl rfl rfl (fun w hw hF => zcG _ w hF )) ?_; rintro _ _ ⟨⟨v49_0_0, cs49_0_0, v49_0_1, v49_0_2, v49_0_3⟩, F12, le11_12, ⟨hf49_0_0, hf49_0_1, hf49_0_2, hf49_0_3⟩, rfl, rfl⟩; dsimp only at hf49_0_0 hf49_0_1 hf49_0_2 hf49_0_3 ⊢; haveI := hf49_0_0.1.oneC; haveI := hf49_0_1.oneC; haveI := hf49_0_2.oneC; haveI := hf49_0_3.oneC; refine TL.y (Yv.build rfl rfl) ?_; refine TL.e (Ew.buildSlice rfl rfl rfl (by decide)) ?_; rintro _ _ ⟨g51, rfl, rfl⟩; refine TL.aw (fun w hw => hw.freezeR (i := 3) (j := 0) (by decide) rfl rfl) ?_
      rintro F13 ⟨le12_13, hz13⟩; dsimp only [List.set, List.eraseIdx]; have hf13 : SlC F13.toFrz (.slice (some ⟨g51, 0, none⟩) 1 1) 2 ([(GChoice.mk 4 15)].map GChoice.enc) := (SlK.lit hz13 rfl (Nat.le_refl _) (by decide)).toF (xs := [(GChoice.mk 4 15)]) rfl GChoice.len; refine TL.e (Ew.af rfl rfl rfl (fun w hw => zcP _ w (hw.fr (i := 2) rfl) (za2) v49_0_0 cs49_0_0 (SlD.mono (rep := GDomain.rep) (fun _ _ _ _ => GDomain.mono) hf49_0_0 le12_13) v49_0_1 (SlC.mono hf49_0_1 le12_13) v49_0_2 (SlC.mono hf49_0_2 le12_13) v49_0_3 (SlC.mono hf49_0_3 le12_13) [(GChoice.mk 4 15)] (.slice (some ⟨g51, 0, none⟩) 1 1) hf13 r52 hr52)) ?_; rintro _ _ ⟨rfl, rfl⟩; refine TL.run 3 rfl ?_; refine TL.e (Ew.alloc rfl) ?_; rintro _ _ ⟨g5, rfl, rfl⟩; refine TL.e0 (Ew.ae 0 rfl rfl rfl rfl rfl rfl) ?_; rintro _ _ ⟨rfl, rfl⟩; refine TL.run 1 rfl ?_; refine TL.ns (T.seq (T.seq ?_)); refine T.ah (ι := Unit) (fun z => [(89, .bool ((((((((decide (¬ r38.2 = 0)) || (decide (¬ r45.2 = 0))) || (decide (¬ r52.2 = 0))) || (decide (¬ r38.1.Kind = 0))) || (decide (¬ r45.1.Kind = 1))) || (decide (¬ r45.1.At = 2))) || (decide (¬ r52.1.Kind = 2))) || (decide (¬ r52.1.At = 0))))]) (fun z => [.row g5 35 [.int .i64 r52.1.Kind, .int .i64 r52.1.At], .row g3 35 [.int .i64 r45.1.Kind, .int .i64 r45.1.At], .row g1 35 [.int .i64 r38.1.Kind, .int .i64 r38.1.At], .fr F13]) (fun z => True) ?_ ?_
      · refine T.region ?_; refine TL.run 3 rfl ?_; refine TL.gs rfl rfl rfl (fun h8 => ?_) (fun h8 => ?_)
        · have p8 := of_decide_eq_true h8; refine TL.run 32 rfl ?_; refine TL.nil ?_; exact K.ai () trivial (.b (zcp (zcp (zcp (zcp (zcp (zcp (zcp h8))))))).symm .nil) (List.Sublist.refl _)
        · have p8 := of_decide_eq_false h8; refine TL.run 4 rfl ?_; refine TL.gs rfl rfl rfl (fun h9 => ?_) (fun h9 => ?_)
          · have p9 := of_decide_eq_true h9; refine TL.run 28 rfl ?_; refine TL.nil ?_; exact K.ai () trivial (.b (zcp (zcp (zcp (zcp (zcp (zcp (zcI h8 h9))))))).symm .nil) (List.Sublist.refl _)
          · have p9 := of_decide_eq_false h9; refine TL.run 4 rfl ?_; refine TL.gs rfl rfl rfl (fun h10 => ?_) (fun h10 => ?_)
            · have p10 := of_decide_eq_true h10; refine TL.run 24 rfl ?_; refine TL.nil ?_; exact K.ai () trivial (.b (zcp (zcp (zcp (zcp (zcp (zcI (zcI h8 h9) h10)))))).symm .nil) (List.Sublist.refl _)
            · have p10 := of_decide_eq_false h10; refine TL.y (Yv.fieldAddr rfl rfl) ?_; refine TL.y (Yv.aa 2 rfl rfl rfl rfl) ?_; refine TL.run 3 rfl ?_; refine TL.gs rfl rfl rfl (fun h11 => ?_) (fun h11 => ?_)
              · have p11 := of_decide_eq_true h11; refine TL.run 19 rfl ?_; refine TL.nil ?_; exact K.ai () trivial (.b (zcp (zcp (zcp (zcp (zcI (zcI (zcI h8 h9) h10) h11))))).symm .nil) (List.Sublist.refl _)
              · have p11 := of_decide_eq_false h11; refine TL.y (Yv.fieldAddr rfl rfl) ?_; refine TL.y (Yv.aa 1 rfl rfl rfl rfl) ?_; refine TL.run 3 rfl ?_; refine TL.gs rfl rfl rfl (fun h12 => ?_) (fun h12 => ?_)
                · have p12 := of_decide_eq_true h12; refine TL.run 14 rfl ?_; refine TL.nil ?_; exact K.ai () trivial (.b (zcp (zcp (zcp (zcI (zcI (zcI (zcI h8 h9) h10) h11) h12)))).symm .nil) (List.Sublist.refl _)
                · have p12 := of_decide_eq_false h12; refine TL.y (Yv.fieldAddr rfl rfl) ?_; refine TL.y (Yv.aa 1 rfl rfl rfl rfl) ?_; refine TL.run 3 rfl ?_; refine TL.gs rfl rfl rfl (fun h13 => ?_) (fun h13 => ?_)
                  · have p13 := of_decide_eq_true h13; refine TL.run 9 rfl ?_; refine TL.nil ?_; exact K.ai () trivial (.b (zcp (zcp (zcI (zcI (zcI (zcI (zcI h8 h9) h10) h11) h12) h13))).symm .nil) (List.Sublist.refl _)
                  · have p13 := of_decide_eq_false h13; refine TL.y (Yv.fieldAddr rfl rfl) ?_; refine TL.y (Yv.aa 0 rfl rfl rfl rfl) ?_; refine TL.run 3 rfl ?_; refine TL.gs rfl rfl rfl (fun h14 => ?_) (fun h14 => ?_)
                    · have p14 := of_decide_eq_true h14; refine TL.run 4 rfl ?_; refine TL.nil ?_; exact K.ai () trivial (.b (zcp (zcI (zcI (zcI (zcI (zcI (zcI h8 h9) h10) h11) h12) h13) h14)).symm .nil) (List.Sublist.refl _)
                    · have p14 := of_decide_eq_false h14; refine TL.y (Yv.fieldAddr rfl rfl) ?_; refine TL.y (Yv.aa 0 rfl rfl rfl rfl) ?_; refine TL.run 2 rfl ?_; refine TL.nil ?_; exact K.ai () trivial (.b (or_f (zcI (zcI (zcI (zcI (zcI (zcI h8 h9) h10) h11) h12) h13) h14)) .nil) (List.Sublist.refl _)
      · rintro _ _; refine T.cond rfl (fun h15 => ?_) (fun h15 => ?_)
        · replace hk := zaa hk h15; refine T.sr ?_; refine TL.run 1 rfl ?_; refine TL.ns (T.ret (K.then_ret ?_)); obtain rfl := Option.some.inj hk; exact K.aj rfl rfl (fun w' hw => ⟨rfl, hw.isBelow⟩)
        · have p15 := h15; (try simp only [nfB] at p15); replace hk := zab hk h15; refine T.skip (K.seq (T.seq ?_)); have hq := zae hk; clear hk; obtain ⟨r92, hr92, hk⟩ := hq; (try dsimp only at hk); refine T.region ?_; refine TL.e (Ew.az 3 rfl rfl rfl rfl (fun w hw hF => zcG _ w hF )) ?_; rintro _ _ ⟨⟨v91_0_0, cs91_0_0, v91_0_1, v91_0_2, v91_0_3⟩, F14, le13_14, ⟨hf91_0_0, hf91_0_1, hf91_0_2, hf91_0_3⟩, rfl, rfl⟩; dsimp only at hf91_0_0 hf91_0_1 hf91_0_2 hf91_0_3 ⊢; haveI := hf91_0_0.1.oneC; haveI := hf91_0_1.oneC; haveI := hf91_0_2.oneC; haveI := hf91_0_3.oneC; refine TL.e (Ew.az 3 rfl rfl rfl rfl (fun w hw hF => zd4 _ w hF (za2) v91_0_0 cs91_0_0 hf91_0_0 v91_0_1 hf91_0_1 v91_0_2 hf91_0_2 v91_0_3 hf91_0_3 2 r92 hr92)) ?_; rintro _ _ ⟨v92_0_0, F15, le14_15, hf92_0_0, rfl, rfl⟩; haveI := hf92_0_0.oneC; refine TL.run 5 rfl ?_; refine TL.ns (T.seq ?_); have hq := zae hk; clear hk; obtain ⟨r98, hr98, hk⟩ := hq; (try dsimp only at hk); refine T.region ?_; refine TL.e (Ew.az 3 rfl rfl rfl rfl (fun w hw hF => zcG _ w hF )) ?_; rintro _ _ ⟨⟨v96_0_0, cs96_0_0, v96_0_1, v96_0_2, v96_0_3⟩, F16, le15_16, ⟨hf96_0_0, hf96_0_1, hf96_0_2, hf96_0_3⟩, rfl, rfl⟩; dsimp only at hf96_0_0 hf96_0_1 hf96_0_2 hf96_0_3 ⊢; haveI := hf96_0_0.1.oneC; haveI := hf96_0_1.oneC; haveI := hf96_0_2.oneC; haveI := hf96_0_3.oneC; refine TL.e (Ew.buildSlice rfl rfl rfl (by decide)) ?_; rintro _ _ ⟨g97, rfl, rfl⟩; refine TL.aw (fun w hw => hw.freezeR (i := 4) (j := 0) (by decide) rfl rfl) ?_; rintro F17 ⟨le16_17, hz17⟩; dsimp only [List.set, List.eraseIdx]; have le15_17 := le15_16.trans le16_17; have hf17 : SlC F17.toFrz (.slice (some ⟨g97, 0, none⟩) 2 2) 1 ([1, 3].map eI) := (SlK.lit hz17 rfl (Nat.le_refl _) (by decide)).toF (xs := [1, 3]) rfl (fun _ => rfl); refine TL.e (Ew.az 3 rfl rfl rfl rfl (fun w hw hF => zdm _ w hF (za2) v96_0_0 cs96_0_0 (SlD.mono (rep := GDomain.rep) (fun _ _ _ _ => GDomain.mono) hf96_0_0 le16_17) v96_0_1 (SlC.mono hf96_0_1 le16_17) v96_0_2 (SlC.mono hf96_0_2 le16_17) v96_0_3 (SlC.mono hf96_0_3 le16_17) [1, 3] (.slice (some ⟨g97, 0, none⟩) 2 2) hf17 r98 hr98)) ?_; rintro _ _ ⟨⟨v98_0_0, cs98_0_0, v98_0_1, v98_0_2, v98_0_3⟩, F18, le17_18, ⟨hf98_0_0, hf98_0_1, hf98_0_2, hf98_0_3⟩, rfl, rfl⟩; dsimp only at hf98_0_0 hf98_0_1 hf98_0_2 hf98_0_3 ⊢; have le15_18 := le15_17.trans le17_18; haveI := hf98_0_0.1.oneC; haveI := hf98_0_1.oneC; haveI := hf98_0_2.oneC; haveI := hf98_0_3.oneC; refine TL.run 3 rfl ?_; refine TL.e (Ew.alloc rfl) ?_; rintro _ _ ⟨g8, rfl, rfl⟩; refine TL.e0 (Ew.ae 0 rfl rfl rfl rfl rfl rfl) ?_; rintro _ _ ⟨rfl, rfl⟩; refine TL.run 1 rfl ?_; refine TL.ns (T.seq ?_); have hq := zae hk; clear hk; obtain ⟨r106, hr106, hk⟩ := hq; (try dsimp only at hk); refine T.region ?_; refine TL.e (Ew.buildSlice rfl rfl rfl (by decide)) ?_; rintro _ _ ⟨g102, rfl, rfl⟩; refine TL.aw (fun w hw => hw.freezeR (i := 5) (j := 0) (by decide) rfl rfl) ?_; rintro F19 ⟨le18_19, hz19⟩; dsimp only [List.set, List.eraseIdx]; have le15_19 := le15_18.trans le18_19; have hf19 : SlC F19.toFrz (.slice (some ⟨g102, 0, none⟩) 2 2) 1 ([2, 3].map eI) := (SlK.lit hz19 rfl (Nat.le_refl _) (by decide)).toF (xs := [2, 3]) rfl (fun _ => rfl); refine TL.y (Yv.build rfl rfl) ?_; refine TL.e (Ew.buildSlice rfl rfl rfl (by decide)) ?_; rintro _ _ ⟨g104, rfl, rfl⟩; have hl104 : OwnD GDomain.rep F19.toFrz 2 [[.int .i64 0, (.slice (some ⟨g102, 0, none⟩) 2 2)]] [(GDomain.mk 0 [2, 3])] := (OwnD.snoc (OwnD.nil _ _ 2) ⟨_, rfl, hf19⟩ rfl); refine TL.aw (fun w hw => hw.freezeR (i := 5) (j := 0) (by decide) rfl rfl) ?_; rintro F20 ⟨le19_20, hz20⟩; dsimp only [List.set, List.eraseIdx]; have le15_20 := le15_19.trans le19_20; have le18_20 := le18_19.trans le19_20; have hf20 : SlD GDomain.rep F20.toFrz (.slice (some ⟨g104, 0, none⟩) 1 1) 2 [[.int .i64 0, (.slice (some ⟨g102, 0, none⟩) 2 2)]] [(GDomain.mk 0 [2, 3])] := (SlK.lit hz20 rfl (Nat.le_refl _) (by decide)).toD (OwnD.mono (rep := GDomain.rep) (fun _ _ _ _ => GDomain.mono) hl104 le19_20) rfl; refine TL.y (Yv.build rfl rfl) ?_; refine TL.e (Ew.az 4 rfl rfl rfl rfl (fun w hw hF => zdH _ w hF (GProblem.mk [(GDomain.mk 0 [2, 3])] (GRules.mk [] [] [])) (.slice (some ⟨g104, 0, none⟩) 1 1) [[.int .i64 0, (.slice (some ⟨g102, 0, none⟩) 2 2)]] hf20 (.slice none 0 0) (SlC.nil _ 5) (.slice none 0 0) (SlC.nil _ 5) (.slice none 0 0) (SlC.nil _ 4) fuel r106 hr106)) ?_; rintro _ _ ⟨v106_0_0, F21, le20_21, hf106_0_0, rfl, rfl⟩; have le15_21 := le15_20.trans le20_21; have le18_21 := le18_20.trans le20_21; haveI := hf106_0_0.oneC; refine TL.run 5 rfl ?_; refine TL.ns (T.seq ?_); refine T.ah (ι := FzB w (fun _ => False) S0) (fun z => [(0, .bool (((((((((decide (r92.2 = 0)) && (decide (r98.2 = 0))) && (decide (r106.2 = 0))) && (zcB r92.1 [1, 3])) && (decide ((r98.1.Domains.length : Int) = 2))) && (decide ((r98.1.Rules.Pairs.length : Int) = 0))) && (decide ((r98.1.Rules.Loads.length : Int) = 0))) && (decide ((r98.1.Rules.Caps.length : Int) = 1))) && ((u8s r106.1) == ([1, 0, 3, 0, 0, 0] : List UInt8))))]) (fun z => [.row g8 29 [v98_0_0, v98_0_1, v98_0_2, v98_0_3], .row g5 35 [.int .i64 r52.1.Kind, .int .i64 r52.1.At], .row g3 35 [.int .i64 r45.1.Kind, .int .i64 r45.1.At], .row g1 35 [.int .i64 r38.1.Kind, .int .i64 r38.1.At], .fr z]) (fun z => F21.toFrz.Le z.toFrz) ?_ ?_
          · refine T.region ?_; refine TL.run 3 rfl ?_; refine TL.gs rfl rfl rfl (fun h16 => ?_) (fun h16 => ?_)
            · have p16 := of_decide_eq_true h16; refine TL.run 4 rfl ?_; refine TL.gs rfl rfl rfl (fun h17 => ?_) (fun h17 => ?_)
              · have p17 := of_decide_eq_true h17; refine TL.run 4 rfl ?_; refine TL.gs rfl rfl rfl (fun h18 => ?_) (fun h18 => ?_)
                · have p18 := of_decide_eq_true h18; refine TL.run 1 rfl ?_; refine TL.e (Ew.buildSlice rfl rfl rfl (by decide)) ?_; rintro _ _ ⟨g121, rfl, rfl⟩; refine TL.aw (fun w hw => hw.freezeR (i := 5) (j := 0) (by decide) rfl rfl) ?_; rintro F23 ⟨le21_23, hz23⟩; dsimp only [List.set, List.eraseIdx]; have le15_23 := le15_21.trans le21_23; have le18_23 := le18_21.trans le21_23; have hf23 : SlC F23.toFrz (.slice (some ⟨g121, 0, none⟩) 2 2) 1 ([1, 3].map eI) := (SlK.lit hz23 rfl (Nat.le_refl _) (by decide)).toF (xs := [1, 3]) rfl (fun _ => rfl); refine TL.e (Ew.af rfl rfl rfl (fun w hw => zeY _ w (hw.fr (i := 4) rfl) r92.1 v92_0_0 (SlC.mono hf92_0_0 le15_23) [1, 3] (.slice (some ⟨g121, 0, none⟩) 2 2) hf23)) ?_; rintro _ _ ⟨rfl, rfl⟩; refine TL.run 2 rfl ?_; refine TL.gs rfl rfl rfl (fun h19 => ?_) (fun h19 => ?_)
                  · refine TL.y (Yv.fieldAddr rfl rfl) ?_; refine TL.y (Yv.aa 0 rfl rfl rfl rfl) ?_; refine TL.y (Yv.am rfl rfl (SlD.mono (rep := GDomain.rep) (fun _ _ _ _ => GDomain.mono) hf98_0_0 le18_23).1 (SlD.mono (rep := GDomain.rep) (fun _ _ _ _ => GDomain.mono) hf98_0_0 le18_23).2.1) ?_; have hm127 : r98.1.Domains.length ≤ 9223372036854775807 := (SlD.mono (rep := GDomain.rep) (fun _ _ _ _ => GDomain.mono) hf98_0_0 le18_23).2.1 ▸ (SlD.mono (rep := GDomain.rep) (fun _ _ _ _ => GDomain.mono) hf98_0_0 le18_23).1.max; refine TL.run 3 rfl ?_; refine TL.gs rfl rfl rfl (fun h20 => ?_) (fun h20 => ?_)
                    · have p20 := of_decide_eq_true h20; refine TL.y (Yv.fieldAddr rfl rfl) ?_; refine TL.y (Yv.fieldAddr rfl rfl) ?_; refine TL.y (Yv.aa 0 rfl rfl rfl rfl) ?_; refine TL.y (Yv.am rfl rfl (SlC.mono hf98_0_1 le18_23) (List.length_map _)) ?_; have hm134 : r98.1.Rules.Pairs.length ≤ 9223372036854775807 := (List.length_map _) ▸ (SlC.mono hf98_0_1 le18_23).max; refine TL.run 3 rfl ?_; refine TL.gs rfl rfl rfl (fun h21 => ?_) (fun h21 => ?_)
                      · have p21 := of_decide_eq_true h21; refine TL.y (Yv.fieldAddr rfl rfl) ?_; refine TL.y (Yv.fieldAddr rfl rfl) ?_; refine TL.y (Yv.aa 0 rfl rfl rfl rfl) ?_; refine TL.y (Yv.am rfl rfl (SlC.mono hf98_0_2 le18_23) (List.length_map _)) ?_; have hm141 : r98.1.Rules.Loads.length ≤ 9223372036854775807 := (List.length_map _) ▸ (SlC.mono hf98_0_2 le18_23).max; refine TL.run 3 rfl ?_; refine TL.gs rfl rfl rfl (fun h22 => ?_) (fun h22 => ?_)
                        · have p22 := of_decide_eq_true h22; refine TL.y (Yv.fieldAddr rfl rfl) ?_; refine TL.y (Yv.fieldAddr rfl rfl) ?_; refine TL.y (Yv.aa 0 rfl rfl rfl rfl) ?_; refine TL.y (Yv.am rfl rfl (SlC.mono hf98_0_3 le18_23) (List.length_map _)) ?_; have hm148 : r98.1.Rules.Caps.length ≤ 9223372036854775807 := (List.length_map _) ▸ (SlC.mono hf98_0_3 le18_23).max; refine TL.run 3 rfl ?_; refine TL.gs rfl rfl rfl (fun h23 => ?_) (fun h23 => ?_)
                          · have p23 := of_decide_eq_true h23; refine TL.run 1 rfl ?_; refine TL.y (Yv.bZ 4 (e := 5) (by kernel_rfl) (by kernel_rfl) (by kernel_rfl) rfl rfl rfl (SlC.mono hf106_0_0 le21_23)) ?_; refine TL.y (Yv.bT (a := (u8s r106.1)) (b := ([1, 0, 3, 0, 0, 0] : List UInt8)) rfl rfl rfl) ?_; refine TL.run 2 rfl ?_; refine TL.nil ?_; exact K.ai F23 le21_23 (.b (zdw (za0 (za0 (za0 (za0 (za0 (za0 (za0 h16 h17) h18) h19) h20) h21) h22) h23)) .nil) (List.Sublist.refl _)
                          · have p23 := of_decide_eq_false h23; refine TL.run 5 rfl ?_; refine TL.nil ?_; exact K.ai F23 le21_23 (.b (zaC (za0 (za0 (za0 (za0 (za0 (za0 (za0 h16 h17) h18) h19) h20) h21) h22) h23)).symm .nil) (List.Sublist.refl _)
                        · have p22 := of_decide_eq_false h22; refine TL.run 12 rfl ?_; refine TL.nil ?_; exact K.ai F23 le21_23 (.b (zaC (zaC (za0 (za0 (za0 (za0 (za0 (za0 h16 h17) h18) h19) h20) h21) h22))).symm .nil) (List.Sublist.refl _)
                      · have p21 := of_decide_eq_false h21; refine TL.run 19 rfl ?_; refine TL.nil ?_; exact K.ai F23 le21_23 (.b (zaC (zaC (zaC (za0 (za0 (za0 (za0 (za0 h16 h17) h18) h19) h20) h21)))).symm .nil) (List.Sublist.refl _)
                    · have p20 := of_decide_eq_false h20; refine TL.run 26 rfl ?_; refine TL.nil ?_; exact K.ai F23 le21_23 (.b (zaC (zaC (zaC (zaC (za0 (za0 (za0 (za0 h16 h17) h18) h19) h20))))).symm .nil) (List.Sublist.refl _)
                  · refine TL.run 32 rfl ?_; refine TL.nil ?_; exact K.ai F23 le21_23 (.b (zaC (zaC (zaC (zaC (zaC (za0 (za0 (za0 h16 h17) h18) h19)))))).symm .nil) (List.Sublist.refl _)
                · have p18 := of_decide_eq_false h18; refine TL.run 37 rfl ?_; refine TL.nil ?_; exact K.ai F21 (Frz.Le.refl _) (.b (zaC (zaC (zaC (zaC (zaC (zaC (za0 (za0 h16 h17) h18))))))).symm .nil) (List.Sublist.refl _)
              · have p17 := of_decide_eq_false h17; refine TL.run 41 rfl ?_; refine TL.nil ?_; exact K.ai F21 (Frz.Le.refl _) (.b (zaC (zaC (zaC (zaC (zaC (zaC (zaC (za0 h16 h17)))))))).symm .nil) (List.Sublist.refl _)
            · have p16 := of_decide_eq_false h16; refine TL.run 45 rfl ?_; refine TL.nil ?_; exact K.ai F21 (Frz.Le.refl _) (.b (zaC (zaC (zaC (zaC (zaC (zaC (zaC (zaC h16)))))))).symm .nil) (List.Sublist.refl _)
          · rintro F22 le21_22; (try dsimp only at *); refine T.ret ?_; obtain rfl := Option.some.inj hk; exact K.aj rfl rfl (fun w' hw => ⟨rfl, hw.isBelow⟩)
def zcK (r_ : GRules) (at_ : Int) (more : Int) : Option GRules :=
  zaW (fun (s4 : List GPair × List GLoad × List GCap) =>
    zaW (fun (s15 : List GPair × List GLoad × List GCap) =>
      zaW (fun (s26 : List GPair × List GLoad × List GCap) =>
        some (GRules.mk s26.1 s26.2.1 s26.2.2))
      (fun k26 =>
        zal (fun (i_31 : Nat) (next30 : (List GPair × List GLoad × List GCap) → Option GRules) (s30 : List GPair × List GLoad × List GCap) =>
          zaW (fun (x_33 : Bool) =>
            zaW (fun (s42 : Int × Int × Int × Int) =>
              grd (room (s30.2.2 ++ [(GCap.mk s42.1 s42.2.1 s42.2.2.1 s42.2.2.2)]).length 32) <|
              next30 (s30.1, s30.2.1, (s30.2.2 ++ [(GCap.mk s42.1 s42.2.1 s42.2.2.1 s42.2.2.2)])))
            (fun k42 =>
              (bif x_33 then
                k42 ((nth r_.Caps i_31).Station, wI (((nth r_.Caps i_31).Max) + more), (nth r_.Caps i_31).Low, (nth r_.Caps i_31).High)
                else
                k42 ((nth r_.Caps i_31).Station, (nth r_.Caps i_31).Max, (nth r_.Caps i_31).Low, (nth r_.Caps i_31).High))))
          (fun k34 =>
            (bif decide ((i_31 : Int) = at_) then
              (bif decide (wI (((nth r_.Caps i_31).Max) + more) ≤ 1099511627776) then
                (bif decide (((i_31 : Int) + 1) = (r_.Caps.length : Int)) then
                  k34 true
                  else
                  grd (0 ≤ ((i_31 : Int) + 1) ∧ ((i_31 : Int) + 1) < (r_.Caps.length : Int)) <|
                  k34 (decide (¬ (nth r_.Caps (i_31 + 1)).Station = (nth r_.Caps i_31).Station)))
                else
                k34 false)
              else
              k34 false)))
        (fun (s30 : List GPair × List GLoad × List GCap) =>
          k26 (s30.1, s30.2.1, s30.2.2)) (r_.Caps.length - 0) 0 (s15.1, s15.2.1, s15.2.2)))
    (fun k15 =>
      zal (fun (i_20 : Nat) (next19 : (List GPair × List GLoad × List GCap) → Option GRules) (s19 : List GPair × List GLoad × List GCap) =>
        (bif decide (¬ (i_20 : Int) = at_) then
          grd (room (s19.2.1 ++ [(nth r_.Loads i_20)]).length 40) <|
          next19 (s19.1, (s19.2.1 ++ [(nth r_.Loads i_20)]), s19.2.2)
          else
          next19 (s19.1, s19.2.1, s19.2.2)))
      (fun (s19 : List GPair × List GLoad × List GCap) =>
        k15 (s19.1, s19.2.1, s19.2.2)) (r_.Loads.length - 0) 0 (s4.1, s4.2.1, s4.2.2)))
  (fun k4 =>
    zal (fun (i_9 : Nat) (next8 : (List GPair × List GLoad × List GCap) → Option GRules) (s8 : List GPair × List GLoad × List GCap) =>
      (bif decide (¬ (i_9 : Int) = at_) then
        grd (room (s8.1 ++ [(nth r_.Pairs i_9)]).length 40) <|
        next8 ((s8.1 ++ [(nth r_.Pairs i_9)]), s8.2.1, s8.2.2)
        else
        next8 (s8.1, s8.2.1, s8.2.2)))
    (fun (s8 : List GPair × List GLoad × List GCap) =>
      k4 (s8.1, s8.2.1, s8.2.2)) (r_.Pairs.length - 0) 0 ([], [], []))
theorem zfg (F0 : Frz) (w : World) (hF0 : F0.At w) (r_ : GRules) (vr__0 : Value) (hr__0 : SlC F0 vr__0 5 (r_.Pairs.map GPair.enc)) (vr__1 : Value) (hr__1 : SlC F0 vr__1 5 (r_.Loads.map GLoad.enc)) (vr__2 : Value) (hr__2 : SlC F0 vr__2 4 (r_.Caps.map GCap.enc)) (at_ : Int) (more : Int) (r : GRules) (hr : zcK r_ at_ more = some r) : Calls Tryz.prog 33 #[.agg [vr__0, vr__1, vr__2].toArray, .int .i64 at_, .int .i64 more] w fun e w' => ∃ (y : Value × Value × Value) (G : Frz), (SlC G y.1 5 (r.Pairs.map GPair.enc) ∧ SlC G y.2.1 5 (r.Loads.map GLoad.enc) ∧ SlC G y.2.2 4 (r.Caps.map GCap.enc)) ∧ e = .returned (.agg [y.1, y.2.1, y.2.2].toArray) ∧ Fx F0 w G w' := by
  have hk := hr; unfold zcK at hk; haveI := hr__0.oneC; haveI := hr__1.oneC; haveI := hr__2.oneC; obtain ⟨S0, F1, rfl, hS0, hp0⟩ := zap hF0; refine zao Tryz.func33 rfl rfl rfl hp0 ?_; refine T.sr ?_; refine TL.e (Ew.au rfl rfl) ?_; rintro _ _ ⟨g3, rfl, rfl⟩; refine TL.e (Ew.alloc rfl) ?_; rintro _ _ ⟨g6, rfl, rfl⟩; refine TL.nx ?_; refine TL.e (Ew.alloc rfl) ?_; rintro _ _ ⟨g7, rfl, rfl⟩; refine TL.slNil 68 5 ?_; refine TL.slNil 70 5 ?_; refine TL.slNil 72 4 ?_; refine TL.ns (T.seq (T.sr ?_)); refine TL.run 1 rfl ?_; refine TL.ns ?_; have hq := zag hk; clear hk; obtain ⟨k4, hk4, hk⟩ := hq; (try dsimp only at hk); refine T.ah (ι := List GPair × Value × List GLoad × Value × List GCap × Value) (fun z => [(1, .int .i64 at_), (2, .int .i64 more), (3, .pointer (some ⟨g3, 0, none⟩)), (6, .pointer (some ⟨g6, 0, none⟩)), (7, .pointer (some ⟨g7, 0, none⟩))]) (fun z => [.sl z.2.1 68 5 z.1.length (z.1.flatMap GPair.enc), .sl z.2.2.2.1 70 5 z.2.2.1.length (z.2.2.1.flatMap GLoad.enc), .sl z.2.2.2.2.2 72 4 z.2.2.2.2.1.length (z.2.2.2.2.1.flatMap GCap.enc), .row g7 27 [z.2.1, z.2.2.2.1, z.2.2.2.2.2], .row g6 27 [(.slice none 0 0), (.slice none 0 0), (.slice none 0 0)], .row g3 27 [vr__0, vr__1, vr__2], .fr F1]) (fun z => k4 (z.1, z.2.2.1, z.2.2.2.2.1) = some r ∧ OneC z.2.1 ∧ OneC z.2.2.2.1 ∧ OneC z.2.2.2.2.2) ?_ ?_
  · have hq := zaq hk; clear hk; obtain ⟨f8, kk8, hf8, hkk8, hk⟩ := hq; refine T.block ?_; refine T.pick [2, 1, 0, 3, 4, 5, 6] rfl (by decide) ?_; refine T.loop (ι := Nat × List GPair × Value × List GLoad × Value × List GCap × Value) (fun z => [(1, .int .i64 at_), (2, .int .i64 more), (3, .pointer (some ⟨g3, 0, none⟩)), (6, .pointer (some ⟨g6, 0, none⟩)), (7, .pointer (some ⟨g7, 0, none⟩)), (8, .int .i64 (z.1 : Int))]) (fun z => [.sl z.2.2.1 68 5 z.2.1.length (z.2.1.flatMap GPair.enc), .sl z.2.2.2.2.1 70 5 z.2.2.2.1.length (z.2.2.2.1.flatMap GLoad.enc), .sl z.2.2.2.2.2.2 72 4 z.2.2.2.2.2.1.length (z.2.2.2.2.2.1.flatMap GCap.enc), .row g7 27 [z.2.2.1, z.2.2.2.2.1, z.2.2.2.2.2.2], .row g6 27 [(.slice none 0 0), (.slice none 0 0), (.slice none 0 0)], .row g3 27 [vr__0, vr__1, vr__2], .fr F1]) (fun z => zal f8 kk8 (r_.Pairs.length - z.1) z.1 (z.2.1, z.2.2.2.1, z.2.2.2.2.2.1) = some r ∧ OneC z.2.2.1 ∧ OneC z.2.2.2.2.1 ∧ OneC z.2.2.2.2.2.2) (fun z => r_.Pairs.length - z.1) (0, [], (.slice none 0 0), [], (.slice none 0 0), [], (.slice none 0 0)) ?_ ?_ ?_ ?_
    · exact ⟨hk, inferInstance, inferInstance, inferInstance⟩
    · exact (.c (.c (.c (.c (.c (.c .nil))))))
    · exact List.Sublist.refl _
    · rintro ⟨i_9, c_5, vc_5, c_6, vc_6, c_7, vc_7⟩ ⟨hk, oc_5, oc_6, oc_7⟩; (try dsimp only at *); refine T.seq (T.sr ?_); refine TL.run 1 rfl ?_; refine TL.y (Yv.fieldAddr rfl rfl) ?_; refine TL.y (Yv.aa 5 rfl rfl rfl rfl) ?_; refine TL.y (Yv.am rfl rfl hr__0 (List.length_map _)) ?_; have hm15 : r_.Pairs.length ≤ 9223372036854775807 := (List.length_map _) ▸ hr__0.max; refine TL.run 1 rfl ?_; refine TL.ns ?_; refine T.cond rfl (fun h10 => ?_) (fun h10 => ?_)
      · have p10 := of_decide_eq_true h10; rw [zaD (by omega)] at hk; generalize hn8 : zal f8 kk8 (r_.Pairs.length - (i_9 + 1)) (i_9 + 1) = next8 at hk; rw [← hf8] at hk; (try dsimp only at hk); refine T.skip (K.seq (T.seq (T.block (T.sr ?_)))); refine TL.run 3 rfl ?_; refine TL.ns ?_; refine T.cond rfl (fun h11 => ?_) (fun h11 => ?_)
        · have p11 := of_decide_eq_true h11; replace hk := zaa hk h11; have hq : (room (c_5 ++ [(nth r_.Pairs i_9)]).length 40) ∧ _ := zaB hk; clear hk; obtain ⟨g30, hk⟩ := hq; (try dsimp only at hk); refine T.ay (.still 0 (.still 2 (.still 3 (.still 4 (.still 5 (.still 6 (.two 1 7 (.eff 7 (.eff 8 (.still 9 (.eff 10 .done)))) (.eff 1 (.eff 8 (.still 9 (.eff 10 .done))))))))))) [.sl vc_6 70 5 c_6.length (c_6.flatMap GLoad.enc), .sl vc_7 72 4 c_7.length (c_7.flatMap GCap.enc), .row g6 27 [(.slice none 0 0), (.slice none 0 0), (.slice none 0 0)], .row g3 27 [vr__0, vr__1, vr__2], .fr F1] (by kernel_rfl) Sx ?_; refine TS.y rfl (Yv.fieldAddr rfl rfl) ?_; refine TS.y rfl (Yv.fieldAddr rfl rfl) ?_; refine TS.y rfl (Yv.aa 3 rfl rfl rfl rfl) ?_; refine TS.run 1 rfl ?_; refine TS.y rfl (Yv.ar (i := i_9) rfl rfl rfl hr__0 (List.length_map _) rfl (by omega)) ?_; refine TS.y rfl (Yv.ao 4 (i := i_9) rfl rfl rfl hr__0 (by omega) rfl rfl rfl) ?_; refine TS.two ?_ ?_
          · refine TSo.aV rfl (Wt.none rfl) rfl rfl (Yv.aa 3 rfl rfl rfl rfl) (fun w hw => hw.sub Sx) ?_; refine TS.eff ?_; refine TSo.av rfl (Wt.none rfl) rfl rfl (Ew.buildSlice rfl rfl rfl (by decide)) ?_; rintro _ _ ⟨g29, rfl, rfl⟩; refine ⟨(fun w hw => hw.sub Sx), ?_⟩; refine TS.eff ?_; refine TSo.av rfl (Wt.none rfl) rfl rfl (Ew.as 1 0 rfl rfl rfl rfl rfl rfl (zcc (ys := [(nth r_.Pairs i_9)]) rfl) (zcb (enc := GPair.enc) (xs := c_5) (ys := [(nth r_.Pairs i_9)])) g30 (by decide)) ?_; rintro v30 _ ⟨hv30, rfl⟩; refine ⟨(fun w hw => hw.sub Sx), ?_⟩; refine TS.y rfl (Yv.fieldAddr rfl rfl) ?_; refine TS.eff ?_; refine TSo.aO rfl (Wt.none rfl) rfl (Ew.an 4 rfl rfl rfl rfl (by simp)) ?_; rintro _ _ ⟨rfl, rfl⟩; refine ⟨(fun w hw => hw.sub Sx), ?_⟩; refine TS.done ?_; refine K.ac (K.seq (T.region ?_)); refine TL.run 1 rfl ?_; refine TL.y (Yv.aq rfl rfl rfl (by omega)) ?_; refine TL.run 1 rfl ?_; refine TL.nil ?_; rw [← hn8] at hk; refine K.pick [1, 2, 3, 4, 5, 6, 7] rfl (by decide) ?_; exact K.next ((i_9 + 1), (c_5 ++ [(nth r_.Pairs i_9)]), v30, c_6, vc_6, c_7, vc_7) ⟨hk, inferInstance, inferInstance, inferInstance⟩ (by dsimp only; omega) (.c (.c (.c (.c (.c (.c .nil)))))) (List.Sublist.refl _)
          · refine TSo.av rfl (Wt.none rfl) rfl rfl (Ew.buildSlice rfl rfl rfl (by decide)) ?_; rintro _ _ ⟨g29, rfl, rfl⟩; refine ⟨(fun w hw => hw.sub Sx), ?_⟩; refine TS.eff ?_; refine TSo.aV rfl (Wt.none rfl) rfl rfl (Yv.aa 4 rfl rfl rfl rfl) (fun w hw => hw.sub Sx) ?_; refine TS.eff ?_; refine TSo.av rfl (Wt.none rfl) rfl rfl (Ew.as 1 0 rfl rfl rfl rfl rfl rfl (zcc (ys := [(nth r_.Pairs i_9)]) rfl) (zcb (enc := GPair.enc) (xs := c_5) (ys := [(nth r_.Pairs i_9)])) g30 (by decide)) ?_; rintro v30 _ ⟨hv30, rfl⟩; refine ⟨(fun w hw => hw.sub Sx), ?_⟩; refine TS.y rfl (Yv.fieldAddr rfl rfl) ?_; refine TS.eff ?_; refine TSo.aO rfl (Wt.none rfl) rfl (Ew.an 4 rfl rfl rfl rfl (by simp)) ?_; rintro _ _ ⟨rfl, rfl⟩; refine ⟨(fun w hw => hw.sub Sx), ?_⟩; refine TS.done ?_; refine K.ac (K.seq (T.region ?_)); refine TL.run 1 rfl ?_; refine TL.y (Yv.aq rfl rfl rfl (by omega)) ?_; refine TL.run 1 rfl ?_; refine TL.nil ?_; rw [← hn8] at hk; refine K.pick [1, 2, 3, 4, 5, 6, 7] rfl (by decide) ?_; exact K.next ((i_9 + 1), (c_5 ++ [(nth r_.Pairs i_9)]), v30, c_6, vc_6, c_7, vc_7) ⟨hk, inferInstance, inferInstance, inferInstance⟩ (by dsimp only; omega) (.c (.c (.c (.c (.c (.c .nil)))))) (List.Sublist.refl _)
        · have p11 := of_decide_eq_false h11; replace hk := zab hk h11; refine T.skip (K.ac (K.seq (T.region ?_))); refine TL.run 1 rfl ?_; refine TL.y (Yv.aq rfl rfl rfl (by omega)) ?_; refine TL.run 1 rfl ?_; refine TL.nil ?_; rw [← hn8] at hk; exact K.next ((i_9 + 1), c_5, vc_5, c_6, vc_6, c_7, vc_7) ⟨hk, inferInstance, inferInstance, inferInstance⟩ (by dsimp only; omega) (.c (.c (.c (.c (.c (.c .nil)))))) (List.Sublist.refl _)
      · have p10 := of_decide_eq_false h10; rw [zaE (by omega), ← hkk8] at hk; (try dsimp only at hk); refine T.exit (K.ab (K.ab (K.ad ?_))); exact K.ai (c_5, vc_5, c_6, vc_6, c_7, vc_7) ⟨hk, inferInstance, inferInstance, inferInstance⟩ (.c (.c (.c (.c (.c .nil))))) (List.Sublist.refl _)
  · rintro ⟨c_1, vc_1, c_2, vc_2, c_3, vc_3⟩ ⟨hk, oc_1, oc_2, oc_3⟩; (try dsimp only at *); rw [← hk4] at hk; (try dsimp only at hk); refine T.seq (T.sr ?_); refine TL.run 1 rfl ?_; refine TL.ns ?_; have hq := zag hk; clear hk; obtain ⟨k15, hk15, hk⟩ := hq; (try dsimp only at hk); refine T.ah (ι := List GPair × Value × List GLoad × Value × List GCap × Value) (fun z => [(1, .int .i64 at_), (2, .int .i64 more), (3, .pointer (some ⟨g3, 0, none⟩)), (6, .pointer (some ⟨g6, 0, none⟩)), (7, .pointer (some ⟨g7, 0, none⟩))]) (fun z => [.sl z.2.1 68 5 z.1.length (z.1.flatMap GPair.enc), .sl z.2.2.2.1 70 5 z.2.2.1.length (z.2.2.1.flatMap GLoad.enc), .sl z.2.2.2.2.2 72 4 z.2.2.2.2.1.length (z.2.2.2.2.1.flatMap GCap.enc), .row g7 27 [z.2.1, z.2.2.2.1, z.2.2.2.2.2], .row g6 27 [(.slice none 0 0), (.slice none 0 0), (.slice none 0 0)], .row g3 27 [vr__0, vr__1, vr__2], .fr F1]) (fun z => k15 (z.1, z.2.2.1, z.2.2.2.2.1) = some r ∧ OneC z.2.1 ∧ OneC z.2.2.2.1 ∧ OneC z.2.2.2.2.2) ?_ ?_
    · have hq := zaq hk; clear hk; obtain ⟨f19, kk19, hf19, hkk19, hk⟩ := hq; refine T.block ?_; refine T.loop (ι := Nat × List GPair × Value × List GLoad × Value × List GCap × Value) (fun z => [(1, .int .i64 at_), (2, .int .i64 more), (3, .pointer (some ⟨g3, 0, none⟩)), (6, .pointer (some ⟨g6, 0, none⟩)), (7, .pointer (some ⟨g7, 0, none⟩)), (9, .int .i64 (z.1 : Int))]) (fun z => [.sl z.2.2.1 68 5 z.2.1.length (z.2.1.flatMap GPair.enc), .sl z.2.2.2.2.1 70 5 z.2.2.2.1.length (z.2.2.2.1.flatMap GLoad.enc), .sl z.2.2.2.2.2.2 72 4 z.2.2.2.2.2.1.length (z.2.2.2.2.2.1.flatMap GCap.enc), .row g7 27 [z.2.2.1, z.2.2.2.2.1, z.2.2.2.2.2.2], .row g6 27 [(.slice none 0 0), (.slice none 0 0), (.slice none 0 0)], .row g3 27 [vr__0, vr__1, vr__2], .fr F1]) (fun z => zal f19 kk19 (r_.Loads.length - z.1) z.1 (z.2.1, z.2.2.2.1, z.2.2.2.2.2.1) = some r ∧ OneC z.2.2.1 ∧ OneC z.2.2.2.2.1 ∧ OneC z.2.2.2.2.2.2) (fun z => r_.Loads.length - z.1) (0, c_1, vc_1, c_2, vc_2, c_3, vc_3) ?_ ?_ ?_ ?_
      · exact ⟨hk, inferInstance, inferInstance, inferInstance⟩
      · exact (.c (.c (.c (.c (.c (.c .nil))))))
      · exact List.Sublist.refl _
      · rintro ⟨i_20, c_16, vc_16, c_17, vc_17, c_18, vc_18⟩ ⟨hk, oc_16, oc_17, oc_18⟩; (try dsimp only at *); refine T.seq (T.sr ?_); refine TL.run 1 rfl ?_; refine TL.y (Yv.fieldAddr rfl rfl) ?_; refine TL.y (Yv.aa 5 rfl rfl rfl rfl) ?_; refine TL.y (Yv.am rfl rfl hr__1 (List.length_map _)) ?_; have hm35 : r_.Loads.length ≤ 9223372036854775807 := (List.length_map _) ▸ hr__1.max; refine TL.run 1 rfl ?_; refine TL.ns ?_; refine T.cond rfl (fun h21 => ?_) (fun h21 => ?_)
        · have p21 := of_decide_eq_true h21; rw [zaD (by omega)] at hk; generalize hn19 : zal f19 kk19 (r_.Loads.length - (i_20 + 1)) (i_20 + 1) = next19 at hk; rw [← hf19] at hk; (try dsimp only at hk); refine T.skip (K.seq (T.seq (T.block (T.sr ?_)))); refine TL.run 3 rfl ?_; refine TL.ns ?_; refine T.cond rfl (fun h22 => ?_) (fun h22 => ?_)
          · have p22 := of_decide_eq_true h22; replace hk := zaa hk h22; have hq : (room (c_17 ++ [(nth r_.Loads i_20)]).length 40) ∧ _ := zaB hk; clear hk; obtain ⟨g50, hk⟩ := hq; (try dsimp only at hk); refine T.ay (.still 0 (.still 2 (.still 3 (.still 4 (.still 5 (.still 6 (.two 1 7 (.eff 7 (.eff 8 (.still 9 (.eff 10 .done)))) (.eff 1 (.eff 8 (.still 9 (.eff 10 .done))))))))))) [.sl vc_16 68 5 c_16.length (c_16.flatMap GPair.enc), .sl vc_18 72 4 c_18.length (c_18.flatMap GCap.enc), .row g6 27 [(.slice none 0 0), (.slice none 0 0), (.slice none 0 0)], .row g3 27 [vr__0, vr__1, vr__2], .fr F1] (by kernel_rfl) Sx ?_; refine TS.y rfl (Yv.fieldAddr rfl rfl) ?_; refine TS.y rfl (Yv.fieldAddr rfl rfl) ?_; refine TS.y rfl (Yv.aa 3 rfl rfl rfl rfl) ?_; refine TS.run 1 rfl ?_; refine TS.y rfl (Yv.ar (i := i_20) rfl rfl rfl hr__1 (List.length_map _) rfl (by omega)) ?_; refine TS.y rfl (Yv.ao 4 (i := i_20) rfl rfl rfl hr__1 (by omega) rfl rfl rfl) ?_; refine TS.two ?_ ?_
            · refine TSo.aV rfl (Wt.none rfl) rfl rfl (Yv.aa 3 rfl rfl rfl rfl) (fun w hw => hw.sub Sx) ?_; refine TS.eff ?_; refine TSo.av rfl (Wt.none rfl) rfl rfl (Ew.buildSlice rfl rfl rfl (by decide)) ?_; rintro _ _ ⟨g49, rfl, rfl⟩; refine ⟨(fun w hw => hw.sub Sx), ?_⟩; refine TS.eff ?_; refine TSo.av rfl (Wt.none rfl) rfl rfl (Ew.as 2 0 rfl rfl rfl rfl rfl rfl (zcc (ys := [(nth r_.Loads i_20)]) rfl) (zcb (enc := GLoad.enc) (xs := c_17) (ys := [(nth r_.Loads i_20)])) g50 (by decide)) ?_; rintro v50 _ ⟨hv50, rfl⟩; refine ⟨(fun w hw => hw.sub Sx), ?_⟩; refine TS.y rfl (Yv.fieldAddr rfl rfl) ?_; refine TS.eff ?_; refine TSo.aO rfl (Wt.none rfl) rfl (Ew.an 4 rfl rfl rfl rfl (by simp)) ?_; rintro _ _ ⟨rfl, rfl⟩; refine ⟨(fun w hw => hw.sub Sx), ?_⟩; refine TS.done ?_; refine K.ac (K.seq (T.region ?_)); refine TL.run 1 rfl ?_; refine TL.y (Yv.aq rfl rfl rfl (by omega)) ?_; refine TL.run 1 rfl ?_; refine TL.nil ?_; rw [← hn19] at hk; refine K.pick [1, 2, 3, 4, 5, 6, 7] rfl (by decide) ?_; exact K.next ((i_20 + 1), c_16, vc_16, (c_17 ++ [(nth r_.Loads i_20)]), v50, c_18, vc_18) ⟨hk, inferInstance, inferInstance, inferInstance⟩ (by dsimp only; omega) (.c (.c (.c (.c (.c (.c .nil)))))) (List.Sublist.refl _)
            · refine TSo.av rfl (Wt.none rfl) rfl rfl (Ew.buildSlice rfl rfl rfl (by decide)) ?_; rintro _ _ ⟨g49, rfl, rfl⟩; refine ⟨(fun w hw => hw.sub Sx), ?_⟩; refine TS.eff ?_; refine TSo.aV rfl (Wt.none rfl) rfl rfl (Yv.aa 4 rfl rfl rfl rfl) (fun w hw => hw.sub Sx) ?_; refine TS.eff ?_; refine TSo.av rfl (Wt.none rfl) rfl rfl (Ew.as 2 0 rfl rfl rfl rfl rfl rfl (zcc (ys := [(nth r_.Loads i_20)]) rfl) (zcb (enc := GLoad.enc) (xs := c_17) (ys := [(nth r_.Loads i_20)])) g50 (by decide)) ?_; rintro v50 _ ⟨hv50, rfl⟩; refine ⟨(fun w hw => hw.sub Sx), ?_⟩; refine TS.y rfl (Yv.fieldAddr rfl rfl) ?_; refine TS.eff ?_; refine TSo.aO rfl (Wt.none rfl) rfl (Ew.an 4 rfl rfl rfl rfl (by simp)) ?_; rintro _ _ ⟨rfl, rfl⟩; refine ⟨(fun w hw => hw.sub Sx), ?_⟩; refine TS.done ?_; refine K.ac (K.seq (T.region ?_)); refine TL.run 1 rfl ?_; refine TL.y (Yv.aq rfl rfl rfl (by omega)) ?_; refine TL.run 1 rfl ?_; refine TL.nil ?_; rw [← hn19] at hk; refine K.pick [1, 2, 3, 4, 5, 6, 7] rfl (by decide) ?_; exact K.next ((i_20 + 1), c_16, vc_16, (c_17 ++ [(nth r_.Loads i_20)]), v50, c_18, vc_18) ⟨hk, inferInstance, inferInstance, inferInstance⟩ (by dsimp only; omega) (.c (.c (.c (.c (.c (.c .nil)))))) (List.Sublist.refl _)
          · have p22 := of_decide_eq_false h22; replace hk := zab hk h22; refine T.skip (K.ac (K.seq (T.region ?_))); refine TL.run 1 rfl ?_; refine TL.y (Yv.aq rfl rfl rfl (by omega)) ?_; refine TL.run 1 rfl ?_; refine TL.nil ?_; rw [← hn19] at hk; exact K.next ((i_20 + 1), c_16, vc_16, c_17, vc_17, c_18, vc_18) ⟨hk, inferInstance, inferInstance, inferInstance⟩ (by dsimp only; omega) (.c (.c (.c (.c (.c (.c .nil)))))) (List.Sublist.refl _)
        · have p21 := of_decide_eq_false h21; rw [zaE (by omega), ← hkk19] at hk; (try dsimp only at hk); refine T.exit (K.ab (K.ab (K.ad ?_))); exact K.ai (c_16, vc_16, c_17, vc_17, c_18, vc_18) ⟨hk, inferInstance, inferInstance, inferInstance⟩ (.c (.c (.c (.c (.c .nil))))) (List.Sublist.refl _)
    · rintro ⟨c_12, vc_12, c_13, vc_13, c_14, vc_14⟩ ⟨hk, oc_12, oc_13, oc_14⟩; (try dsimp only at *); rw [← hk15] at hk; (try dsimp only at hk); refine T.seq (T.sr ?_); refine TL.run 1 rfl ?_; refine TL.ns ?_; have hq := zag hk; clear hk; obtain ⟨k26, hk26, hk⟩ := hq; (try dsimp only at hk); refine T.ah (ι := List GPair × Value × List GLoad × Value × List GCap × Value) (fun z => [(6, .pointer (some ⟨g6, 0, none⟩)), (7, .pointer (some ⟨g7, 0, none⟩))]) (fun z => [.sl z.2.1 68 5 z.1.length (z.1.flatMap GPair.enc), .sl z.2.2.2.1 70 5 z.2.2.1.length (z.2.2.1.flatMap GLoad.enc), .sl z.2.2.2.2.2 72 4 z.2.2.2.2.1.length (z.2.2.2.2.1.flatMap GCap.enc), .row g7 27 [z.2.1, z.2.2.2.1, z.2.2.2.2.2], .row g6 27 [(.slice none 0 0), (.slice none 0 0), (.slice none 0 0)], .fr F1]) (fun z => k26 (z.1, z.2.2.1, z.2.2.2.2.1) = some r ∧ OneC z.2.1 ∧ OneC z.2.2.2.1 ∧ OneC z.2.2.2.2.2) ?_ ?_
      · have hq := zaq hk; clear hk; obtain ⟨f30, kk30, hf30, hkk30, hk⟩ := hq; refine T.block ?_; refine T.loop (ι := Nat × List GPair × Value × List GLoad × Value × List GCap × Value) (fun z => [(1, .int .i64 at_), (2, .int .i64 more), (3, .pointer (some ⟨g3, 0, none⟩)), (6, .pointer (some ⟨g6, 0, none⟩)), (7, .pointer (some ⟨g7, 0, none⟩)), (10, .int .i64 (z.1 : Int))]) (fun z => [.sl z.2.2.1 68 5 z.2.1.length (z.2.1.flatMap GPair.enc), .sl z.2.2.2.2.1 70 5 z.2.2.2.1.length (z.2.2.2.1.flatMap GLoad.enc), .sl z.2.2.2.2.2.2 72 4 z.2.2.2.2.2.1.length (z.2.2.2.2.2.1.flatMap GCap.enc), .row g7 27 [z.2.2.1, z.2.2.2.2.1, z.2.2.2.2.2.2], .row g6 27 [(.slice none 0 0), (.slice none 0 0), (.slice none 0 0)], .row g3 27 [vr__0, vr__1, vr__2], .fr F1]) (fun z => zal f30 kk30 (r_.Caps.length - z.1) z.1 (z.2.1, z.2.2.2.1, z.2.2.2.2.2.1) = some r ∧ OneC z.2.2.1 ∧ OneC z.2.2.2.2.1 ∧ OneC z.2.2.2.2.2.2) (fun z => r_.Caps.length - z.1) (0, c_12, vc_12, c_13, vc_13, c_14, vc_14) ?_ ?_ ?_ ?_
        · exact ⟨hk, inferInstance, inferInstance, inferInstance⟩
        · exact (.c (.c (.c (.c (.c (.c .nil))))))
        · exact List.Sublist.refl _
        · rintro ⟨i_31, c_27, vc_27, c_28, vc_28, c_29, vc_29⟩ ⟨hk, oc_27, oc_28, oc_29⟩; (try dsimp only at *); refine T.seq (T.sr ?_); refine TL.run 1 rfl ?_; refine TL.y (Yv.fieldAddr rfl rfl) ?_; refine TL.y (Yv.aa 5 rfl rfl rfl rfl) ?_; refine TL.y (Yv.am rfl rfl hr__2 (List.length_map _)) ?_; have hm55 : r_.Caps.length ≤ 9223372036854775807 := (List.length_map _) ▸ hr__2.max; refine TL.run 1 rfl ?_; refine TL.ns ?_; refine T.cond rfl (fun h32 => ?_) (fun h32 => ?_)
          · have p32 := of_decide_eq_true h32; rw [zaD (by omega)] at hk; generalize hn30 : zal f30 kk30 (r_.Caps.length - (i_31 + 1)) (i_31 + 1) = next30 at hk; rw [← hf30] at hk; (try dsimp only at hk); refine T.skip (K.seq (T.seq (T.block (T.sr ?_)))); refine TL.y (Yv.fieldAddr rfl rfl) ?_; refine TL.y (Yv.aa 5 rfl rfl rfl rfl) ?_; refine TL.run 1 rfl ?_; refine TL.y (Yv.ar (i := i_31) rfl rfl rfl hr__2 (List.length_map _) rfl (by omega)) ?_; refine TL.y (Yv.ao 6 (i := i_31) rfl rfl rfl hr__2 (by omega) rfl rfl rfl) ?_; refine TL.e (Ew.alloc rfl) ?_; rintro _ _ ⟨g11, rfl, rfl⟩; refine TL.e0 (Ew.ae 0 rfl rfl rfl rfl rfl rfl) ?_; rintro _ _ ⟨rfl, rfl⟩; refine TL.ns (T.seq (T.seq ?_)); (try dsimp only at hk); have hq := zag hk; clear hk; obtain ⟨k34, hk34, hk⟩ := hq; (try dsimp only at hk); refine T.ah (ι := Bool) (fun z => [(1, .int .i64 at_), (2, .int .i64 more), (3, .pointer (some ⟨g3, 0, none⟩)), (6, .pointer (some ⟨g6, 0, none⟩)), (7, .pointer (some ⟨g7, 0, none⟩)), (10, .int .i64 (i_31 : Int)), (11, .pointer (some ⟨g11, 0, none⟩)), (93, .bool z)]) (fun z => [.row g11 72 [.int .i64 ((nth r_.Caps i_31).Station), .int .i64 ((nth r_.Caps i_31).Max), .int .i64 ((nth r_.Caps i_31).Low), .int .i64 ((nth r_.Caps i_31).High)], .sl vc_27 68 5 c_27.length (c_27.flatMap GPair.enc), .sl vc_28 70 5 c_28.length (c_28.flatMap GLoad.enc), .sl vc_29 72 4 c_29.length (c_29.flatMap GCap.enc), .row g7 27 [vc_27, vc_28, vc_29], .row g6 27 [(.slice none 0 0), (.slice none 0 0), (.slice none 0 0)], .row g3 27 [vr__0, vr__1, vr__2], .fr F1]) (fun z => k34 z = some r) ?_ ?_
            · refine T.ay (.still 0 (.still 1 (.still 2 (.still 3 (.still 4 (.still 5 (.still 6 (.still 7 (.still 8 (.still 9 (.still 10 (.still 11 (.still 12 (.still 13 (.still 14 (.still 15 (.still 16 (.still 17 (.still 18 (.still 19 (.still 20 (.still 21 (.still 22 (.still 23 (.still 24 (.still 25 (.still 26 (.still 27 (.still 28 (.still 29 .done)))))))))))))))))))))))))))))) _ (by kernel_rfl) (List.Sublist.refl _) ?_; refine TS.run 4 rfl ?_; refine TS.gs rfl rfl rfl rfl (fun h35 => ?_) (fun h35 => ?_)
              · have p35 := of_decide_eq_true h35; replace hk := zaa hk h35; refine TS.y rfl (Yv.fieldAddr rfl rfl) ?_; refine TS.y rfl (Yv.aa 0 rfl rfl rfl rfl) ?_; refine TS.run 5 rfl ?_; refine TS.gs rfl rfl rfl rfl (fun h36 => ?_) (fun h36 => ?_)
                · have p36 := of_decide_eq_true h36; replace hk := zaa hk h36; refine TS.run 1 rfl ?_; refine TS.y rfl (Yv.aq rfl rfl rfl (by omega)) ?_; refine TS.y rfl (Yv.fieldAddr rfl rfl) ?_; refine TS.y rfl (Yv.aa 6 rfl rfl rfl rfl) ?_; refine TS.y rfl (Yv.am rfl rfl hr__2 (List.length_map _)) ?_; refine TS.run 2 rfl ?_; refine TS.gs rfl rfl rfl rfl (fun h37 => ?_) (fun h37 => ?_)
                  · have p37 := of_decide_eq_true h37; replace hk := zaa hk h37; refine TS.run 12 rfl ?_; refine TS.done ?_; exact K.ai true hk (.c (.c (.c (.c (.c (.c (.c (.c .nil)))))))) (List.Sublist.refl _)
                  · have p37 := of_decide_eq_false h37; replace hk := zab hk h37; refine TS.y rfl (Yv.fieldAddr rfl rfl) ?_; refine TS.y rfl (Yv.aa 6 rfl rfl rfl rfl) ?_; refine TS.run 1 rfl ?_; refine TS.y rfl (Yv.aq rfl rfl rfl (by omega)) ?_; have hq : (0 ≤ ((i_31 : Int) + 1) ∧ ((i_31 : Int) + 1) < (r_.Caps.length : Int)) ∧ _ := zaB hk; clear hk; obtain ⟨g86, hk⟩ := hq; refine TS.y rfl (Yv.ar (i := (i_31 + 1)) rfl rfl rfl hr__2 (List.length_map _) rfl (by omega)) ?_; refine TS.y rfl (Yv.br rfl rfl hr__2 (List.length_map _) (by omega)) ?_; refine TS.y rfl (Yv.aA 7 (i := (i_31 + 1)) (j := 0) rfl rfl rfl hr__2 (by omega) rfl rfl) ?_; refine TS.y rfl (Yv.fieldAddr rfl rfl) ?_; refine TS.y rfl (Yv.aa 0 rfl rfl rfl rfl) ?_; refine TS.run 3 rfl ?_; refine TS.done ?_; exact K.ai (decide (¬ (nth r_.Caps (i_31 + 1)).Station = (nth r_.Caps i_31).Station)) hk (.c (.c (.c (.c (.c (.c (.c (.c .nil)))))))) (List.Sublist.refl _)
                · have p36 := of_decide_eq_false h36; replace hk := zab hk h36; refine TS.run 19 rfl ?_; refine TS.done ?_; exact K.ai false hk (.c (.c (.c (.c (.c (.c (.c (.c .nil)))))))) (List.Sublist.refl _)
              · have p35 := of_decide_eq_false h35; replace hk := zab hk h35; refine TS.run 26 rfl ?_; refine TS.done ?_; exact K.ai false hk (.c (.c (.c (.c (.c (.c (.c (.c .nil)))))))) (List.Sublist.refl _)
            · rintro x_33 hk; rw [← hk34] at hk; (try dsimp only at hk); have hq := zag hk; clear hk; obtain ⟨k42, hk42, hk⟩ := hq; (try dsimp only at hk); refine T.ah (ι := Int × Int × Int × Int) (fun z => [(1, .int .i64 at_), (2, .int .i64 more), (3, .pointer (some ⟨g3, 0, none⟩)), (6, .pointer (some ⟨g6, 0, none⟩)), (7, .pointer (some ⟨g7, 0, none⟩)), (10, .int .i64 (i_31 : Int)), (11, .pointer (some ⟨g11, 0, none⟩))]) (fun z => [.row g11 72 [.int .i64 z.1, .int .i64 z.2.1, .int .i64 z.2.2.1, .int .i64 z.2.2.2], .sl vc_27 68 5 c_27.length (c_27.flatMap GPair.enc), .sl vc_28 70 5 c_28.length (c_28.flatMap GLoad.enc), .sl vc_29 72 4 c_29.length (c_29.flatMap GCap.enc), .row g7 27 [vc_27, vc_28, vc_29], .row g6 27 [(.slice none 0 0), (.slice none 0 0), (.slice none 0 0)], .row g3 27 [vr__0, vr__1, vr__2], .fr F1]) (fun z => k42 (z.1, z.2.1, z.2.2.1, z.2.2.2) = some r) ?_ ?_
              · refine T.cond rfl (fun h43 => ?_) (fun h43 => ?_)
                · replace hk := zaa hk h43; refine T.region ?_; refine TL.y (Yv.fieldAddr rfl rfl) ?_; refine TL.y (Yv.aa 0 rfl rfl rfl rfl) ?_; refine TL.run 2 rfl ?_; refine TL.y (Yv.fieldAddr rfl rfl) ?_; refine TL.e0 (Ew.an 0 rfl rfl rfl rfl (by simp)) ?_; rintro _ _ ⟨rfl, rfl⟩; refine TL.nil ?_; exact K.ai ((nth r_.Caps i_31).Station, wI (((nth r_.Caps i_31).Max) + more), (nth r_.Caps i_31).Low, (nth r_.Caps i_31).High) hk (.c (.c (.c (.c (.c (.c (.c .nil))))))) (List.Sublist.refl _)
                · replace hk := zab hk h43; refine T.skip ?_; exact K.ai ((nth r_.Caps i_31).Station, (nth r_.Caps i_31).Max, (nth r_.Caps i_31).Low, (nth r_.Caps i_31).High) hk (.c (.c (.c (.c (.c (.c (.c .nil))))))) (List.Sublist.refl _)
              · rintro ⟨c_38, c_39, c_40, c_41⟩ hk; (try dsimp only at *); rw [← hk42] at hk; (try dsimp only at hk); have hq : (room (c_29 ++ [(GCap.mk c_38 c_39 c_40 c_41)]).length 32) ∧ _ := zaB hk; clear hk; obtain ⟨g103, hk⟩ := hq; (try dsimp only at hk); refine T.region ?_; refine TL.y (Yv.fieldAddr rfl rfl) ?_; refine TL.y (Yv.aa 4 rfl rfl rfl rfl) ?_; refine TL.y (Yv.ak 0 rfl rfl rfl rfl) ?_; refine TL.e (Ew.buildSlice rfl rfl rfl (by decide)) ?_; rintro _ _ ⟨g102, rfl, rfl⟩; refine TL.e (Ew.as 4 0 rfl rfl rfl rfl rfl rfl (zcc (ys := [(GCap.mk c_38 c_39 c_40 c_41)]) rfl) (zcb (enc := GCap.enc) (xs := c_29) (ys := [(GCap.mk c_38 c_39 c_40 c_41)])) g103 (by decide)) ?_; rintro v103 _ ⟨hv103, rfl⟩; refine TL.y (Yv.fieldAddr rfl rfl) ?_; refine TL.e0 (Ew.an 5 rfl rfl rfl rfl (by simp)) ?_; rintro _ _ ⟨rfl, rfl⟩; refine TL.nil (K.ac (K.seq (T.region ?_))); refine TL.run 1 rfl ?_; refine TL.y (Yv.aq rfl rfl rfl (by omega)) ?_; refine TL.run 1 rfl ?_; refine TL.nil ?_; rw [← hn30] at hk; refine K.pick [2, 3, 4, 5, 6, 7, 8] rfl (by decide) ?_; exact K.next ((i_31 + 1), c_27, vc_27, c_28, vc_28, (c_29 ++ [(GCap.mk c_38 c_39 c_40 c_41)]), v103) ⟨hk, inferInstance, inferInstance, inferInstance⟩ (by dsimp only; omega) (.c (.c (.c (.c (.c (.c .nil)))))) (List.Sublist.refl _)
          · have p32 := of_decide_eq_false h32; rw [zaE (by omega), ← hkk30] at hk; (try dsimp only at hk); refine T.exit (K.ab (K.ab (K.ad ?_))); refine K.pick [0, 1, 2, 3, 4, 6] rfl (by decide) ?_; exact K.ai (c_27, vc_27, c_28, vc_28, c_29, vc_29) ⟨hk, inferInstance, inferInstance, inferInstance⟩ (.c (.c .nil)) (List.Sublist.refl _)
      · rintro ⟨c_23, vc_23, c_24, vc_24, c_25, vc_25⟩ ⟨hk, oc_23, oc_24, oc_25⟩; (try dsimp only at *); rw [← hk26] at hk; (try dsimp only at hk); refine T.sr ?_; refine TL.y (Yv.ak 3 rfl rfl rfl rfl) ?_; refine TL.e0 (Ew.ae 4 rfl rfl rfl rfl rfl rfl) ?_; rintro _ _ ⟨rfl, rfl⟩; refine TL.ns (T.ret ?_); refine K.aw (fun w hw => hw.freezeS (i := 5) (j := 0) (by decide) rfl rfl) ?_; rintro F2 ⟨le1_2, hz2⟩; dsimp only [List.set, List.eraseIdx]; have hf2 := hz2.toF rfl GPair.len; haveI := hf2.oneC; refine K.aw (fun w hw => hw.freezeS (i := 4) (j := 0) (by decide) rfl rfl) ?_; rintro F3 ⟨le2_3, hz3⟩; dsimp only [List.set, List.eraseIdx]; have le1_3 := le1_2.trans le2_3; have hf3 := hz3.toF rfl GLoad.len; haveI := hf3.oneC; refine K.aw (fun w hw => hw.freezeS (i := 3) (j := 0) (by decide) rfl rfl) ?_; rintro F4 ⟨le3_4, hz4⟩; dsimp only [List.set, List.eraseIdx]; have le1_4 := le1_3.trans le3_4; have le2_4 := le2_3.trans le3_4; have hf4 := hz4.toF rfl GCap.len; haveI := hf4.oneC; obtain rfl := Option.some.inj hk; exact K.aH 1 rfl rfl rfl rfl (fun w' hw => ⟨(vc_23, vc_24, vc_25), F4.toFrz, ⟨(SlC.mono hf2 le2_4), (SlC.mono hf3 le3_4), hf4⟩, rfl, Fx.of hw (i := 2) rfl hS0 le1_4⟩)
def zcg (fuel : Nat) (p : GProblem) (l : List GChoice) (stations : List Int) (at_ : Int) (more : Int) : Option Bool :=
  zaW (fun (x_1 : Bool) =>
    (bif x_1 then
      (zcL fuel).bind fun r50 =>
      some r50
      else
      (zb6 fuel p).bind fun r53 =>
      (zcF fuel r53.1).bind fun r58 =>
      (bif (((decide (¬ r53.2 = 0)) || (decide (¬ r58.2 = 0))) || (!(zb4 p r58.1))) then
        some false
        else
        (zbN p l).bind fun r76 =>
        (zbO p stations).bind fun r82 =>
        (zcW l stations).bind fun r88 =>
        (bif ((((decide (¬ r76.2 = 0)) || (decide (¬ r82.2 = 0))) || (decide (¬ r88.2 = 0))) || (decide (¬ r76.1.Kind = 0))) then
          (zcL fuel).bind fun r106 =>
          some r106
          else
          (zbN r82.1 r88.1).bind fun r110 =>
          (zbI p r88.1).bind fun r116 =>
          (zcK p.Rules at_ more).bind fun r124 =>
          (zbN (GProblem.mk p.Domains (GRules.mk r124.Pairs r124.Loads r124.Caps)) l).bind fun r129 =>
          zaW (fun (x_16 : Bool) =>
            some x_16)
          (fun k17 =>
            (bif decide (r110.2 = 0) then
              (bif decide (r116.2 = 0) then
                (bif decide (r129.2 = 0) then
                  (bif (decide (r110.1.Kind = 0) && decide (r110.1.At = 0)) then
                    (bif (decide (r116.1.Kind = 0) && decide (r116.1.At = 0)) then
                      (bif (decide (r129.1.Kind = 0) && decide (r129.1.At = 0)) then
                        (zcL fuel).bind fun r159 =>
                        k17 r159
                        else
                        k17 false)
                      else
                      k17 false)
                    else
                    k17 false)
                  else
                  k17 false)
                else
                k17 false)
              else
              k17 false))))))
  (fun k2 =>
    (bif decide (70 < (l.length : Int)) then
      k2 true
      else
      (bif decide (70 < (stations.length : Int)) then
        k2 true
        else
        (zc0 fuel p 60 60).bind fun r34 =>
        (bif !r34 then
          k2 true
          else
          (bif decide (more < 0) then
            k2 true
            else
            (bif decide (1073741824 < more) then
              k2 true
              else
              (zbn p).bind fun r47 =>
              k2 (!r47)))))))
theorem zd5 (F0 : Frz) (w : World) (hF0 : F0.At w) (p : GProblem) (vp_0 : Value) (cp_0 : List (List Value)) (hp_0 : SlD GDomain.rep F0 vp_0 2 cp_0 p.Domains) (vp_1 : Value) (hp_1 : SlC F0 vp_1 5 (p.Rules.Pairs.map GPair.enc)) (vp_2 : Value) (hp_2 : SlC F0 vp_2 5 (p.Rules.Loads.map GLoad.enc)) (vp_3 : Value) (hp_3 : SlC F0 vp_3 4 (p.Rules.Caps.map GCap.enc)) (l : List GChoice) (vl : Value) (hl : SlC F0 vl 2 (l.map GChoice.enc)) (stations : List Int) (vstations : Value) (hstations : SlC F0 vstations 1 (stations.map eI)) (at_ : Int) (more : Int) (fuel : Nat) (r : Bool) (hr : zcg fuel p l stations at_ more = some r) : Calls Tryz.prog 8 #[.agg [vp_0, vp_1, vp_2, vp_3].toArray, vl, vstations, .int .i64 at_, .int .i64 more] w fun e w' => e = .returned (.bool r) ∧ Below w.heap.size w w' := by
  have hk := hr; unfold zcg at hk; haveI := hp_0.1.oneC; haveI := hp_1.oneC; haveI := hp_2.oneC; haveI := hp_3.oneC; haveI := hl.oneC; haveI := hstations.oneC; obtain ⟨S0, F1, rfl, hS0, hp0⟩ := zap hF0; refine zao Tryz.func8 rfl rfl rfl hp0 ?_; refine T.sr ?_; refine TL.e (Ew.au rfl rfl) ?_; rintro _ _ ⟨g5, rfl, rfl⟩; refine TL.run 1 rfl ?_; refine TL.ns (T.seq (T.seq ?_)); (try dsimp only at hk); have hq := zag hk; clear hk; obtain ⟨k2, hk2, hk⟩ := hq; (try dsimp only at hk); refine T.ah (ι := Bool) (fun z => [(1, vl), (2, vstations), (3, .int .i64 at_), (4, .int .i64 more), (5, .pointer (some ⟨g5, 0, none⟩)), (49, .bool z)]) (fun z => [.row g5 29 [vp_0, vp_1, vp_2, vp_3], .fr F1]) (fun z => k2 z = some r) ?_ ?_
  · refine T.region ?_; refine TL.run 1 rfl ?_; refine TL.y (Yv.am rfl rfl hl (List.length_map _)) ?_; have hm25 : l.length ≤ 9223372036854775807 := (List.length_map _) ▸ hl.max; refine TL.run 2 rfl ?_; refine TL.gs rfl rfl rfl (fun h3 => ?_) (fun h3 => ?_)
    · have p3 := of_decide_eq_true h3; replace hk := zaa hk h3; refine TL.run 22 rfl ?_; refine TL.nil ?_; exact K.ai true hk (.c (.c (.c (.c (.c (.c .nil)))))) (List.Sublist.refl _)
    · have p3 := of_decide_eq_false h3; replace hk := zab hk h3; refine TL.run 1 rfl ?_; refine TL.y (Yv.am rfl rfl hstations (List.length_map _)) ?_; have hm29 : stations.length ≤ 9223372036854775807 := (List.length_map _) ▸ hstations.max; refine TL.run 3 rfl ?_; refine TL.gs rfl rfl rfl (fun h4 => ?_) (fun h4 => ?_)
      · have p4 := of_decide_eq_true h4; replace hk := zaa hk h4; refine TL.run 17 rfl ?_; refine TL.nil ?_; exact K.ai true hk (.c (.c (.c (.c (.c (.c .nil)))))) (List.Sublist.refl _)
      · have p4 := of_decide_eq_false h4; replace hk := zab hk h4; refine TL.y (Yv.ak 0 rfl rfl rfl rfl) ?_; have hq := zae hk; clear hk; obtain ⟨r34, hr34, hk⟩ := hq; refine TL.e (Ew.af rfl rfl rfl (fun w hw => zf0 _ w (hw.fr (i := 1) rfl) p vp_0 cp_0 hp_0 vp_1 hp_1 vp_2 hp_2 vp_3 hp_3 60 60 fuel r34 hr34)) ?_; rintro _ _ ⟨rfl, rfl⟩; refine TL.run 3 rfl ?_; refine TL.gs rfl rfl rfl (fun h5 => ?_) (fun h5 => ?_)
        · replace hk := zaa hk h5; refine TL.run 12 rfl ?_; refine TL.nil ?_; exact K.ai true hk (.c (.c (.c (.c (.c (.c .nil)))))) (List.Sublist.refl _)
        · replace hk := zab hk h5; refine TL.run 4 rfl ?_; refine TL.gs rfl rfl rfl (fun h6 => ?_) (fun h6 => ?_)
          · have p6 := of_decide_eq_true h6; replace hk := zaa hk h6; refine TL.run 8 rfl ?_; refine TL.nil ?_; exact K.ai true hk (.c (.c (.c (.c (.c (.c .nil)))))) (List.Sublist.refl _)
          · have p6 := of_decide_eq_false h6; replace hk := zab hk h6; refine TL.run 4 rfl ?_; refine TL.gs rfl rfl rfl (fun h7 => ?_) (fun h7 => ?_)
            · have p7 := of_decide_eq_true h7; replace hk := zaa hk h7; refine TL.run 4 rfl ?_; refine TL.nil ?_; exact K.ai true hk (.c (.c (.c (.c (.c (.c .nil)))))) (List.Sublist.refl _)
            · have p7 := of_decide_eq_false h7; replace hk := zab hk h7; refine TL.y (Yv.ak 0 rfl rfl rfl rfl) ?_; have hq := zae hk; clear hk; obtain ⟨r47, hr47, hk⟩ := hq; refine TL.e (Ew.af rfl rfl rfl (fun w hw => zb2 _ w (hw.fr (i := 1) rfl) p vp_0 cp_0 hp_0 vp_1 hp_1 vp_2 hp_2 vp_3 hp_3 r47 hr47)) ?_; rintro _ _ ⟨rfl, rfl⟩; refine TL.run 2 rfl ?_; refine TL.nil ?_; exact K.ai (!r47) hk (.c (.c (.c (.c (.c (.c .nil)))))) (List.Sublist.refl _)
  · rintro x_1 hk; rw [← hk2] at hk; (try dsimp only at hk); refine T.cond rfl (fun h8 => ?_) (fun h8 => ?_)
    · replace hk := zaa hk h8; refine T.seq ?_; have hq := zae hk; clear hk; obtain ⟨r50, hr50, hk⟩ := hq; (try dsimp only at hk); refine T.region ?_; refine TL.e (Ew.af rfl rfl rfl (fun w hw => zdC _ w (hw.fr (i := 1) rfl)  fuel r50 hr50)) ?_; rintro _ _ ⟨rfl, rfl⟩; refine TL.run 1 rfl ?_; refine TL.ns (T.ret (K.then_ret ?_)); obtain rfl := Option.some.inj hk; exact K.aj rfl rfl (fun w' hw => ⟨rfl, hw.isBelow⟩)
    · replace hk := zab hk h8; refine T.skip (K.seq (T.seq ?_)); have hq := zae hk; clear hk; obtain ⟨r53, hr53, hk⟩ := hq; (try dsimp only at hk); refine T.region ?_; refine TL.y (Yv.ak 0 rfl rfl rfl rfl) ?_; refine TL.e (Ew.az 1 rfl rfl rfl rfl (fun w hw hF => zdH _ w hF p vp_0 cp_0 hp_0 vp_1 hp_1 vp_2 hp_2 vp_3 hp_3 fuel r53 hr53)) ?_; rintro _ _ ⟨v53_0_0, F2, le1_2, hf53_0_0, rfl, rfl⟩; haveI := hf53_0_0.oneC; refine TL.run 5 rfl ?_; refine TL.ns (T.seq ?_); have hq := zae hk; clear hk; obtain ⟨r58, hr58, hk⟩ := hq; (try dsimp only at hk); refine T.region ?_; refine TL.run 1 rfl ?_; refine TL.e (Ew.az 1 rfl rfl rfl rfl (fun w hw hF => zeX _ w hF r53.1 v53_0_0 hf53_0_0 fuel r58 hr58)) ?_; rintro _ _ ⟨⟨v58_0_0, cs58_0_0, v58_0_1, v58_0_2, v58_0_3⟩, F3, le2_3, ⟨hf58_0_0, hf58_0_1, hf58_0_2, hf58_0_3⟩, rfl, rfl⟩; dsimp only at hf58_0_0 hf58_0_1 hf58_0_2 hf58_0_3 ⊢; have le1_3 := le1_2.trans le2_3; haveI := hf58_0_0.1.oneC; haveI := hf58_0_1.oneC; haveI := hf58_0_2.oneC; haveI := hf58_0_3.oneC; refine TL.run 3 rfl ?_; refine TL.e (Ew.alloc rfl) ?_; rintro _ _ ⟨g13, rfl, rfl⟩; refine TL.e0 (Ew.ae 0 rfl rfl rfl rfl rfl rfl) ?_; rintro _ _ ⟨rfl, rfl⟩; refine TL.run 1 rfl ?_; refine TL.ns (T.seq (T.seq ?_)); refine T.ah (ι := Unit) (fun z => [(1, vl), (2, vstations), (3, .int .i64 at_), (4, .int .i64 more), (5, .pointer (some ⟨g5, 0, none⟩)), (72, .bool (((decide (¬ r53.2 = 0)) || (decide (¬ r58.2 = 0))) || (!(zb4 p r58.1))))]) (fun z => [.row g13 29 [v58_0_0, v58_0_1, v58_0_2, v58_0_3], .row g5 29 [vp_0, vp_1, vp_2, vp_3], .fr F3]) (fun z => True) ?_ ?_
      · refine T.region ?_; refine TL.run 3 rfl ?_; refine TL.gs rfl rfl rfl (fun h9 => ?_) (fun h9 => ?_)
        · have p9 := of_decide_eq_true h9; refine TL.run 9 rfl ?_; refine TL.nil ?_; exact K.ai () trivial (.c (.c (.c (.c (.c (.b (zcp (zcp h9)).symm .nil)))))) (List.Sublist.refl _)
        · have p9 := of_decide_eq_false h9; refine TL.run 4 rfl ?_; refine TL.gs rfl rfl rfl (fun h10 => ?_) (fun h10 => ?_)
          · have p10 := of_decide_eq_true h10; refine TL.run 5 rfl ?_; refine TL.nil ?_; exact K.ai () trivial (.c (.c (.c (.c (.c (.b (zcp (zcI h9 h10)).symm .nil)))))) (List.Sublist.refl _)
          · have p10 := of_decide_eq_false h10; refine TL.y (Yv.ak 1 rfl rfl rfl rfl) ?_; refine TL.y (Yv.ak 0 rfl rfl rfl rfl) ?_; refine TL.e (Ew.af rfl rfl rfl (fun w hw => zfh _ w (hw.fr (i := 2) rfl) p vp_0 cp_0 (SlD.mono (rep := GDomain.rep) (fun _ _ _ _ => GDomain.mono) hp_0 le1_3) vp_1 (SlC.mono hp_1 le1_3) vp_2 (SlC.mono hp_2 le1_3) vp_3 (SlC.mono hp_3 le1_3) r58.1 v58_0_0 cs58_0_0 hf58_0_0 v58_0_1 hf58_0_1 v58_0_2 hf58_0_2 v58_0_3 hf58_0_3)) ?_; rintro _ _ ⟨rfl, rfl⟩; refine TL.run 2 rfl ?_; refine TL.nil ?_; exact K.ai () trivial (.c (.c (.c (.c (.c (.b (or_f (zcI h9 h10)) .nil)))))) (List.Sublist.refl _)
      · rintro _ _; refine T.cond rfl (fun h11 => ?_) (fun h11 => ?_)
        · replace hk := zaa hk h11; refine T.sr ?_; refine TL.run 1 rfl ?_; refine TL.ns (T.ret (K.then_ret ?_)); obtain rfl := Option.some.inj hk; exact K.aj rfl rfl (fun w' hw => ⟨rfl, hw.isBelow⟩)
        · have p11 := h11; (try simp only [nfB] at p11); replace hk := zab hk h11; refine T.skip (K.seq (T.seq ?_)); have hq := zae hk; clear hk; obtain ⟨r76, hr76, hk⟩ := hq; (try dsimp only at hk); refine T.region ?_; refine TL.y (Yv.ak 1 rfl rfl rfl rfl) ?_; refine TL.run 1 rfl ?_; refine TL.e (Ew.af rfl rfl rfl (fun w hw => zc2 _ w (hw.fr (i := 2) rfl) p vp_0 cp_0 (SlD.mono (rep := GDomain.rep) (fun _ _ _ _ => GDomain.mono) hp_0 le1_3) vp_1 (SlC.mono hp_1 le1_3) vp_2 (SlC.mono hp_2 le1_3) vp_3 (SlC.mono hp_3 le1_3) l vl (SlC.mono hl le1_3) r76 hr76)) ?_; rintro _ _ ⟨rfl, rfl⟩; refine TL.run 3 rfl ?_; refine TL.e (Ew.alloc rfl) ?_; rintro _ _ ⟨g15, rfl, rfl⟩; refine TL.e0 (Ew.ae 0 rfl rfl rfl rfl rfl rfl) ?_; rintro _ _ ⟨rfl, rfl⟩; refine TL.run 1 rfl ?_; refine TL.ns (T.seq ?_); have hq := zae hk; clear hk; obtain ⟨r82, hr82, hk⟩ := hq; (try dsimp only at hk); refine T.region ?_; refine TL.y (Yv.ak 2 rfl rfl rfl rfl) ?_; refine TL.run 1 rfl ?_; refine TL.e (Ew.az 3 rfl rfl rfl rfl (fun w hw hF => zdm _ w hF p vp_0 cp_0 (SlD.mono (rep := GDomain.rep) (fun _ _ _ _ => GDomain.mono) hp_0 le1_3) vp_1 (SlC.mono hp_1 le1_3) vp_2 (SlC.mono hp_2 le1_3) vp_3 (SlC.mono hp_3 le1_3) stations vstations (SlC.mono hstations le1_3) r82 hr82)) ?_; rintro _ _ ⟨⟨v82_0_0, cs82_0_0, v82_0_1, v82_0_2, v82_0_3⟩, F4, le3_4, ⟨hf82_0_0, hf82_0_1, hf82_0_2, hf82_0_3⟩, rfl, rfl⟩; dsimp only at hf82_0_0 hf82_0_1 hf82_0_2 hf82_0_3 ⊢; have le1_4 := le1_3.trans le3_4; haveI := hf82_0_0.1.oneC; haveI := hf82_0_1.oneC; haveI := hf82_0_2.oneC; haveI := hf82_0_3.oneC; refine TL.run 3 rfl ?_; refine TL.e (Ew.alloc rfl) ?_; rintro _ _ ⟨g16, rfl, rfl⟩; refine TL.e0 (Ew.ae 0 rfl rfl rfl rfl rfl rfl) ?_; rintro _ _ ⟨rfl, rfl⟩; refine TL.run 1 rfl ?_; refine TL.ns (T.seq ?_); have hq := zae hk; clear hk; obtain ⟨r88, hr88, hk⟩ := hq; (try dsimp only at hk); refine T.region ?_; refine TL.run 2 rfl ?_; refine TL.e (Ew.az 4 rfl rfl rfl rfl (fun w hw hF => zfB _ w hF l vl (SlC.mono hl le1_4) stations vstations (SlC.mono hstations le1_4) r88 hr88)) ?_; rintro _ _ ⟨v88_0_0, F5, le4_5, hf88_0_0, rfl, rfl⟩; have le1_5 := le1_4.trans le4_5; haveI := hf88_0_0.oneC; refine TL.run 5 rfl ?_; refine TL.ns (T.seq (T.seq ?_)); refine T.ah (ι := Unit) (fun z => [(1, vl), (3, .int .i64 at_), (4, .int .i64 more), (5, .pointer (some ⟨g5, 0, none⟩)), (16, .pointer (some ⟨g16, 0, none⟩)), (17, v88_0_0), (105, .bool ((((decide (¬ r76.2 = 0)) || (decide (¬ r82.2 = 0))) || (decide (¬ r88.2 = 0))) || (decide (¬ r76.1.Kind = 0))))]) (fun z => [.row g16 29 [v82_0_0, v82_0_1, v82_0_2, v82_0_3], .row g15 35 [.int .i64 r76.1.Kind, .int .i64 r76.1.At], .row g13 29 [v58_0_0, v58_0_1, v58_0_2, v58_0_3], .row g5 29 [vp_0, vp_1, vp_2, vp_3], .fr F5]) (fun z => True) ?_ ?_
          · refine T.region ?_; refine TL.run 3 rfl ?_; refine TL.gs rfl rfl rfl (fun h12 => ?_) (fun h12 => ?_)
            · have p12 := of_decide_eq_true h12; refine TL.run 12 rfl ?_; refine TL.nil ?_; exact K.ai () trivial (.c (.c (.c (.c (.c (.c (.b (zcp (zcp (zcp h12))).symm .nil))))))) (List.Sublist.refl _)
            · have p12 := of_decide_eq_false h12; refine TL.run 4 rfl ?_; refine TL.gs rfl rfl rfl (fun h13 => ?_) (fun h13 => ?_)
              · have p13 := of_decide_eq_true h13; refine TL.run 8 rfl ?_; refine TL.nil ?_; exact K.ai () trivial (.c (.c (.c (.c (.c (.c (.b (zcp (zcp (zcI h12 h13))).symm .nil))))))) (List.Sublist.refl _)
              · have p13 := of_decide_eq_false h13; refine TL.run 4 rfl ?_; refine TL.gs rfl rfl rfl (fun h14 => ?_) (fun h14 => ?_)
                · have p14 := of_decide_eq_true h14; refine TL.run 4 rfl ?_; refine TL.nil ?_; exact K.ai () trivial (.c (.c (.c (.c (.c (.c (.b (zcp (zcI (zcI h12 h13) h14)).symm .nil))))))) (List.Sublist.refl _)
                · have p14 := of_decide_eq_false h14; refine TL.y (Yv.fieldAddr rfl rfl) ?_; refine TL.y (Yv.aa 1 rfl rfl rfl rfl) ?_; refine TL.run 2 rfl ?_; refine TL.nil ?_; exact K.ai () trivial (.c (.c (.c (.c (.c (.c (.b (or_f (zcI (zcI h12 h13) h14)) .nil))))))) (List.Sublist.refl _)
          · rintro _ _; refine T.cond rfl (fun h15 => ?_) (fun h15 => ?_)
            · replace hk := zaa hk h15; refine T.seq ?_; have hq := zae hk; clear hk; obtain ⟨r106, hr106, hk⟩ := hq; (try dsimp only at hk); refine T.region ?_; refine TL.e (Ew.af rfl rfl rfl (fun w hw => zdC _ w (hw.fr (i := 4) rfl)  fuel r106 hr106)) ?_; rintro _ _ ⟨rfl, rfl⟩; refine TL.run 1 rfl ?_; refine TL.ns (T.ret (K.then_ret ?_)); obtain rfl := Option.some.inj hk; exact K.aj rfl rfl (fun w' hw => ⟨rfl, hw.isBelow⟩)
            · have p15 := h15; (try simp only [nfB] at p15); replace hk := zab hk h15; refine T.skip (K.seq (T.seq ?_)); have hq := zae hk; clear hk; obtain ⟨r110, hr110, hk⟩ := hq; (try dsimp only at hk); refine T.region ?_; refine TL.y (Yv.ak 0 rfl rfl rfl rfl) ?_; refine TL.run 1 rfl ?_; refine TL.e (Ew.af rfl rfl rfl (fun w hw => zc2 _ w (hw.fr (i := 4) rfl) r82.1 v82_0_0 cs82_0_0 (SlD.mono (rep := GDomain.rep) (fun _ _ _ _ => GDomain.mono) hf82_0_0 le4_5) v82_0_1 (SlC.mono hf82_0_1 le4_5) v82_0_2 (SlC.mono hf82_0_2 le4_5) v82_0_3 (SlC.mono hf82_0_3 le4_5) r88.1 v88_0_0 hf88_0_0 r110 hr110)) ?_; rintro _ _ ⟨rfl, rfl⟩; refine TL.run 3 rfl ?_; refine TL.e (Ew.alloc rfl) ?_; rintro _ _ ⟨g19, rfl, rfl⟩; refine TL.e0 (Ew.ae 0 rfl rfl rfl rfl rfl rfl) ?_; rintro _ _ ⟨rfl, rfl⟩; refine TL.run 1 rfl ?_; refine TL.ns (T.seq ?_); have hq := zae hk; clear hk; obtain ⟨r116, hr116, hk⟩ := hq; (try dsimp only at hk); refine T.region ?_; refine TL.y (Yv.ak 4 rfl rfl rfl rfl) ?_; refine TL.run 1 rfl ?_; refine TL.e (Ew.af rfl rfl rfl (fun w hw => zcP _ w (hw.fr (i := 5) rfl) p vp_0 cp_0 (SlD.mono (rep := GDomain.rep) (fun _ _ _ _ => GDomain.mono) hp_0 le1_5) vp_1 (SlC.mono hp_1 le1_5) vp_2 (SlC.mono hp_2 le1_5) vp_3 (SlC.mono hp_3 le1_5) r88.1 v88_0_0 hf88_0_0 r116 hr116)) ?_; rintro _ _ ⟨rfl, rfl⟩; refine TL.run 3 rfl ?_; refine TL.e (Ew.alloc rfl) ?_; rintro _ _ ⟨g20, rfl, rfl⟩; refine TL.e0 (Ew.ae 0 rfl rfl rfl rfl rfl rfl) ?_; rintro _ _ ⟨rfl, rfl⟩; refine TL.run 1 rfl ?_; refine TL.nx ?_; refine TL.y (Yv.ak 5 rfl rfl rfl rfl) ?_; refine TL.e (Ew.alloc rfl) ?_; rintro _ _ ⟨g21, rfl, rfl⟩; refine TL.e0 (Ew.ae 0 rfl rfl rfl rfl rfl rfl) ?_; rintro _ _ ⟨rfl, rfl⟩; refine TL.ns (T.seq ?_); have hq := zae hk; clear hk; obtain ⟨r124, hr124, hk⟩ := hq; (try dsimp only at hk); refine T.region ?_; refine TL.y (Yv.fieldAddr rfl rfl) ?_; refine TL.y (Yv.bc 6 (m := [vp_1, vp_2, vp_3]) rfl rfl rfl rfl rfl) ?_; refine TL.run 2 rfl ?_; refine TL.e (Ew.az 7 rfl rfl rfl rfl (fun w hw hF => zfg _ w hF p.Rules vp_1 (SlC.mono hp_1 le1_5) vp_2 (SlC.mono hp_2 le1_5) vp_3 (SlC.mono hp_3 le1_5) at_ more r124 hr124)) ?_; rintro _ _ ⟨⟨v124_0_0, v124_0_1, v124_0_2⟩, F6, le5_6, ⟨hf124_0_0, hf124_0_1, hf124_0_2⟩, rfl, rfl⟩; dsimp only at hf124_0_0 hf124_0_1 hf124_0_2 ⊢; have le1_6 := le1_5.trans le5_6; haveI := hf124_0_0.oneC; haveI := hf124_0_1.oneC; haveI := hf124_0_2.oneC; refine TL.y (Yv.fieldAddr rfl rfl) ?_; refine TL.e0 (Ew.by 0 rfl rfl rfl rfl rfl (by simp)) ?_; rintro _ _ ⟨rfl, rfl⟩; refine TL.ns (T.seq ?_); have hq := zae hk; clear hk; obtain ⟨r129, hr129, hk⟩ := hq; (try dsimp only at hk); refine T.region ?_; refine TL.y (Yv.ak 0 rfl rfl rfl rfl) ?_; refine TL.run 1 rfl ?_; refine TL.e (Ew.af rfl rfl rfl (fun w hw => zc2 _ w (hw.fr (i := 7) rfl) (GProblem.mk p.Domains (GRules.mk r124.Pairs r124.Loads r124.Caps)) vp_0 cp_0 (SlD.mono (rep := GDomain.rep) (fun _ _ _ _ => GDomain.mono) hp_0 le1_6) v124_0_0 hf124_0_0 v124_0_1 hf124_0_1 v124_0_2 hf124_0_2 l vl (SlC.mono hl le1_6) r129 hr129)) ?_; rintro _ _ ⟨rfl, rfl⟩; refine TL.run 3 rfl ?_; refine TL.e (Ew.alloc rfl) ?_; rintro _ _ ⟨g22, rfl, rfl⟩; refine TL.e0 (Ew.ae 0 rfl rfl rfl rfl rfl rfl) ?_; rintro _ _ ⟨rfl, rfl⟩; refine TL.run 1 rfl ?_; refine TL.nx ?_; refine TL.y (Yv.build rfl rfl) ?_; refine TL.e (Ew.alloc rfl) ?_; rintro _ _ ⟨g23, rfl, rfl⟩; refine TL.e0 (Ew.ae 0 rfl rfl rfl rfl rfl rfl) ?_; rintro _ _ ⟨rfl, rfl⟩; refine TL.ns (T.seq ?_); (try dsimp only at hk); have hq := zag hk; clear hk; obtain ⟨k17, hk17, hk⟩ := hq; (try dsimp only at hk); refine T.ah (ι := Bool) (fun z => [(10, .bool z)]) (fun z => [.fr F6]) (fun z => k17 z = some r) ?_ ?_
              · refine T.region ?_; refine TL.run 3 rfl ?_; refine TL.gs rfl rfl rfl (fun h18 => ?_) (fun h18 => ?_)
                · have p18 := of_decide_eq_true h18; replace hk := zaa hk h18; refine TL.run 4 rfl ?_; refine TL.gs rfl rfl rfl (fun h19 => ?_) (fun h19 => ?_)
                  · have p19 := of_decide_eq_true h19; replace hk := zaa hk h19; refine TL.run 4 rfl ?_; refine TL.gs rfl rfl rfl (fun h20 => ?_) (fun h20 => ?_)
                    · have p20 := of_decide_eq_true h20; replace hk := zaa hk h20; refine TL.y (Yv.ak 4 rfl rfl rfl rfl) ?_; refine TL.y (Yv.ak 0 rfl rfl rfl rfl) ?_; refine TL.y (Yv.bt (by kernel_rfl) rfl rfl rfl) ?_; refine TL.run 2 rfl ?_; refine TL.gs rfl rfl rfl (fun h21 => ?_) (fun h21 => ?_)
                      · have p21 := h21; (try simp only [nfB] at p21); replace hk := zaa hk h21; refine TL.y (Yv.ak 3 rfl rfl rfl rfl) ?_; refine TL.y (Yv.ak 0 rfl rfl rfl rfl) ?_; refine TL.y (Yv.bt (by kernel_rfl) rfl rfl rfl) ?_; refine TL.run 2 rfl ?_; refine TL.gs rfl rfl rfl (fun h22 => ?_) (fun h22 => ?_)
                        · have p22 := h22; (try simp only [nfB] at p22); replace hk := zaa hk h22; refine TL.y (Yv.ak 1 rfl rfl rfl rfl) ?_; refine TL.y (Yv.ak 0 rfl rfl rfl rfl) ?_; refine TL.y (Yv.bt (by kernel_rfl) rfl rfl rfl) ?_; refine TL.run 2 rfl ?_; refine TL.gs rfl rfl rfl (fun h23 => ?_) (fun h23 => ?_)
                          · have p23 := h23; (try simp only [nfB] at p23); replace hk := zaa hk h23; have hq := zae hk; clear hk; obtain ⟨r159, hr159, hk⟩ := hq; refine TL.e (Ew.af rfl rfl rfl (fun w hw => zdC _ w (hw.fr (i := 9) rfl)  fuel r159 hr159)) ?_; rintro _ _ ⟨rfl, rfl⟩; refine TL.run 2 rfl ?_; refine TL.nil ?_; refine K.pick [9] rfl (by decide) ?_; exact K.ai r159 hk (.c .nil) (List.Sublist.refl _)
                          · replace hk := zab hk h23; refine TL.run 3 rfl ?_; refine TL.nil ?_; refine K.pick [9] rfl (by decide) ?_; exact K.ai false hk (.c .nil) (List.Sublist.refl _)
                        · replace hk := zab hk h22; refine TL.run 8 rfl ?_; refine TL.nil ?_; refine K.pick [9] rfl (by decide) ?_; exact K.ai false hk (.c .nil) (List.Sublist.refl _)
                      · replace hk := zab hk h21; refine TL.run 13 rfl ?_; refine TL.nil ?_; refine K.pick [9] rfl (by decide) ?_; exact K.ai false hk (.c .nil) (List.Sublist.refl _)
                    · have p20 := of_decide_eq_false h20; replace hk := zab hk h20; refine TL.run 18 rfl ?_; refine TL.nil ?_; refine K.pick [9] rfl (by decide) ?_; exact K.ai false hk (.c .nil) (List.Sublist.refl _)
                  · have p19 := of_decide_eq_false h19; replace hk := zab hk h19; refine TL.run 22 rfl ?_; refine TL.nil ?_; refine K.pick [9] rfl (by decide) ?_; exact K.ai false hk (.c .nil) (List.Sublist.refl _)
                · have p18 := of_decide_eq_false h18; replace hk := zab hk h18; refine TL.run 26 rfl ?_; refine TL.nil ?_; refine K.pick [9] rfl (by decide) ?_; exact K.ai false hk (.c .nil) (List.Sublist.refl _)
              · rintro x_16 hk; rw [← hk17] at hk; (try dsimp only at hk); refine T.ret ?_; obtain rfl := Option.some.inj hk; exact K.aj rfl rfl (fun w' hw => ⟨rfl, hw.isBelow⟩)
theorem zjj (b : Bool) : (bif b then true else false) = b := by cases b <;> rfl
theorem zfy {n : Nat} (h : 100000 ≤ n) : zcL n = some true := by
  obtain ⟨m, rfl⟩ : ∃ m, n = m + 100000 := ⟨n - 100000, by omega⟩
  kernel_rfl
theorem zi5 {p : GProblem} {a b : Int} {fuel : Nat} (hf : 1000 ≤ fuel) : ∃ r, zc0 fuel p a b = some r := by
  unfold zc0; simp only [zaW]; refine zeE (σ := Int) (I := fun i => 0 ≤ i ∧ i ≤ 600) (μ := fun i => (600 - i).toNat) (post := fun o => ∃ r, o = some r) ⟨by omega, by omega⟩ (by omega) ?_; intro i next hi hn; by_cases h1 : i < (p.Domains.length : Int) <;> by_cases h2 : i < 600
  · rw [decide_eq_true h1, decide_eq_true h2, Bool.and_true, cond_true, zbd ⟨hi.1, h1⟩]
    cases decide (60 < ((nth p.Domains i.toNat).Channels.length : Int))
    · exact hn _ ⟨by omega, by omega⟩ (by omega)
    · exact ⟨_, rfl⟩
  · rw [decide_eq_false h2, Bool.and_false, cond_false]; exact ⟨_, rfl⟩
  · rw [decide_eq_false h1, Bool.false_and, cond_false]; exact ⟨_, rfl⟩
  · rw [decide_eq_false h1, Bool.false_and, cond_false]; exact ⟨_, rfl⟩
theorem allEq {α : Type} [Inhabited α] [DecidableEq α] {a b : List α} (hl : a.length = b.length) : ((List.range a.length).all fun i => decide (nth a i = nth b i)) = decide (a = b) := by
  rw [Bool.eq_iff_iff, List.all_eq_true, decide_eq_true_eq]; constructor
  · intro h; refine List.ext_getElem hl fun i h1 h2 => ?_; have := of_decide_eq_true (h i (List.mem_range.2 h1))
    rwa [zbe h1, zbe h2] at this
  · rintro rfl i _; simp
theorem zjv {α : Type} [Inhabited α] [DecidableEq α] {a b : List α} {r : α → α → Bool} {k : Unit → Bool} (hr : ∀ x y, r x y = !decide (x = y)) (hl : a.length = b.length) : zal (fun (i : Nat) (next : Unit → Bool) (_ : Unit) => bif r (nth a i) (nth b i) then false else next ()) k (a.length - 0) 0 () = (decide (a = b) && k ()) := by
  rw [Nat.sub_zero, zfl (fun i => decide (nth a i = nth b i)) (fun i next hi => by rw [hr]; cases decide (nth a i = nth b i) <;> rfl), allEq hl]
theorem zhh {α : Type} [Inhabited α] [DecidableEq α] {a b : List α} {r : α → α → Bool} (hr : ∀ x y, r x y = !decide (x = y)) : (bif decide (¬ (a.length : Int) = (b.length : Int)) then false else zal (fun (i : Nat) (next : Unit → Bool) (_ : Unit) => bif r (nth a i) (nth b i) then false else next ()) (fun _ => true) (a.length - 0) 0 ()) = decide (a = b) := by
  by_cases hl : a.length = b.length
  · rw [decide_eq_false (by omega), cond_false, zjv hr hl, Bool.and_true]
  · rw [decide_eq_true (by omega), cond_true, decide_eq_false (fun e => hl (by rw [e]))]
theorem ziD (x y : GPair) : (decide (x.A = y.A) && decide (x.B = y.B) && decide (x.Offset = y.Offset) && decide (x.Low = y.Low) && decide (x.High = y.High)) = decide (x = y) := by
  rw [Bool.eq_iff_iff]; cases x; cases y; simp [and_assoc]
theorem zi0 (x y : GLoad) : (decide (x.To = y.To) && decide (x.From = y.From) && decide (x.Weight = y.Weight) && decide (x.Low = y.Low) && decide (x.High = y.High)) = decide (x = y) := by
  rw [Bool.eq_iff_iff]; cases x; cases y; simp [and_assoc]
theorem zjc (x y : GCap) : (decide (x.Station = y.Station) && decide (x.Max = y.Max) && decide (x.Low = y.Low) && decide (x.High = y.High)) = decide (x = y) := by
  rw [Bool.eq_iff_iff]; cases x; cases y; simp [and_assoc]
theorem zjp (a b : List Int) : zbp a b = decide (a = b) := zhh (r := fun x y : Int => decide (¬ x = y)) fun x y => by by_cases h : x = y <;> simp [h]
theorem ziR (a b : List GPair) : zas a b = decide (a = b) := zhh (r := fun x y : GPair => !(decide (x.A = y.A) && decide (x.B = y.B) && decide (x.Offset = y.Offset) && decide (x.Low = y.Low) && decide (x.High = y.High))) fun x y => by rw [ziD]
theorem zi7 (a b : List GLoad) : zat a b = decide (a = b) := zhh (r := fun x y : GLoad => !(decide (x.To = y.To) && decide (x.From = y.From) && decide (x.Weight = y.Weight) && decide (x.Low = y.Low) && decide (x.High = y.High))) fun x y => by rw [zi0]
theorem zjh (a b : List GCap) : zav a b = decide (a = b) := zhh (r := fun x y : GCap => !(decide (x.Station = y.Station) && decide (x.Max = y.Max) && decide (x.Low = y.Low) && decide (x.High = y.High))) fun x y => by rw [zjc]
theorem zjo (x y : GDomain) : (decide (x.Station = y.Station) && decide (x.Channels = y.Channels)) = decide (x = y) := by
  rw [Bool.eq_iff_iff]; cases x; cases y; simp
theorem zi9 (a b : List GDomain) : zaf a b = decide (a = b) := zhh (r := fun x y : GDomain => !zbY x y) fun x y => by
  unfold zbY; rw [zjp, zjo]
def eqP (p q : GProblem) : Bool := decide (p.Domains = q.Domains) && (decide (p.Rules.Pairs = q.Rules.Pairs) && (decide (p.Rules.Loads = q.Rules.Loads) && decide (p.Rules.Caps = q.Rules.Caps)))
theorem ziG (p q : GProblem) : zb4 p q = eqP p q := by
  unfold zb4 eqP; rw [zi9, ziR, zi7, zjh, Bool.and_assoc, Bool.and_assoc]
theorem zh6 (p : GProblem) : eqP p p = true := by
  unfold eqP; simp
theorem zdX {σ ρ : Type} {f : Nat → (σ → Option ρ) → σ → Option ρ} {f' : Nat → (σ → ρ) → σ → ρ} {k : σ → Option ρ} {k' : σ → ρ} {n : Nat} (hk : ∀ s, k s = some (k' s)) (hf : ∀ j next next' s, j < n → (∀ s, next s = some (next' s)) → f j next s = some (f' j next' s)) (s : σ) : zal f k n 0 s = some (zal f' k' n 0 s) := by
  have key : ∀ m i s, i + m = n → zal f k m i s = some (zal f' k' m i s) := by
    intro m
    induction m with
    | zero => intro i s _; exact hk s
    | succ m ih => intro i s e; exact hf i _ _ s (by omega) fun s => ih (i + 1) s (by omega)
  exact key n 0 s (by omega)
def onL : List GChoice → Int → Int
  | [], _ => 0
  | x :: r, n => bif decide (x.Station = n) then x.Channel else onL r n
theorem on_x (l : List GChoice) (n : Int) : zbL l n = onL l n := by
  have key : ∀ m i, i + m = l.length → zal (fun (i : Nat) (next : Unit → Int) (_ : Unit) => bif decide ((nth l i).Station = n) then (nth l i).Channel else next ()) (fun _ => (0 : Int)) m i () = onL (l.drop i) n := by
    intro m
    induction m with
    | zero => intro i e; rw [List.drop_eq_nil_of_le (show l.length ≤ i by omega)]; rfl
    | succ m ih =>
      intro i e; have h2 := ih (i + 1) (by omega); rw [List.drop_eq_getElem_cons (show i < l.length by omega), ← zbe (show i < l.length by omega)]
      show (bif decide ((nth l i).Station = n) then (nth l i).Channel else _) = bif decide ((nth l i).Station = n) then (nth l i).Channel else _
      rw [← h2]
  have := key l.length 0 (by omega); rw [List.drop_zero] at this; exact this
theorem ziz {x : GChoice} {n : Int} (h : x.Station ≠ n) : ∀ a, onL (a ++ [x]) n = onL a n
  | [] => by show (bif decide (x.Station = n) then x.Channel else 0) = 0; rw [decide_eq_false h]; rfl
  | y :: a => by
    show (bif decide (y.Station = n) then y.Channel else onL (a ++ [x]) n) = bif decide (y.Station = n) then y.Channel else onL a n
    rw [ziz h a]
theorem ziA {x : GChoice} {n : Int} (h : x.Station = n) : ∀ a : List GChoice, (∀ y ∈ a, y.Station ≠ n) → onL (a ++ [x]) n = x.Channel
  | [], _ => by show (bif decide (x.Station = n) then x.Channel else 0) = _; rw [decide_eq_true h]; rfl
  | y :: a, ha => by
    show (bif decide (y.Station = n) then y.Channel else onL (a ++ [x]) n) = _
    rw [decide_eq_false (ha y (List.mem_cons_self ..)), cond_false]; exact ziA h a fun z hz => ha z (List.mem_cons_of_mem _ hz)
structure VL (l : List GChoice) : Prop where
  st : ∀ i, i < l.length → 0 ≤ (nth l i).Station ∧ (nth l i).Station ≤ 511
  ch : ∀ i, i < l.length → 2 ≤ (nth l i).Channel ∧ (nth l i).Channel ≤ 51
  lt : ∀ i j, i < j → j < l.length → (nth l i).Station < (nth l j).Station
theorem zgb (l : List GChoice) : zax l = (List.range' 0 (l.length - 0)).all fun i => (zah (nth l i).Station && zai (nth l i).Channel 2 51) && !(decide (0 < (i : Int)) && decide ((nth l i).Station ≤ (nth l (((i : Int) - 1).toNat)).Station)) := by
  refine (zeO (k := fun _ => true) (z := false) (fun i => (zah (nth l i).Station && zai (nth l i).Channel 2 51) && !(decide (0 < (i : Int)) && decide ((nth l i).Station ≤ (nth l (((i : Int) - 1).toNat)).Station))) (fun i next h1 h2 => ?_)).trans (zjj _)
  cases zah (nth l i).Station <;> cases zai (nth l i).Channel 2 51 <;> cases (decide (0 < (i : Int)) && decide ((nth l i).Station ≤ (nth l (((i : Int) - 1).toNat)).Station)) <;> rfl
theorem zi1 {l : List GChoice} (h : zax l = true) : VL l := by
  rw [zgb, List.all_eq_true] at h; have g : ∀ i, i < l.length → _ := fun i hi => h i (List.mem_range'_1.2 ⟨by omega, by omega⟩)
  have hlt : ∀ j, 0 < j → j < l.length → (nth l (j - 1)).Station < (nth l j).Station := fun j h0 hj => by
    have h1 := zbE (g j hj); rw [decide_eq_true (show 0 < (j : Int) by omega), Bool.true_and, Bool.not_eq_true', decide_eq_false_iff_not, show ((j : Int) - 1).toNat = j - 1 by omega] at h1; omega
  refine ⟨fun i hi => zbM (zbA (zbA (g i hi))), fun i hi => ?_, fun i j hij hj => ?_⟩
  · have := zbE (zbA (g i hi)); unfold zai at this; rw [Bool.and_eq_true, decide_eq_true_eq, decide_eq_true_eq] at this; exact this
  · induction j with
    | zero => omega
    | succ j ih =>
      have h1 := hlt (j + 1) (by omega) hj; rw [show j + 1 - 1 = j from rfl] at h1; rcases Nat.lt_or_ge i j with h2 | h2
      · have := ih h2 (by omega); omega
      · rw [show i = j by omega]; exact h1
theorem zek {α : Type} [Inhabited α] {l : List α} {i : Nat} (hi : i < l.length) : l.take (i + 1) = l.take i ++ [nth l i] := by
  rw [List.take_add_one, List.getElem?_eq_getElem hi, zbe hi]; rfl
theorem zhC {α : Type} [Inhabited α] {l : List α} {i : Nat} {y : α} (h : y ∈ l.take i) : ∃ j, j < i ∧ j < l.length ∧ nth l j = y := by
  obtain ⟨j, hj, rfl⟩ := List.mem_iff_getElem.1 h; (have h1 : j < i ∧ j < l.length := by rw [List.length_take] at hj; omega); exact ⟨j, h1.1, h1.2, by rw [zbe h1.2, List.getElem_take]⟩
theorem zgS {l : List GChoice} (h : VL l) {i : Nat} (hi : i < l.length) (n : Int) : onL (l.take (i + 1)) n = if n = (nth l i).Station then (nth l i).Channel else onL (l.take i) n := by
  rw [zek hi]; by_cases e : n = (nth l i).Station
  · rw [if_pos e]; refine ziA e.symm _ fun y hy => ?_; obtain ⟨j, h1, h2, rfl⟩ := zhC hy; have := h.lt j i h1 hi; omega
  · rw [if_neg e]; exact ziz (fun h => e h.symm) _
theorem zhq {l : List GChoice} (h : VL l) (n : Int) : onL l n = 0 ∨ (2 ≤ onL l n ∧ onL l n ≤ 51) := by
  have key : ∀ i, i ≤ l.length → onL (l.take i) n = 0 ∨ (2 ≤ onL (l.take i) n ∧ onL (l.take i) n ≤ 51) := by
    intro i
    induction i with
    | zero => intro _; exact .inl rfl
    | succ i ih =>
      intro hi; rw [zgS h (by omega)]; by_cases e : n = (nth l i).Station
      · rw [if_pos e]; exact .inr (h.ch i (by omega))
      · rw [if_neg e]; exact ih (by omega)
  have := key l.length (Nat.le_refl _)
  rwa [List.take_length] at this
def TabC (l : List GChoice) (c : Vec 512 Int) : Prop := ∀ n, n < 512 → Vec.get c n = onL l (n : Int)
theorem TabC.get {l : List GChoice} {c : Vec 512 Int} (h : TabC l c) {i : Int} (hi : 0 ≤ i ∧ i < 512) : Vec.get c i.toNat = onL l i := by
  rw [h _ (by omega), show ((i.toNat : Nat) : Int) = i by omega]
def zdP (l : List GChoice) (n : Int) (s : Int) (x : GLoad) : Int := bif (((decide (x.To = n)) && (decide (onL l x.From = onL l n))) && (decide (x.Low ≤ onL l n))) && (decide (onL l n ≤ x.High)) then wI (s + x.Weight) else s
theorem zix (p : GProblem) (l : List GChoice) (n : Int) : zeW p n (onL l n) l = p.Rules.Loads.foldl (zdP l n) 0 := by
  rw [← zc6]; refine (zgZ (k := fun s : Int => s) (n := p.Rules.Loads.length - 0) (s := 0) (fun i s => zdP l n s (nth p.Rules.Loads i)) (fun i next s hi => ?_)); rw [on_x]; unfold zdP
  cases (((decide ((nth p.Rules.Loads i).To = n)) && (decide (onL l (nth p.Rules.Loads i).From = onL l n))) && (decide ((nth p.Rules.Loads i).Low ≤ onL l n))) && (decide (onL l n ≤ (nth p.Rules.Loads i).High)) <;> rfl
theorem zh7 {r : List GLoad} {l : List GChoice} {c : Vec 512 Int} (hc : TabC l c) (hr : ∀ x ∈ r, zbc x = true) : ∃ v, zcE r c = some v ∧ ∀ n, n < 512 → Vec.get v n = r.foldl (zdP l (n : Int)) 0 := by
  have hg : ∀ i, i < r.length → (0 ≤ (nth r i).To ∧ (nth r i).To < 512) ∧ (0 ≤ (nth r i).From ∧ (nth r i).From < 512) := fun i hi => by
    have := zeb (hr _ (zby hi)); have a := zbM this.1; have b := zbM this.2; omega
  let u := fun (x : GLoad) => ((decide (x.Low ≤ onL l x.To)) && (decide (onL l x.To ≤ x.High))) && (decide (onL l x.From = onL l x.To))
  obtain ⟨h1, h2⟩ := zcz (k := fun c : Vec 512 Int => some c) (n := r.length - 0) (s := Vec.fill 512 (0 : Int))
    (f := fun (i_5 : Nat) (next4 : Vec 512 Int → Option (Vec 512 Int)) (c_3 : Vec 512 Int) =>
      grd (0 ≤ (nth r i_5).To ∧ (nth r i_5).To < (512 : Int)) <|
      zaW (fun (x_7 : Bool) =>
        (bif x_7 then
          next4 (Vec.put c_3 (((nth r i_5).To).toNat) (wI ((Vec.get c_3 (((nth r i_5).To).toNat)) + ((nth r i_5).Weight))))
          else
          next4 c_3))
      (fun k8 =>
        (bif (zai (Vec.get c (((nth r i_5).To).toNat)) ((nth r i_5).Low) ((nth r i_5).High)) then
          grd (0 ≤ (nth r i_5).From ∧ (nth r i_5).From < (512 : Int)) <|
          k8 (decide ((Vec.get c (((nth r i_5).From).toNat)) = (Vec.get c (((nth r i_5).To).toNat))))
          else
          k8 false)))
    (fun i v => ∀ n, n < 512 → Vec.get v n = (r.take i).foldl (zdP l (n : Int)) 0)
    (fun i v => bif u (nth r i) then Vec.put v (nth r i).To.toNat (wI (Vec.get v (nth r i).To.toNat + (nth r i).Weight)) else v)
    (fun n hn => Vec.get_fill hn)
    (fun i v hi hv n hn => by
      have h3 := hg i (by omega); rw [zek (show i < r.length by omega), List.foldl_append, List.foldl_cons, List.foldl_nil, ← hv n hn]; unfold zdP; by_cases e : (nth r i).To = (n : Int)
      · rw [decide_eq_true e, Bool.true_and]
        have e2 : (((decide (onL l (nth r i).From = onL l (n : Int))) && (decide ((nth r i).Low ≤ onL l (n : Int)))) && (decide (onL l (n : Int) ≤ (nth r i).High))) = u (nth r i) := by
          show _ = (((decide ((nth r i).Low ≤ onL l (nth r i).To)) && (decide (onL l (nth r i).To ≤ (nth r i).High))) && (decide (onL l (nth r i).From = onL l (nth r i).To)))
          rw [e]
          cases decide (onL l (nth r i).From = onL l (n : Int)) <;> cases decide ((nth r i).Low ≤ onL l (n : Int)) <;> cases decide (onL l (n : Int) ≤ (nth r i).High) <;> rfl
        rw [e2, show (nth r i).To.toNat = n by omega]
        cases u (nth r i)
        · rfl
        · rw [cond_true, cond_true, Vec.get_put (by omega), if_pos rfl]
      · rw [decide_eq_false e, Bool.false_and, Bool.false_and, Bool.false_and, cond_false]
        cases u (nth r i)
        · rfl
        · rw [cond_true, Vec.get_put (by omega), if_neg (by omega)])
    (fun i next v hi hv => by
      have h3 := hg i (by omega); rw [zbd h3.1, hc.get h3.1, hc.get h3.2]; unfold zai zaW
      show (bif _ then grd _ _ else _) = next (bif ((decide ((nth r i).Low ≤ onL l (nth r i).To)) && (decide (onL l (nth r i).To ≤ (nth r i).High))) && (decide (onL l (nth r i).From = onL l (nth r i).To)) then _ else _)
      rw [zbd h3.2]
      cases ((decide ((nth r i).Low ≤ onL l (nth r i).To)) && (decide (onL l (nth r i).To ≤ (nth r i).High))) <;> cases decide (onL l (nth r i).From = onL l (nth r i).To) <;> rfl)
  refine ⟨_, h1, fun n hn => ?_⟩; have := h2 n hn
  rwa [Nat.sub_zero, List.take_length] at this
theorem ziK (l : List Int) (v : Int) : decide (0 ≤ zbD l v) = l.any fun x => decide (x = v) := by
  have key : ∀ m i, i + m = l.length → decide (0 ≤ zal (fun (i : Nat) (next : Unit → Int) (_ : Unit) => bif decide (v = nth l i) then (i : Int) else next ()) (fun _ => (-1)) m i ()) = (l.drop i).any fun x => decide (x = v) := by
    intro m
    induction m with
    | zero => intro i e; rw [List.drop_eq_nil_of_le (show l.length ≤ i by omega)]; rfl
    | succ m ih =>
      intro i e; have h2 := ih (i + 1) (by omega); rw [List.drop_eq_getElem_cons (show i < l.length by omega), List.any_cons, ← zbe (show i < l.length by omega)]
      show decide (0 ≤ (bif decide (v = nth l i) then (i : Int) else _)) = _
      by_cases e2 : v = nth l i
      · rw [decide_eq_true e2, decide_eq_true e2.symm, cond_true, decide_eq_true (by omega)]; rfl
      · have e3 : ¬ nth l i = v := fun h => e2 h.symm; rw [decide_eq_false e3, Bool.false_or, ← h2]
        show decide (0 ≤ (bif decide (v = nth l i) then (i : Int) else _)) = _
        rw [decide_eq_false e2]; rfl
  have := key l.length 0 (by omega); rw [List.drop_zero] at this; exact this
theorem ziu (l : List Int) (v : Int) : zak l v = l.any fun x => decide (x = v) := by
  have h := zhg (f := fun (i : Nat) (next : Unit → Bool) (_ : Unit) => bif decide (nth l i = v) then true else next ()) (k := fun _ => false) (n := l.length - 0) (fun i => decide (nth l i = v)) (fun i next hi => by cases decide (nth l i = v) <;> rfl); rw [Nat.sub_zero, zge (q := fun x => decide (x = v)), Bool.or_false] at h; exact h
theorem zg9 (l : List Int) (v : Int) : za6 l v = zak l v := by
  unfold za6; rw [ziK, ziu]
theorem ziN {ρ : Type} {l : List GChoice} (h : VL l) (K : Vec 512 Int → Option ρ) : ∃ c, TabC l c ∧ zal (fun (i_5 : Nat) (next4 : Vec 512 Int → Option ρ) (c_3 : Vec 512 Int) => grd (0 ≤ (nth l i_5).Station ∧ (nth l i_5).Station < (512 : Int)) <| next4 (Vec.put c_3 (((nth l i_5).Station).toNat) ((nth l i_5).Channel))) K (l.length - 0) 0 (Vec.fill 512 0) = K c := by
  obtain ⟨h1, h2⟩ := zcz (k := K) (n := l.length - 0) (s := Vec.fill 512 (0 : Int))
    (f := fun (i_5 : Nat) (next4 : Vec 512 Int → Option ρ) (c_3 : Vec 512 Int) => grd (0 ≤ (nth l i_5).Station ∧ (nth l i_5).Station < (512 : Int)) <| next4 (Vec.put c_3 (((nth l i_5).Station).toNat) ((nth l i_5).Channel)))
    (fun i c => ∀ n, n < 512 → Vec.get c n = onL (l.take i) (n : Int))
    (fun i c => Vec.put c (((nth l i).Station).toNat) ((nth l i).Channel))
    (fun n hn => Vec.get_fill hn)
    (fun i c hi hc n hn => by
      have h3 := h.st i (by omega); rw [zgS h (by omega), Vec.get_put (by omega), hc n hn]; by_cases e : (n : Int) = (nth l i).Station
      · rw [if_pos e, if_pos (by omega)]
      · rw [if_neg e, if_neg (by omega)])
    (fun i next c hi hc => by
      have h3 := h.st i (by omega)
      rw [zbd ⟨h3.1, by omega⟩])
  refine ⟨_, fun n hn => ?_, h1⟩; have := h2 n hn
  rwa [Nat.sub_zero, List.take_length] at this
theorem zfH {a b : Int} (h : zbr a b = true) : 2 ≤ a ∧ a ≤ b ∧ b ≤ 51 :=
  ⟨of_decide_eq_true (zbA (zbA h)), of_decide_eq_true (zbE (zbA h)), of_decide_eq_true (zbE h)⟩
theorem zfP {n a b : Int} (h : zai n a b = true) : a ≤ n ∧ n ≤ b := ⟨of_decide_eq_true (zbA h), of_decide_eq_true (zbE h)⟩
theorem zfz {p : GProblem} {l : List GChoice} {all : Bool} (hp : okP p = true) (hl : VL l) : zbt p l all = some (zbW p l all) := by
  have hD := zbA hp; have hg := zef (zbA (zbE hp)); have hi := zbA (zbE (zbE hp)); obtain ⟨s, h3, h4⟩ := zfm (p := p) (by have := zeI hD hi; unfold room; omega) (fun d hd => zfF hD hd); unfold zbt zbW; refine (ziN hl _).elim fun c hc => hc.2.trans ?_; have hc := hc.1; refine zdX (fun s9 => ?_) (fun i next next' s9 hin hn => ?_) (0, 0)
  · show (zbq p).bind _ = _
    rw [h3]; refine zdX (fun s22 => ?_) (fun i next next' s22 hin hn => ?_) _
    · refine zdX (fun s31 => ?_) (fun i next next' s31 hin hn => ?_) _
      · obtain ⟨v, hv, hv2⟩ := zh7 hc hg.l
        show (zcE p.Rules.Loads c).bind _ = _
        rw [hv]; refine zdX (fun s43 => rfl) (fun i next next' s43 hin hn => ?_) _; have hm := zby (show i < p.Rules.Caps.length by omega); have hs := zbM (zfM (hg.c _ hm)); have hr := zfH (zbE (hg.c _ hm))
        show grd _ _ = _
        rw [zbd ⟨hs.1, by omega⟩, hc.get ⟨hs.1, by omega⟩, hv2 _ (by omega), show (((nth p.Rules.Caps i).Station.toNat : Nat) : Int) = (nth p.Rules.Caps i).Station by omega]
        have e : zbb p (nth p.Rules.Caps i) l = ((zai (onL l (nth p.Rules.Caps i).Station) (nth p.Rules.Caps i).Low (nth p.Rules.Caps i).High) && decide ((nth p.Rules.Caps i).Max < p.Rules.Loads.foldl (zdP l (nth p.Rules.Caps i).Station) 0)) := by
          unfold zbb zai; rw [on_x, zix]; by_cases h0 : (nth p.Rules.Caps i).Low ≤ onL l (nth p.Rules.Caps i).Station
          · rw [decide_eq_true h0, decide_eq_true (show ¬ onL l (nth p.Rules.Caps i).Station = 0 by omega)]; rfl
          · rw [decide_eq_false h0]; simp
        rw [e]
        cases ((zai (onL l (nth p.Rules.Caps i).Station) (nth p.Rules.Caps i).Low (nth p.Rules.Caps i).High) && decide ((nth p.Rules.Caps i).Max < p.Rules.Loads.foldl (zdP l (nth p.Rules.Caps i).Station) 0))
        · exact hn _
        · rfl
      · have hm := zby (show i < p.Rules.Pairs.length by omega); have hq := hg.p _ hm; have hA := zbM (zdz hq).1; have hB := zbM (zdz hq).2; have hr := zfH (zbE hq); have ho := zfP (zbE (zbA hq))
        show grd _ _ = _
        rw [zbd ⟨hA.1, by omega⟩, hc.get ⟨hA.1, by omega⟩, hc.get ⟨hB.1, by omega⟩]
        show (bif zai _ _ _ then grd _ _ else _) = _
        rw [zbd ⟨hB.1, by omega⟩]
        have e : za1 (nth p.Rules.Pairs i) l = ((zai (onL l (nth p.Rules.Pairs i).A) (nth p.Rules.Pairs i).Low (nth p.Rules.Pairs i).High) && decide (onL l (nth p.Rules.Pairs i).B = wI (onL l (nth p.Rules.Pairs i).A + (nth p.Rules.Pairs i).Offset))) := by
          unfold za1 zai; rw [on_x, on_x]; by_cases h0 : (nth p.Rules.Pairs i).Low ≤ onL l (nth p.Rules.Pairs i).A
          · have hR := zhq hl (nth p.Rules.Pairs i).A; rw [zer (by omega), decide_eq_true h0, decide_eq_true (show ¬ onL l (nth p.Rules.Pairs i).A = 0 by omega)]; by_cases h1 : onL l (nth p.Rules.Pairs i).B = onL l (nth p.Rules.Pairs i).A + (nth p.Rules.Pairs i).Offset
            · rw [decide_eq_true h1, decide_eq_true (show ¬ onL l (nth p.Rules.Pairs i).B = 0 by omega)]; rfl
            · rw [decide_eq_false h1, Bool.and_false, Bool.and_false]
          · rw [decide_eq_false h0]; simp
        show _ = some (bif za1 (nth p.Rules.Pairs i) l then _ else _)
        rw [e]
        cases zai (onL l (nth p.Rules.Pairs i).A) (nth p.Rules.Pairs i).Low (nth p.Rules.Pairs i).High
        · exact hn _
        · cases decide (onL l (nth p.Rules.Pairs i).B = wI (onL l (nth p.Rules.Pairs i).A + (nth p.Rules.Pairs i).Offset))
          · exact hn _
          · rfl
    · have hs := hl.st i (by omega)
      show (zaj s (nth l i).Station).bind _ = some (bif decide (zdQ p (nth l i).Station < 0) then _ else _)
      rw [zeD, h4, ziw, decide_eq_true hs.1, decide_eq_true (show (nth l i).Station < 512 by omega), Bool.and_self, Bool.true_and]
      show (bif !(anyD p (nth l i).Station) then _ else _) = _
      cases anyD p (nth l i).Station
      · rfl
      · exact hn _
  · have hs := zfF hD (zby (show i < p.Domains.length by omega))
    show grd _ _ = some (bif _ then _ else _)
    rw [zbd ⟨hs.1, hs.2⟩, hc.get hs, on_x, zg9]
    cases (((decide (onL l (nth p.Domains i).Station = 0)) && all) || ((decide (¬ onL l (nth p.Domains i).Station = 0)) && (!zak (nth p.Domains i).Channels (onL l (nth p.Domains i).Station))))
    · exact hn _
    · rfl
theorem zi4 (p : GProblem) (l : List GChoice) : zbN p l = some (bif okP p && zax l then (zbW p l true, 0) else (⟨0, 0⟩, 2)) := by
  unfold zbN; rw [zeH]
  cases h1 : okP p
  · rfl
  cases h2 : zax l
  · rfl
  show (zbt p l true).bind _ = _
  rw [zfz h1 (zi1 h2)]; rfl
theorem zhG (p : GProblem) (l : List GChoice) : zbI p l = some (bif okP p && zax l then (zbW p l false, 0) else (⟨0, 0⟩, 2)) := by
  unfold zbI; rw [zeH]
  cases h1 : okP p
  · rfl
  cases h2 : zax l
  · rfl
  show (zbt p l false).bind _ = _
  rw [zfz h1 (zi1 h2)]; rfl
def okS (l : List Int) : Bool := l.all zah && adjB (fun a b => decide (a < b)) l
theorem zdT (l : List Int) : zbv l = some (okS l) := by
  have e1 : zbh l = l.all zah := zfu; have e2 : zbi l = some (adjB (fun a b => decide (a < b)) l) := zg8 zhd; unfold zbv okS; rw [e1, e2]; simp only [zaW, Option.bind_some]
  cases l.all zah <;> rfl
theorem zgV {l : List Int} (h : okS l = true) : ∀ x ∈ l, 0 ≤ x ∧ x < 512 := fun x hx => by
  have := zbM (List.all_eq_true.1 (zbA h) x hx); omega
theorem zed {l : List Int} {s : GSet} (hs : ∀ i : Int, inS s i = ((decide (0 ≤ i) && decide (i < 512)) && l.any fun x => decide (x = i))) (h : okS l = true) (i : Int) : inS s i = zak l i := by
  rw [hs, ziu]; by_cases hi : 0 ≤ i ∧ i < 512
  · rw [decide_eq_true hi.1, decide_eq_true hi.2]; rfl
  · have e : (decide (0 ≤ i) && decide (i < 512)) = false := by
      rw [Bool.and_eq_false_iff, decide_eq_false_iff_not, decide_eq_false_iff_not]; omega
    rw [e, Bool.false_and]
    symm
    rw [List.any_eq_false]; intro x hx hd; have := zgV h x hx; have := of_decide_eq_true hd; omega
theorem ze8 {x y : BitVec 64} : ((x &&& ~~~y).toNat : Int) = ((0#64).toNat : Int) ↔ ∀ b, b < 64 → x.getLsbD b = true → y.getLsbD b = true := by
  constructor
  · intro h b hb hx; have h1 : x &&& ~~~y = 0#64 := BitVec.eq_of_toNat_eq (Int.ofNat.inj h); have h2 := congrArg (fun z => z.getLsbD b) h1; simp only [BitVec.getLsbD_and, BitVec.getLsbD_not, hx, hb, decide_true, Bool.true_and, BitVec.getLsbD_zero, Bool.not_eq_false'] at h2; exact h2
  · intro h
    have h1 : x &&& ~~~y = 0#64 := BitVec.eq_of_getLsbD_eq fun b hb => by
      rw [BitVec.getLsbD_and, BitVec.getLsbD_not]
      cases hx : x.getLsbD b
      · simp
      · rw [h b hb hx]; simp
    rw [h1]
theorem zh3 (s o : GSet) : zay s o = true ↔ ∀ n, n < 512 → wS s.words n = true → wS o.words n = true := by
  have e : zay s o = (List.range 8).all fun i => !decide (¬ (((Vec.get s.words i) &&& ~~~(Vec.get o.words i)).toNat : Int) = ((0#64).toNat : Int)) := by
    unfold zay; refine (zfl (f := fun (i : Nat) (next : Unit → Bool) (_ : Unit) => bif decide (¬ (((Vec.get s.words i) &&& ~~~(Vec.get o.words i)).toNat : Int) = ((0#64).toNat : Int)) then false else next ()) (k := fun _ => true) (n := 8) (fun i => !decide (¬ (((Vec.get s.words i) &&& ~~~(Vec.get o.words i)).toNat : Int) = ((0#64).toNat : Int))) (fun i next hi => ?_)).trans (Bool.and_true _)
    cases decide (¬ (((Vec.get s.words i) &&& ~~~(Vec.get o.words i)).toNat : Int) = ((0#64).toNat : Int)) <;> rfl
  rw [e, List.all_eq_true]; constructor
  · intro h n hn hw; have h1 := h (n / 64) (List.mem_range.2 (by omega)); rw [Bool.not_eq_true', decide_eq_false_iff_not, Decidable.not_not, ze8] at h1; exact h1 _ (by omega) hw
  · intro h i hi; have hi := List.mem_range.1 hi; rw [Bool.not_eq_true', decide_eq_false_iff_not, Decidable.not_not, ze8]; intro b hb hx; have := h (i * 64 + b) (by omega); unfold wS at this; rw [show (i * 64 + b) / 64 = i by omega, show (i * 64 + b) % 64 = b by omega] at this; exact this hx
theorem zie {s : GSet} {n : Nat} (hn : n < 512) : wS s.words n = inS s (n : Int) := by
  unfold wS inS; rw [decide_eq_true (show (0 : Int) ≤ n by omega), decide_eq_true (show (n : Int) < 512 by omega), show ((n : Int) / 64).toNat = n / 64 by omega, show ((n : Int) % 64).toNat = n % 64 by omega]; rfl
theorem zg1 {l : List Int} {p : GProblem} {s o : GSet} (hs : ∀ i : Int, inS s i = ((decide (0 ≤ i) && decide (i < 512)) && l.any fun x => decide (x = i))) (h : okS l = true) (ho : ∀ i : Int, inS o i = hasD p i) : zay s o = l.all (anyD p) := by
  rw [Bool.eq_iff_iff, zh3, List.all_eq_true]; constructor
  · intro h1 x hx; have hr := zgV h x hx; have h2 := h1 x.toNat (by omega); rw [zie (by omega), zie (by omega), show ((x.toNat : Nat) : Int) = x by omega, hs, ho] at h2; rw [zgM (List.all_eq_true.1 (zbA h) x hx)]; refine h2 ?_; rw [decide_eq_true hr.1, decide_eq_true hr.2]; exact List.any_eq_true.2 ⟨x, hx, decide_eq_true rfl⟩
  · intro h1 n hn hw; rw [zie hn, hs] at hw; obtain ⟨x, hx, e⟩ := List.any_eq_true.1 (zbE hw); have e := of_decide_eq_true e; subst e; rw [zie hn, ho, ← zgM (List.all_eq_true.1 (zbA h) _ hx)]; exact h1 _ hx
def zfd (l : List GChoice) (st : List Int) : List GChoice := (List.range (l.length - 0)).foldl (fun s i => bif zak st (nth l i).Station then s ++ [nth l i] else s) []
theorem zji {l : List GChoice} {st : List Int} (hl : l.length ≤ 100000) : zcW l st = some (bif zax l && okS st then (zfd l st, 0) else ([], 2)) := by
  unfold zcW; simp only [zaW, zdT, Option.bind_some]
  cases zax l
  · rfl
  cases h2 : okS st
  · rfl
  simp only [Bool.not_true, cond_false, Bool.and_self, cond_true]; obtain ⟨s, h3, h4⟩ := of_x (l := st) (zgV h2); rw [h3, Option.bind_some]
  refine (zcz (k := fun s : List GChoice => some (s, (0 : Int))) (n := l.length - 0) (s := [])
    (f := fun (i_9 : Nat) (next8 : List GChoice → Option (List GChoice × Int)) (some_7 : List GChoice) =>
          (zaj s ((nth l i_9).Station)).bind fun r33 =>
          (bif r33 then
            grd (room (some_7 ++ [(nth l i_9)]).length 16) <|
            next8 (some_7 ++ [(nth l i_9)])
            else
            next8 some_7))
    (fun i s => s.length ≤ i) (fun i s => bif zak st (nth l i).Station then s ++ [nth l i] else s) (by simp) (fun i s hi hs => ?_) (fun i next s hi hs => ?_)).1
  · cases zak st (nth l i).Station
    · show s.length ≤ i + 1; omega
    · show (s ++ [nth l i]).length ≤ i + 1; rw [List.length_append]; simp; exact hs
  · rw [zeD, zed h4 h2, Option.bind_some]
    cases zak st (nth l i).Station
    · rfl
    · rw [cond_true, cond_true, zbd (by unfold room; rw [List.length_append]; simp; omega)]
abbrev RS := List GDomain × List GPair × List GLoad × List GCap
def gD (p : GProblem) (st : List Int) (i : Nat) (s : RS) : RS := bif zak st (nth p.Domains i).Station then (s.1 ++ [nth p.Domains i], s.2.1, s.2.2.1, s.2.2.2) else (s.1, s.2.1, s.2.2.1, s.2.2.2)
def gP (p : GProblem) (st : List Int) (i : Nat) (s : RS) : RS := bif zak st (nth p.Rules.Pairs i).A && zak st (nth p.Rules.Pairs i).B then (s.1, s.2.1 ++ [nth p.Rules.Pairs i], s.2.2.1, s.2.2.2) else (s.1, s.2.1, s.2.2.1, s.2.2.2)
def gL (p : GProblem) (st : List Int) (i : Nat) (s : RS) : RS := bif zak st (nth p.Rules.Loads i).To && zak st (nth p.Rules.Loads i).From then (s.1, s.2.1, s.2.2.1 ++ [nth p.Rules.Loads i], s.2.2.2) else (s.1, s.2.1, s.2.2.1, s.2.2.2)
def gC (p : GProblem) (st : List Int) (i : Nat) (s : RS) : RS := bif zak st (nth p.Rules.Caps i).Station then (s.1, s.2.1, s.2.2.1, s.2.2.2 ++ [nth p.Rules.Caps i]) else (s.1, s.2.1, s.2.2.1, s.2.2.2)
def zdr (g : Nat → RS → RS) (n : Nat) (s : RS) : RS := (List.range n).foldl (fun s i => g i s) s
theorem zjk {ρ : Type} {p : GProblem} {st : List Int} {f : Nat → (RS → ρ) → RS → ρ} {K : RS → ρ} (hn : p.Domains.length ≤ 5000) (hf : ∀ i next s, i < p.Domains.length → (∀ x : GDomain, room (s.1 ++ [x]).length 32) → f i next s = next (gD p st i s)) : zal f K (p.Domains.length - 0) 0 ([], [], [], []) = K (zdr (gD p st) (p.Domains.length - 0) ([], [], [], [])) ∧ ((zdr (gD p st) (p.Domains.length - 0) ([], [], [], [])).2 = ([], [], [])) := by
  have h := zcz (f := f) (k := K) (n := p.Domains.length - 0) (s := ([], [], [], [])) (fun i s => s.1.length ≤ i ∧ s.2 = ([], [], [])) (gD p st) ⟨by simp, rfl⟩ (fun i s hi hs => by
      unfold gD
      cases zak st (nth p.Domains i).Station
      · exact ⟨by show s.1.length ≤ i + 1; omega, hs.2⟩
      · exact ⟨by show (s.1 ++ [_]).length ≤ i + 1; rw [List.length_append]; simp; exact hs.1, hs.2⟩) (fun i next s hi hs => hf i next s (by omega) (fun x => by unfold room; rw [List.length_append]; simp; omega))
  exact ⟨h.1, h.2.2⟩
theorem zjr {ρ : Type} {p : GProblem} {st : List Int} {f : Nat → (RS → ρ) → RS → ρ} {K : RS → ρ} {s0 : RS} (h0 : s0.2 = ([], [], [])) (hn : p.Rules.Pairs.length ≤ 5000) (hf : ∀ i next s, i < p.Rules.Pairs.length → (∀ x : GPair, room (s.2.1 ++ [x]).length 40) → f i next s = next (gP p st i s)) : zal f K (p.Rules.Pairs.length - 0) 0 s0 = K (zdr (gP p st) (p.Rules.Pairs.length - 0) s0) ∧ ((zdr (gP p st) (p.Rules.Pairs.length - 0) s0).2.2 = ([], [])) := by
  have h := zcz (f := f) (k := K) (n := p.Rules.Pairs.length - 0) (s := s0) (fun i s => s.2.1.length ≤ i ∧ s.2.2 = ([], [])) (gP p st) (by rw [h0]; exact ⟨by simp, rfl⟩) (fun i s hi hs => by
      unfold gP
      cases zak st (nth p.Rules.Pairs i).A && zak st (nth p.Rules.Pairs i).B
      · exact ⟨by show s.2.1.length ≤ i + 1; omega, hs.2⟩
      · exact ⟨by show (s.2.1 ++ [_]).length ≤ i + 1; rw [List.length_append]; simp; exact hs.1, hs.2⟩) (fun i next s hi hs => hf i next s (by omega) (fun x => by unfold room; rw [List.length_append]; simp; omega))
  exact ⟨h.1, h.2.2⟩
theorem zjq {ρ : Type} {p : GProblem} {st : List Int} {f : Nat → (RS → ρ) → RS → ρ} {K : RS → ρ} {s0 : RS} (h0 : s0.2.2 = ([], [])) (hn : p.Rules.Loads.length ≤ 5000) (hf : ∀ i next s, i < p.Rules.Loads.length → (∀ x : GLoad, room (s.2.2.1 ++ [x]).length 40) → f i next s = next (gL p st i s)) : zal f K (p.Rules.Loads.length - 0) 0 s0 = K (zdr (gL p st) (p.Rules.Loads.length - 0) s0) ∧ ((zdr (gL p st) (p.Rules.Loads.length - 0) s0).2.2.2 = []) := by
  have h := zcz (f := f) (k := K) (n := p.Rules.Loads.length - 0) (s := s0) (fun i s => s.2.2.1.length ≤ i ∧ s.2.2.2 = []) (gL p st) (by rw [h0]; exact ⟨by simp, rfl⟩) (fun i s hi hs => by
      unfold gL
      cases zak st (nth p.Rules.Loads i).To && zak st (nth p.Rules.Loads i).From
      · exact ⟨by show s.2.2.1.length ≤ i + 1; omega, hs.2⟩
      · exact ⟨by show (s.2.2.1 ++ [_]).length ≤ i + 1; rw [List.length_append]; simp; exact hs.1, hs.2⟩) (fun i next s hi hs => hf i next s (by omega) (fun x => by unfold room; rw [List.length_append]; simp; omega))
  exact ⟨h.1, h.2.2⟩
theorem loopC {ρ : Type} {p : GProblem} {st : List Int} {f : Nat → (RS → ρ) → RS → ρ} {K : RS → ρ} {s0 : RS} (h0 : s0.2.2.2 = []) (hn : p.Rules.Caps.length ≤ 5000) (hf : ∀ i next s, i < p.Rules.Caps.length → (∀ x : GCap, room (s.2.2.2 ++ [x]).length 32) → f i next s = next (gC p st i s)) : zal f K (p.Rules.Caps.length - 0) 0 s0 = K (zdr (gC p st) (p.Rules.Caps.length - 0) s0) := by
  have h := zcz (f := f) (k := K) (n := p.Rules.Caps.length - 0) (s := s0) (fun i s => s.2.2.2.length ≤ i) (gC p st) (by rw [h0]; simp) (fun i s hi hs => by
      unfold gC
      cases zak st (nth p.Rules.Caps i).Station
      · show s.2.2.2.length ≤ i + 1; omega
      · show (s.2.2.2 ++ [_]).length ≤ i + 1; rw [List.length_append]; simp; exact hs) (fun i next s hi hs => hf i next s (by omega) (fun x => by unfold room; rw [List.length_append]; simp; omega))
  exact h.1
def zg7 (p : GProblem) (st : List Int) : RS := zdr (gC p st) (p.Rules.Caps.length - 0) (zdr (gL p st) (p.Rules.Loads.length - 0) (zdr (gP p st) (p.Rules.Pairs.length - 0) (zdr (gD p st) (p.Domains.length - 0) ([], [], [], []))))
def zhQ (p : GProblem) (st : List Int) : GProblem := ⟨(zg7 p st).1, ⟨(zg7 p st).2.1, (zg7 p st).2.2.1, (zg7 p st).2.2.2⟩⟩
def ziX (p : GProblem) (st : List Int) : GProblem × Int := bif okP p && okS st then (bif st.all (anyD p) then (zhQ p st, 0) else (⟨[], ⟨[], [], []⟩⟩, 9)) else (⟨[], ⟨[], [], []⟩⟩, 2)
theorem zhw {d : GDomain} (h : okD d = true) : d.Channels.length ≤ 50 := by
  rw [← ziQ] at h; have := of_decide_eq_true (zbA (zbE h)); omega
theorem inv1 {p : GProblem} {st : List Int} (h : p.Domains.length ≤ 5000) : (zdr (gD p st) (p.Domains.length - 0) ([], [], [], [])).2 = ([], [], []) := (zjk (ρ := Unit) (f := fun i next s => next (gD p st i s)) (K := fun _ => ()) h (fun _ _ _ _ _ => rfl)).2
theorem inv2 {p : GProblem} {st : List Int} {s0 : RS} (h0 : s0.2 = ([], [], [])) (h : p.Rules.Pairs.length ≤ 5000) : (zdr (gP p st) (p.Rules.Pairs.length - 0) s0).2.2 = ([], []) := (zjr (ρ := Unit) (f := fun i next s => next (gP p st i s)) (K := fun _ => ()) h0 h (fun _ _ _ _ _ => rfl)).2
theorem inv3 {p : GProblem} {st : List Int} {s0 : RS} (h0 : s0.2.2 = ([], [])) (h : p.Rules.Loads.length ≤ 5000) : (zdr (gL p st) (p.Rules.Loads.length - 0) s0).2.2.2 = [] := (zjq (ρ := Unit) (f := fun i next s => next (gL p st i s)) (K := fun _ => ()) h0 h (fun _ _ _ _ _ => rfl)).2
theorem zg6 (p : GProblem) (st : List Int) : zbO p st = some (ziX p st) := by
  unfold zbO ziX; rw [zeH, zdT]
  cases h1 : okP p
  · rfl
  cases h2 : okS st
  · rfl
  have hD := zbA h1; have hg := zef (zbA (zbE h1)); have hi := zbA (zbE (zbE h1)); have hl := zeI hD hi; have g1 := hg.np; have g2 := hg.nl; have g3 := hg.nc; obtain ⟨s, h3, h4⟩ := of_x (l := st) (zgV h2); obtain ⟨o, m3, m4⟩ := zfm (p := p) (by unfold room; omega) (fun d hd => zfF hD hd)
  show (zcx st).bind _ = _
  rw [h3]
  show (zbq p).bind _ = _
  rw [m3]
  show (bif !(zay s o) then _ else _) = _
  rw [zg1 h4 h2 m4]
  cases st.all (anyD p)
  · rfl
  refine (zjk (st := st) (by omega) (fun i next s hin hr => ?_)).1.trans ?_
  · rw [zeD, zed h4 h2, Option.bind_some]; unfold gD
    cases zak st (nth p.Domains i).Station
    · rfl
    · rw [cond_true, cond_true, zbd (by have := zhw (List.all_eq_true.1 hD _ (zby hin)); unfold room; omega), zbd (hr _)]
  refine (zjr (st := st) (s0 := zdr (gD p st) (p.Domains.length - 0) ([], [], [], [])) (inv1 (by omega)) (by omega) (fun i next s hin hr => ?_)).1.trans ?_
  · rw [zeD, zeD, zed h4 h2, zed h4 h2, Option.bind_some]; unfold gP
    show (bif zak st (nth p.Rules.Pairs i).A then _ else _) = _
    cases zak st (nth p.Rules.Pairs i).A
    · rfl
    · cases zak st (nth p.Rules.Pairs i).B
      · rfl
      · show grd _ _ = _
        rw [zbd (hr _)]; rfl
  refine (zjq (st := st) (s0 := zdr (gP p st) (p.Rules.Pairs.length - 0) (zdr (gD p st) (p.Domains.length - 0) ([], [], [], []))) (inv2 (inv1 (by omega)) (by omega)) (by omega) (fun i next s hin hr => ?_)).1.trans ?_
  · rw [zeD, zeD, zed h4 h2, zed h4 h2, Option.bind_some]; unfold gL
    show (bif zak st (nth p.Rules.Loads i).To then _ else _) = _
    cases zak st (nth p.Rules.Loads i).To
    · rfl
    · cases zak st (nth p.Rules.Loads i).From
      · rfl
      · show grd _ _ = _
        rw [zbd (hr _)]; rfl
  refine (loopC (st := st) (s0 := zdr (gL p st) (p.Rules.Loads.length - 0) (zdr (gP p st) (p.Rules.Pairs.length - 0) (zdr (gD p st) (p.Domains.length - 0) ([], [], [], [])))) (inv3 (inv2 (inv1 (by omega)) (by omega)) (by omega)) (by omega) (fun i next s hin hr => ?_)).trans ?_
  · rw [zeD, zed h4 h2, Option.bind_some]; unfold gC
    cases zak st (nth p.Rules.Caps i).Station
    · rfl
    · rw [cond_true, cond_true, zbd (hr _)]
  rfl
end Go.Proofs.YtipomhejoajjdaaGreat
