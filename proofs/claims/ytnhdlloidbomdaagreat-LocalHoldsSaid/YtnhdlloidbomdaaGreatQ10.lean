/- Yz Pu Ys Ua Ug Uh Ub Um: shortened and put together by squeeze.py. -/
import Derived.Test.YtnhdlloidbomdaaGreatQ09
set_option maxRecDepth 100000
set_option maxHeartbeats 4000000
set_option linter.unusedVariables false
set_option linter.unusedSectionVars false
set_option linter.unusedSimpArgs false
namespace Go.Proofs.YtnhdlloidbomdaaGreat
open Go.RowKit
def zaN  : GProblem :=
  (GProblem.mk [(GDomain.mk 1 [14, 15]), (GDomain.mk 2 [14, 15]), (GDomain.mk 3 [14])] (GRules.mk [(GPair.mk 1 2 0 14 51), (GPair.mk 2 3 0 14 51)] [(GLoad.mk 3 1 7 14 51)] [(GCap.mk 3 5 14 51)]))
theorem zb3 (F0 : Frz) (w : World) (hF0 : F0.At w)  : Calls Tryz.prog 24 #[] w fun e w' => ∃ (y : Value × List (List Value) × Value × Value × Value) (G : Frz), (SlD GDomain.rep G y.1 2 y.2.1 ((zaN).Domains) ∧ SlC G y.2.2.1 5 (((zaN).Rules.Pairs).map GPair.enc) ∧ SlC G y.2.2.2.1 5 (((zaN).Rules.Loads).map GLoad.enc) ∧ SlC G y.2.2.2.2 4 (((zaN).Rules.Caps).map GCap.enc)) ∧ e = .returned (.agg [y.1, y.2.2.1, y.2.2.2.1, y.2.2.2.2].toArray) ∧ Fx F0 w G w' := by
  obtain ⟨r, hk⟩ : ∃ r, zaN = r := ⟨_, rfl⟩; rw [hk]; unfold zaN at hk; obtain ⟨S0, F1, rfl, hS0, hp0⟩ := zam hF0; refine zap Tryz.func24 rfl rfl rfl hp0 ?_; refine T.sr ?_; refine TL.e (Ew.alloc rfl) ?_; rintro _ _ ⟨g0, rfl, rfl⟩; refine TL.nx ?_; refine TL.e (Ew.buildSlice rfl rfl rfl (by decide)) ?_; rintro _ _ ⟨g1, rfl, rfl⟩; refine TL.av (fun w hw => hw.freezeR (i := 2) (j := 0) (by decide) rfl rfl) ?_; rintro F2 ⟨le1_2, hz2⟩; dsimp only [List.set, List.eraseIdx]; have hf2 : SlC F2.toFrz (.slice (some ⟨g1, 0, none⟩) 2 2) 1 ([14, 15].map eI) := (SlK.lit hz2 rfl (Nat.le_refl _) (by decide)).toF (xs := [14, 15]) rfl (fun _ => rfl); refine TL.y (Yv.build rfl rfl) ?_; refine TL.e (Ew.buildSlice rfl rfl rfl (by decide)) ?_; rintro _ _ ⟨g3, rfl, rfl⟩; refine TL.av (fun w hw => hw.freezeR (i := 2) (j := 0) (by decide) rfl rfl) ?_; rintro F3 ⟨le2_3, hz3⟩; dsimp only [List.set, List.eraseIdx]; have le1_3 := le1_2.trans le2_3; have hf3 : SlC F3.toFrz (.slice (some ⟨g3, 0, none⟩) 2 2) 1 ([14, 15].map eI) := (SlK.lit hz3 rfl (Nat.le_refl _) (by decide)).toF (xs := [14, 15]) rfl (fun _ => rfl); refine TL.y (Yv.build rfl rfl) ?_; refine TL.e (Ew.buildSlice rfl rfl rfl (by decide)) ?_; rintro _ _ ⟨g5, rfl, rfl⟩; refine TL.av (fun w hw => hw.freezeR (i := 2) (j := 0) (by decide) rfl rfl) ?_; rintro F4 ⟨le3_4, hz4⟩; dsimp only [List.set, List.eraseIdx]; have le1_4 := le1_3.trans le3_4; have le2_4 := le2_3.trans le3_4; have hf4 : SlC F4.toFrz (.slice (some ⟨g5, 0, none⟩) 1 1) 1 ([14].map eI) := (SlK.lit hz4 rfl (Nat.le_refl _) (by decide)).toF (xs := [14]) rfl (fun _ => rfl); refine TL.y (Yv.build rfl rfl) ?_; refine TL.e (Ew.buildSlice rfl rfl rfl (by decide)) ?_; rintro _ _ ⟨g7, rfl, rfl⟩; have hl7 : OwnD GDomain.rep F4.toFrz 2 [[.int .i64 1, (.slice (some ⟨g1, 0, none⟩) 2 2)], [.int .i64 2, (.slice (some ⟨g3, 0, none⟩) 2 2)], [.int .i64 3, (.slice (some ⟨g5, 0, none⟩) 1 1)]] [(GDomain.mk 1 [14, 15]), (GDomain.mk 2 [14, 15]), (GDomain.mk 3 [14])] := (OwnD.snoc (OwnD.snoc (OwnD.snoc (OwnD.nil _ _ 2) ⟨_, rfl, (SlC.mono hf2 le2_4)⟩ rfl) ⟨_, rfl, (SlC.mono hf3 le3_4)⟩ rfl) ⟨_, rfl, hf4⟩ rfl); refine TL.y (Yv.build rfl rfl) ?_; refine TL.y (Yv.build rfl rfl) ?_; refine TL.e (Ew.buildSlice rfl rfl rfl (by decide)) ?_; rintro _ _ ⟨g10, rfl, rfl⟩; refine TL.y (Yv.build rfl rfl) ?_; refine TL.e (Ew.buildSlice rfl rfl rfl (by decide)) ?_; rintro _ _ ⟨g12, rfl, rfl⟩; refine TL.y (Yv.build rfl rfl) ?_; refine TL.e (Ew.buildSlice rfl rfl rfl (by decide)) ?_; rintro _ _ ⟨g14, rfl, rfl⟩; refine TL.y (Yv.build rfl rfl) ?_; refine TL.y (Yv.build rfl rfl) ?_; refine TL.e0 (Ew.ak 4 rfl rfl rfl rfl rfl rfl) ?_; rintro _ _ ⟨rfl, rfl⟩; refine TL.ns (T.ret ?_); refine K.av (fun w hw => hw.freezeR (i := 5) (j := 3) (by decide) rfl rfl) ?_; rintro F5 ⟨le4_5, hz5⟩; dsimp only [List.set, List.eraseIdx]; have le1_5 := le1_4.trans le4_5; have hf5 : SlD GDomain.rep F5.toFrz (.slice (some ⟨g7, 0, none⟩) 3 3) 2 [[.int .i64 1, (.slice (some ⟨g1, 0, none⟩) 2 2)], [.int .i64 2, (.slice (some ⟨g3, 0, none⟩) 2 2)], [.int .i64 3, (.slice (some ⟨g5, 0, none⟩) 1 1)]] [(GDomain.mk 1 [14, 15]), (GDomain.mk 2 [14, 15]), (GDomain.mk 3 [14])] := (SlK.lit hz5 rfl (Nat.le_refl _) (by decide)).toD (OwnD.mono (rep := GDomain.rep) (fun _ _ _ _ => GDomain.mono) hl7 le4_5) rfl; refine K.av (fun w hw => hw.freezeR (i := 4) (j := 2) (by decide) rfl rfl) ?_; rintro F6 ⟨le5_6, hz6⟩; dsimp only [List.set, List.eraseIdx]; have le1_6 := le1_5.trans le5_6; have hf6 : SlC F6.toFrz (.slice (some ⟨g10, 0, none⟩) 2 2) 5 ([(GPair.mk 1 2 0 14 51), (GPair.mk 2 3 0 14 51)].map GPair.enc) := (SlK.lit hz6 rfl (Nat.le_refl _) (by decide)).toF (xs := [(GPair.mk 1 2 0 14 51), (GPair.mk 2 3 0 14 51)]) rfl GPair.len; refine K.av (fun w hw => hw.freezeR (i := 3) (j := 1) (by decide) rfl rfl) ?_; rintro F7 ⟨le6_7, hz7⟩; dsimp only [List.set, List.eraseIdx]; have le1_7 := le1_6.trans le6_7; have le5_7 := le5_6.trans le6_7; have hf7 : SlC F7.toFrz (.slice (some ⟨g12, 0, none⟩) 1 1) 5 ([(GLoad.mk 3 1 7 14 51)].map GLoad.enc) := (SlK.lit hz7 rfl (Nat.le_refl _) (by decide)).toF (xs := [(GLoad.mk 3 1 7 14 51)]) rfl GLoad.len; refine K.av (fun w hw => hw.freezeR (i := 2) (j := 0) (by decide) rfl rfl) ?_; rintro F8 ⟨le7_8, hz8⟩; dsimp only [List.set, List.eraseIdx]; have le1_8 := le1_7.trans le7_8; have le5_8 := le5_7.trans le7_8; have le6_8 := le6_7.trans le7_8; have hf8 : SlC F8.toFrz (.slice (some ⟨g14, 0, none⟩) 1 1) 4 ([(GCap.mk 3 5 14 51)].map GCap.enc) := (SlK.lit hz8 rfl (Nat.le_refl _) (by decide)).toF (xs := [(GCap.mk 3 5 14 51)]) rfl GCap.len; subst hk; exact K.aT 0 rfl rfl rfl rfl (fun w' hw => ⟨((.slice (some ⟨g7, 0, none⟩) 3 3), [[.int .i64 1, (.slice (some ⟨g1, 0, none⟩) 2 2)], [.int .i64 2, (.slice (some ⟨g3, 0, none⟩) 2 2)], [.int .i64 3, (.slice (some ⟨g5, 0, none⟩) 1 1)]], (.slice (some ⟨g10, 0, none⟩) 2 2), (.slice (some ⟨g12, 0, none⟩) 1 1), (.slice (some ⟨g14, 0, none⟩) 1 1)), F8.toFrz, ⟨(SlD.mono (rep := GDomain.rep) (fun _ _ _ _ => GDomain.mono) hf5 le5_8), (SlC.mono hf6 le6_8), (SlC.mono hf7 le7_8), hf8⟩, rfl, Fx.of hw (i := 1) rfl hS0 le1_8⟩)
def za6 (a : Int) (b : Int) (c : Int) : List GChoice :=
  [(GChoice.mk 1 a), (GChoice.mk 2 b), (GChoice.mk 3 c)]
theorem zct (F0 : Frz) (w : World) (hF0 : F0.At w) (a : Int) (b : Int) (c : Int) : Calls Tryz.prog 25 #[.int .i64 a, .int .i64 b, .int .i64 c] w fun e w' => ∃ (y : Value) (G : Frz), (SlC G y 2 ((za6 a b c).map GChoice.enc)) ∧ e = .returned (y) ∧ Fx F0 w G w' := by
  obtain ⟨r, hk⟩ : ∃ r, za6 a b c = r := ⟨_, rfl⟩; rw [hk]; unfold za6 at hk; obtain ⟨S0, F1, rfl, hS0, hp0⟩ := zam hF0; refine zap Tryz.func25 rfl rfl rfl hp0 ?_; refine T.sr ?_; refine TL.run 1 rfl ?_; refine TL.nx ?_; refine TL.run 1 rfl ?_; refine TL.y (Yv.build rfl rfl) ?_; refine TL.run 1 rfl ?_; refine TL.y (Yv.build rfl rfl) ?_; refine TL.run 1 rfl ?_; refine TL.y (Yv.build rfl rfl) ?_; refine TL.e (Ew.buildSlice rfl rfl rfl (by decide)) ?_; rintro _ _ ⟨g13, rfl, rfl⟩; refine TL.run 1 rfl ?_; refine TL.ns (T.ret ?_); refine K.av (fun w hw => hw.freezeR (i := 1) (j := 0) (by decide) rfl rfl) ?_; rintro F2 ⟨le1_2, hz2⟩; dsimp only [List.set, List.eraseIdx]; have hf2 : SlC F2.toFrz (.slice (some ⟨g13, 0, none⟩) 3 3) 2 ([(GChoice.mk 1 a), (GChoice.mk 2 b), (GChoice.mk 3 c)].map GChoice.enc) := (SlK.lit hz2 rfl (Nat.le_refl _) (by decide)).toF (xs := [(GChoice.mk 1 a), (GChoice.mk 2 b), (GChoice.mk 3 c)]) rfl GChoice.len; subst hk; exact K.ai rfl rfl (fun w' hw => ⟨(.slice (some ⟨g13, 0, none⟩) 3 3), F2.toFrz, hf2, rfl, Fx.of hw (i := 0) rfl hS0 le1_2⟩)
def zcw (l : List GChoice) (want : Int) : Option Bool :=
  (zdO (zaN) l).bind fun r10 =>
  some ((decide (r10.2 = 0)) && (decide (r10.1 = want)))
theorem zc1 (F0 : Frz) (w : World) (hF0 : F0.At w) (l : List GChoice) (vl : Value) (hl : SlC F0 vl 2 (l.map GChoice.enc)) (want : Int) (r : Bool) (hr : zcw l want = some r) : Calls Tryz.prog 26 #[vl, .int .i64 want] w fun e w' => e = .returned (.bool r) ∧ Below w.heap.size w w' := by
  have hk := hr; unfold zcw at hk; haveI := hl.oneC; obtain ⟨S0, F1, rfl, hS0, hp0⟩ := zam hF0; refine zap Tryz.func26 rfl rfl rfl hp0 ?_; refine T.sr ?_; refine TL.run 1 rfl ?_; refine TL.ns (T.seq ?_); have hq := zal hk; clear hk; obtain ⟨r10, hr10, hk⟩ := hq; (try dsimp only at hk); refine T.region ?_; refine TL.e (Ew.aA 0 rfl rfl rfl rfl (fun w hw hF => zb3 _ w hF )) ?_; rintro _ _ ⟨⟨v8_0_0, cs8_0_0, v8_0_1, v8_0_2, v8_0_3⟩, F2, le1_2, ⟨hf8_0_0, hf8_0_1, hf8_0_2, hf8_0_3⟩, rfl, rfl⟩; dsimp only at hf8_0_0 hf8_0_1 hf8_0_2 hf8_0_3 ⊢; haveI := hf8_0_0.1.oneC; haveI := hf8_0_1.oneC; haveI := hf8_0_2.oneC; haveI := hf8_0_3.oneC; refine TL.run 1 rfl ?_; refine TL.e (Ew.ag rfl rfl rfl (fun w hw => zgp _ w (hw.fr (i := 0) rfl) (zaN) v8_0_0 cs8_0_0 hf8_0_0 v8_0_1 hf8_0_1 v8_0_2 hf8_0_2 v8_0_3 hf8_0_3 l vl (SlC.mono hl le1_2) r10 hr10)) ?_; rintro _ _ ⟨rfl, rfl⟩; refine TL.run 5 rfl ?_; refine TL.ns (T.seq ?_); refine T.af (ι := Unit) (fun z => [(4, .bool ((decide (r10.2 = 0)) && (decide (r10.1 = want))))]) (fun z => [.fr F2]) (fun z => True) ?_ ?_
  · refine T.region ?_; refine TL.run 3 rfl ?_; refine TL.gs rfl rfl rfl (fun h1 => ?_) (fun h1 => ?_)
    · have p1 := of_decide_eq_true h1; refine TL.run 5 rfl ?_; refine TL.nil ?_; exact K.ae () trivial (.b (zcQ h1) .nil) (List.Sublist.refl _)
    · have p1 := of_decide_eq_false h1; refine TL.run 5 rfl ?_; refine TL.nil ?_; exact K.ae () trivial (.b (zaA h1).symm .nil) (List.Sublist.refl _)
  · rintro _ _; refine T.ret ?_; obtain rfl := Option.some.inj hk; exact K.ai rfl rfl (fun w' hw => ⟨rfl, hw.isBelow⟩)
def zcv (fuel : Nat)  : Option Bool :=
  (zci (zaN) []).bind fun r9 =>
  (zcG (zaN) r9.1).bind fun r15 =>
  zaI (fun (x_1 : Bool) =>
    (bif x_1 then
      some false
      else
      (zci (zaN) [(GChoice.mk 1 15), (GChoice.mk 2 16), (GChoice.mk 9 14)]).bind fun r47 =>
      (zcG (zaN) r47.1).bind fun r53 =>
      zaI (fun (x_8 : Bool) =>
        (bif x_8 then
          some false
          else
          grd (0 ≤ 2 ∧ 2 ≤ ((za6 15 14 14).length : Int)) <|
          (zbB fuel (zaN) ((za6 15 14 14).take 2) 7 0).bind fun r83 =>
          zaI (fun (x_15 : Bool) =>
            (bif x_15 then
              some false
              else
              (zbB fuel (zaN) [] (-1) 100).bind fun r115 =>
              some (((decide (r115.2.2.2 = 0)) && (decide (r115.2.1 = 100))) && (!r115.2.2.1))))
          (fun k16 =>
            (bif decide (¬ r83.2.2.2 = 0) then
              k16 true
              else
              (bif decide (¬ r83.2.1 = 0) then
                k16 true
                else
                (bif r83.2.2.1 then
                  k16 true
                  else
                  (bif !(za7 r83.1 (za6 15 14 14)) then
                    k16 true
                    else
                    (zcw (za6 14 15 14) 1).bind fun r105 =>
                    (bif !r105 then
                      k16 true
                      else
                      (zcw (za6 15 15 14) 1).bind fun r110 =>
                      k16 (!r110)))))))))
      (fun k9 =>
        (bif decide (¬ r47.2 = 0) then
          k9 true
          else
          (bif decide (¬ r53.2 = 0) then
            k9 true
            else
            (bif !(za7 r47.1 (za6 15 14 14)) then
              k9 true
              else
              (zcw r47.1 1).bind fun r70 =>
              (bif !r70 then
                k9 true
                else
                k9 (!(zbJ r53.1 [2, 3])))))))))
  (fun k2 =>
    (bif decide (¬ r9.2 = 0) then
      k2 true
      else
      (bif decide (¬ r15.2 = 0) then
        k2 true
        else
        (bif !(za7 r9.1 (za6 14 14 14)) then
          k2 true
          else
          (zcw r9.1 3).bind fun r32 =>
          (bif !r32 then
            k2 true
            else
            k2 (!(zbJ r15.1 [1, 2, 3])))))))
theorem zdy (F0 : Frz) (w : World) (hF0 : F0.At w)  (fuel : Nat) (r : Bool) (hr : zcv fuel = some r) : Calls Tryz.prog 8 #[] w fun e w' => e = .returned (.bool r) ∧ Below w.heap.size w w' := by
  have hk := hr; unfold zcv at hk; obtain ⟨S0, F1, rfl, hS0, hp0⟩ := zam hF0; refine zap Tryz.func8 rfl rfl rfl hp0 ?_; refine T.sr ?_; refine TL.run 1 rfl ?_; refine TL.ns (T.seq ?_); have hq := zal hk; clear hk; obtain ⟨r9, hr9, hk⟩ := hq; (try dsimp only at hk); refine T.region ?_; refine TL.e (Ew.aA 0 rfl rfl rfl rfl (fun w hw hF => zb3 _ w hF )) ?_; rintro _ _ ⟨⟨v8_0_0, cs8_0_0, v8_0_1, v8_0_2, v8_0_3⟩, F2, le1_2, ⟨hf8_0_0, hf8_0_1, hf8_0_2, hf8_0_3⟩, rfl, rfl⟩; dsimp only at hf8_0_0 hf8_0_1 hf8_0_2 hf8_0_3 ⊢; haveI := hf8_0_0.1.oneC; haveI := hf8_0_1.oneC; haveI := hf8_0_2.oneC; haveI := hf8_0_3.oneC; refine TL.e (Ew.au [0] [] [] rfl rfl rfl rfl (by decide) (fun w hw hw2 hF => zdC _ w hF (zaN) v8_0_0 cs8_0_0 hf8_0_0 v8_0_1 hf8_0_1 v8_0_2 hf8_0_2 v8_0_3 hf8_0_3 [] (.slice none 0 0) (SlC.nil _ 2) r9 hr9)) ?_; rintro _ _ ⟨v9_0_0, -, rfl, rfl⟩; dsimp only [List.cons_append, List.nil_append]; refine TL.aC 0 rfl ?_; intro iv9_0_0 hmv9_0_0; refine TL.run 5 rfl ?_; refine TL.ns (T.seq ?_); refine T.av (fun w hw => hw.freezeS (i := 1) (j := 0) (by decide) rfl rfl) ?_; rintro F3 ⟨le2_3, hz3⟩; dsimp only [List.set, List.eraseIdx]; have hf3 := hz3.toF rfl GChoice.len; haveI := hf3.oneC; have hq := zal hk; clear hk; obtain ⟨r15, hr15, hk⟩ := hq; (try dsimp only at hk); refine T.region ?_; refine TL.e (Ew.aA 0 rfl rfl rfl rfl (fun w hw hF => zb3 _ w hF )) ?_; rintro _ _ ⟨⟨v13_0_0, cs13_0_0, v13_0_1, v13_0_2, v13_0_3⟩, F4, le3_4, ⟨hf13_0_0, hf13_0_1, hf13_0_2, hf13_0_3⟩, rfl, rfl⟩; dsimp only at hf13_0_0 hf13_0_1 hf13_0_2 hf13_0_3 ⊢; haveI := hf13_0_0.1.oneC; haveI := hf13_0_1.oneC; haveI := hf13_0_2.oneC; haveI := hf13_0_3.oneC; refine TL.run 1 rfl ?_; refine TL.e (Ew.aA 0 rfl rfl rfl rfl (fun w hw hF => zdG _ w hF (zaN) v13_0_0 cs13_0_0 hf13_0_0 v13_0_1 hf13_0_1 v13_0_2 hf13_0_2 v13_0_3 hf13_0_3 r9.1 v9_0_0 (SlC.mono hf3 le3_4) r15 hr15)) ?_; rintro _ _ ⟨v15_0_0, F5, le4_5, hf15_0_0, rfl, rfl⟩; have le3_5 := le3_4.trans le4_5; haveI := hf15_0_0.oneC; refine TL.run 5 rfl ?_; refine TL.ns (T.seq (T.seq ?_)); (try dsimp only at hk); have hq := zag hk; clear hk; obtain ⟨k2, hk2, hk⟩ := hq; (try dsimp only at hk); refine T.af (ι := Bool × FzB w (fun _ => False) S0) (fun z => [(40, .bool z.1)]) (fun z => [.fr z.2]) (fun z => k2 z.1 = some r ∧ F5.toFrz.Le z.2.toFrz) ?_ ?_
  · refine T.region ?_; refine TL.run 3 rfl ?_; refine TL.gs rfl rfl rfl (fun h3 => ?_) (fun h3 => ?_)
    · have p3 := of_decide_eq_true h3; replace hk := zaa hk h3; refine TL.run 20 rfl ?_; refine TL.nil ?_; exact K.ae (true, F5) ⟨hk, (Frz.Le.refl _)⟩ (.c .nil) (List.Sublist.refl _)
    · have p3 := of_decide_eq_false h3; replace hk := zab hk h3; refine TL.run 4 rfl ?_; refine TL.gs rfl rfl rfl (fun h4 => ?_) (fun h4 => ?_)
      · have p4 := of_decide_eq_true h4; replace hk := zaa hk h4; refine TL.run 16 rfl ?_; refine TL.nil ?_; exact K.ae (true, F5) ⟨hk, (Frz.Le.refl _)⟩ (.c .nil) (List.Sublist.refl _)
      · have p4 := of_decide_eq_false h4; replace hk := zab hk h4; refine TL.run 1 rfl ?_; refine TL.e (Ew.aA 0 rfl rfl rfl rfl (fun w hw hF => zct _ w hF 14 14 14)) ?_; rintro _ _ ⟨v26_0_0, F7, le5_7, hf26_0_0, hq, rfl⟩; obtain rfl := hq.symm; have le3_7 := le3_5.trans le5_7; haveI := hf26_0_0.oneC; refine TL.e (Ew.ag rfl rfl rfl (fun w hw => zbY _ w (hw.fr (i := 0) rfl) r9.1 v9_0_0 (SlC.mono hf3 le3_7) (za6 14 14 14) v26_0_0 hf26_0_0)) ?_; rintro _ _ ⟨rfl, rfl⟩; refine TL.run 3 rfl ?_; refine TL.gs rfl rfl rfl (fun h5 => ?_) (fun h5 => ?_)
        · replace hk := zaa hk h5; refine TL.run 10 rfl ?_; refine TL.nil ?_; exact K.ae (true, F7) ⟨hk, le5_7⟩ (.c .nil) (List.Sublist.refl _)
        · replace hk := zab hk h5; refine TL.run 1 rfl ?_; have hq := zal hk; clear hk; obtain ⟨r32, hr32, hk⟩ := hq; refine TL.e (Ew.ag rfl rfl rfl (fun w hw => zc1 _ w (hw.fr (i := 0) rfl) r9.1 v9_0_0 (SlC.mono hf3 le3_7) 3 r32 hr32)) ?_; rintro _ _ ⟨rfl, rfl⟩; refine TL.run 3 rfl ?_; refine TL.gs rfl rfl rfl (fun h6 => ?_) (fun h6 => ?_)
          · replace hk := zaa hk h6; refine TL.run 5 rfl ?_; refine TL.nil ?_; exact K.ae (true, F7) ⟨hk, le5_7⟩ (.c .nil) (List.Sublist.refl _)
          · replace hk := zab hk h6; refine TL.run 1 rfl ?_; refine TL.e (Ew.buildSlice rfl rfl rfl (by decide)) ?_; rintro _ _ ⟨g37, rfl, rfl⟩; refine TL.av (fun w hw => hw.freezeR (i := 1) (j := 0) (by decide) rfl rfl) ?_; rintro F8 ⟨le7_8, hz8⟩; dsimp only [List.set, List.eraseIdx]; have le5_8 := le5_7.trans le7_8; have hf8 : SlC F8.toFrz (.slice (some ⟨g37, 0, none⟩) 3 3) 1 ([1, 2, 3].map eI) := (SlK.lit hz8 rfl (Nat.le_refl _) (by decide)).toF (xs := [1, 2, 3]) rfl (fun _ => rfl); refine TL.e (Ew.ag rfl rfl rfl (fun w hw => zdF _ w (hw.fr (i := 0) rfl) r15.1 v15_0_0 (SlC.mono hf15_0_0 le5_8) [1, 2, 3] (.slice (some ⟨g37, 0, none⟩) 3 3) hf8)) ?_; rintro _ _ ⟨rfl, rfl⟩; refine TL.run 2 rfl ?_; refine TL.nil ?_; exact K.ae (!(zbJ r15.1 [1, 2, 3]), F8) ⟨hk, le5_8⟩ (.c .nil) (List.Sublist.refl _)
  · rintro ⟨x_1, F6⟩ ⟨hk, le5_6⟩; (try dsimp only at *); rw [← hk2] at hk; (try dsimp only at hk); refine T.cond rfl (fun h7 => ?_) (fun h7 => ?_)
    · replace hk := zaa hk h7; refine T.sr ?_; refine TL.run 1 rfl ?_; refine TL.ns (T.ret (K.ab ?_)); obtain rfl := Option.some.inj hk; exact K.ai rfl rfl (fun w' hw => ⟨rfl, hw.isBelow⟩)
    · replace hk := zab hk h7; refine T.skip (K.seq (T.seq ?_)); have hq := zal hk; clear hk; obtain ⟨r47, hr47, hk⟩ := hq; (try dsimp only at hk); refine T.region ?_; refine TL.e (Ew.aA 0 rfl rfl rfl rfl (fun w hw hF => zb3 _ w hF )) ?_; rintro _ _ ⟨⟨v42_0_0, cs42_0_0, v42_0_1, v42_0_2, v42_0_3⟩, F9, le6_9, ⟨hf42_0_0, hf42_0_1, hf42_0_2, hf42_0_3⟩, rfl, rfl⟩; dsimp only at hf42_0_0 hf42_0_1 hf42_0_2 hf42_0_3 ⊢; haveI := hf42_0_0.1.oneC; haveI := hf42_0_1.oneC; haveI := hf42_0_2.oneC; haveI := hf42_0_3.oneC; refine TL.y (Yv.build rfl rfl) ?_; refine TL.y (Yv.build rfl rfl) ?_; refine TL.y (Yv.build rfl rfl) ?_; refine TL.e (Ew.buildSlice rfl rfl rfl (by decide)) ?_; rintro _ _ ⟨g46, rfl, rfl⟩; refine TL.av (fun w hw => hw.freezeR (i := 1) (j := 0) (by decide) rfl rfl) ?_; rintro F10 ⟨le9_10, hz10⟩; dsimp only [List.set, List.eraseIdx]; have hf10 : SlC F10.toFrz (.slice (some ⟨g46, 0, none⟩) 3 3) 2 ([(GChoice.mk 1 15), (GChoice.mk 2 16), (GChoice.mk 9 14)].map GChoice.enc) := (SlK.lit hz10 rfl (Nat.le_refl _) (by decide)).toF (xs := [(GChoice.mk 1 15), (GChoice.mk 2 16), (GChoice.mk 9 14)]) rfl GChoice.len; refine TL.e (Ew.au [0] [] [] rfl rfl rfl rfl (by decide) (fun w hw hw2 hF => zdC _ w hF (zaN) v42_0_0 cs42_0_0 (SlD.mono (rep := GDomain.rep) (fun _ _ _ _ => GDomain.mono) hf42_0_0 le9_10) v42_0_1 (SlC.mono hf42_0_1 le9_10) v42_0_2 (SlC.mono hf42_0_2 le9_10) v42_0_3 (SlC.mono hf42_0_3 le9_10) [(GChoice.mk 1 15), (GChoice.mk 2 16), (GChoice.mk 9 14)] (.slice (some ⟨g46, 0, none⟩) 3 3) hf10 r47 hr47)) ?_; rintro _ _ ⟨v47_0_0, -, rfl, rfl⟩; dsimp only [List.cons_append, List.nil_append]; refine TL.aC 0 rfl ?_; intro iv47_0_0 hmv47_0_0; refine TL.run 5 rfl ?_; refine TL.ns (T.seq ?_); refine T.av (fun w hw => hw.freezeS (i := 1) (j := 0) (by decide) rfl rfl) ?_; rintro F11 ⟨le10_11, hz11⟩; dsimp only [List.set, List.eraseIdx]; have hf11 := hz11.toF rfl GChoice.len; haveI := hf11.oneC; have hq := zal hk; clear hk; obtain ⟨r53, hr53, hk⟩ := hq; (try dsimp only at hk); refine T.region ?_; refine TL.e (Ew.aA 0 rfl rfl rfl rfl (fun w hw hF => zb3 _ w hF )) ?_; rintro _ _ ⟨⟨v51_0_0, cs51_0_0, v51_0_1, v51_0_2, v51_0_3⟩, F12, le11_12, ⟨hf51_0_0, hf51_0_1, hf51_0_2, hf51_0_3⟩, rfl, rfl⟩; dsimp only at hf51_0_0 hf51_0_1 hf51_0_2 hf51_0_3 ⊢; haveI := hf51_0_0.1.oneC; haveI := hf51_0_1.oneC; haveI := hf51_0_2.oneC; haveI := hf51_0_3.oneC; refine TL.run 1 rfl ?_; refine TL.e (Ew.aA 0 rfl rfl rfl rfl (fun w hw hF => zdG _ w hF (zaN) v51_0_0 cs51_0_0 hf51_0_0 v51_0_1 hf51_0_1 v51_0_2 hf51_0_2 v51_0_3 hf51_0_3 r47.1 v47_0_0 (SlC.mono hf11 le11_12) r53 hr53)) ?_; rintro _ _ ⟨v53_0_0, F13, le12_13, hf53_0_0, rfl, rfl⟩; have le11_13 := le11_12.trans le12_13; haveI := hf53_0_0.oneC; refine TL.run 5 rfl ?_; refine TL.ns (T.seq (T.seq ?_)); (try dsimp only at hk); have hq := zag hk; clear hk; obtain ⟨k9, hk9, hk⟩ := hq; (try dsimp only at hk); refine T.af (ι := Bool × FzB w (fun _ => False) S0) (fun z => [(78, .bool z.1)]) (fun z => [.fr z.2]) (fun z => k9 z.1 = some r ∧ F13.toFrz.Le z.2.toFrz) ?_ ?_
      · refine T.region ?_; refine TL.run 3 rfl ?_; refine TL.gs rfl rfl rfl (fun h10 => ?_) (fun h10 => ?_)
        · have p10 := of_decide_eq_true h10; replace hk := zaa hk h10; refine TL.run 20 rfl ?_; refine TL.nil ?_; exact K.ae (true, F13) ⟨hk, (Frz.Le.refl _)⟩ (.c .nil) (List.Sublist.refl _)
        · have p10 := of_decide_eq_false h10; replace hk := zab hk h10; refine TL.run 4 rfl ?_; refine TL.gs rfl rfl rfl (fun h11 => ?_) (fun h11 => ?_)
          · have p11 := of_decide_eq_true h11; replace hk := zaa hk h11; refine TL.run 16 rfl ?_; refine TL.nil ?_; exact K.ae (true, F13) ⟨hk, (Frz.Le.refl _)⟩ (.c .nil) (List.Sublist.refl _)
          · have p11 := of_decide_eq_false h11; replace hk := zab hk h11; refine TL.run 1 rfl ?_; refine TL.e (Ew.aA 0 rfl rfl rfl rfl (fun w hw hF => zct _ w hF 15 14 14)) ?_; rintro _ _ ⟨v64_0_0, F15, le13_15, hf64_0_0, hq, rfl⟩; obtain rfl := hq.symm; have le11_15 := le11_13.trans le13_15; haveI := hf64_0_0.oneC; refine TL.e (Ew.ag rfl rfl rfl (fun w hw => zbY _ w (hw.fr (i := 0) rfl) r47.1 v47_0_0 (SlC.mono hf11 le11_15) (za6 15 14 14) v64_0_0 hf64_0_0)) ?_; rintro _ _ ⟨rfl, rfl⟩; refine TL.run 3 rfl ?_; refine TL.gs rfl rfl rfl (fun h12 => ?_) (fun h12 => ?_)
            · replace hk := zaa hk h12; refine TL.run 10 rfl ?_; refine TL.nil ?_; exact K.ae (true, F15) ⟨hk, le13_15⟩ (.c .nil) (List.Sublist.refl _)
            · replace hk := zab hk h12; refine TL.run 1 rfl ?_; have hq := zal hk; clear hk; obtain ⟨r70, hr70, hk⟩ := hq; refine TL.e (Ew.ag rfl rfl rfl (fun w hw => zc1 _ w (hw.fr (i := 0) rfl) r47.1 v47_0_0 (SlC.mono hf11 le11_15) 1 r70 hr70)) ?_; rintro _ _ ⟨rfl, rfl⟩; refine TL.run 3 rfl ?_; refine TL.gs rfl rfl rfl (fun h13 => ?_) (fun h13 => ?_)
              · replace hk := zaa hk h13; refine TL.run 5 rfl ?_; refine TL.nil ?_; exact K.ae (true, F15) ⟨hk, le13_15⟩ (.c .nil) (List.Sublist.refl _)
              · replace hk := zab hk h13; refine TL.run 1 rfl ?_; refine TL.e (Ew.buildSlice rfl rfl rfl (by decide)) ?_; rintro _ _ ⟨g75, rfl, rfl⟩; refine TL.av (fun w hw => hw.freezeR (i := 1) (j := 0) (by decide) rfl rfl) ?_; rintro F16 ⟨le15_16, hz16⟩; dsimp only [List.set, List.eraseIdx]; have le13_16 := le13_15.trans le15_16; have hf16 : SlC F16.toFrz (.slice (some ⟨g75, 0, none⟩) 2 2) 1 ([2, 3].map eI) := (SlK.lit hz16 rfl (Nat.le_refl _) (by decide)).toF (xs := [2, 3]) rfl (fun _ => rfl); refine TL.e (Ew.ag rfl rfl rfl (fun w hw => zdF _ w (hw.fr (i := 0) rfl) r53.1 v53_0_0 (SlC.mono hf53_0_0 le13_16) [2, 3] (.slice (some ⟨g75, 0, none⟩) 2 2) hf16)) ?_; rintro _ _ ⟨rfl, rfl⟩; refine TL.run 2 rfl ?_; refine TL.nil ?_; exact K.ae (!(zbJ r53.1 [2, 3]), F16) ⟨hk, le13_16⟩ (.c .nil) (List.Sublist.refl _)
      · rintro ⟨x_8, F14⟩ ⟨hk, le13_14⟩; (try dsimp only at *); rw [← hk9] at hk; (try dsimp only at hk); refine T.cond rfl (fun h14 => ?_) (fun h14 => ?_)
        · replace hk := zaa hk h14; refine T.sr ?_; refine TL.run 1 rfl ?_; refine TL.ns (T.ret (K.ab ?_)); obtain rfl := Option.some.inj hk; exact K.ai rfl rfl (fun w' hw => ⟨rfl, hw.isBelow⟩)
        · replace hk := zab hk h14; refine T.skip (K.seq (T.seq ?_)); have hq : (0 ≤ 2 ∧ 2 ≤ ((za6 15 14 14).length : Int)) ∧ _ := zaq hk; clear hk; obtain ⟨g82h, hk⟩ := hq; have hq := zal hk; clear hk; obtain ⟨r83, hr83, hk⟩ := hq; (try dsimp only at hk); refine T.region ?_; refine TL.e (Ew.aA 0 rfl rfl rfl rfl (fun w hw hF => zb3 _ w hF )) ?_; rintro _ _ ⟨⟨v80_0_0, cs80_0_0, v80_0_1, v80_0_2, v80_0_3⟩, F17, le14_17, ⟨hf80_0_0, hf80_0_1, hf80_0_2, hf80_0_3⟩, rfl, rfl⟩; dsimp only at hf80_0_0 hf80_0_1 hf80_0_2 hf80_0_3 ⊢; haveI := hf80_0_0.1.oneC; haveI := hf80_0_1.oneC; haveI := hf80_0_2.oneC; haveI := hf80_0_3.oneC; refine TL.e (Ew.aA 0 rfl rfl rfl rfl (fun w hw hF => zct _ w hF 15 14 14)) ?_; rintro _ _ ⟨v81_0_0, F18, le17_18, hf81_0_0, hq, rfl⟩; obtain rfl := hq.symm; haveI := hf81_0_0.oneC; refine TL.y (Yv.bZ (i := 2) rfl rfl rfl hf81_0_0 (List.length_map _) (show (2 : Int) = ((2 : Nat) : Int) from rfl) (by omega)) ?_; have hs82_ : SlC F18.toFrz (zeY v81_0_0 0 2 2) 2 (((za6 15 14 14).take 2).map GChoice.enc) := hf81_0_0.sliceh (i := 2) (by omega); haveI := hs82_.oneC; refine TL.e (Ew.aA 0 rfl rfl rfl rfl (fun w hw hF => zc4 _ w hF (zaN) v80_0_0 cs80_0_0 (SlD.mono (rep := GDomain.rep) (fun _ _ _ _ => GDomain.mono) hf80_0_0 le17_18) v80_0_1 (SlC.mono hf80_0_1 le17_18) v80_0_2 (SlC.mono hf80_0_2 le17_18) v80_0_3 (SlC.mono hf80_0_3 le17_18) ((za6 15 14 14).take 2) (zeY v81_0_0 0 2 2) hs82_ 7 0 fuel r83 hr83)) ?_; rintro _ _ ⟨v83_0_0, F19, le18_19, hf83_0_0, rfl, rfl⟩; haveI := hf83_0_0.oneC; refine TL.run 9 rfl ?_; refine TL.ns (T.seq (T.seq ?_)); (try dsimp only at hk); have hq := zag hk; clear hk; obtain ⟨k16, hk16, hk⟩ := hq; (try dsimp only at hk); refine T.af (ι := Bool × FzB w (fun _ => False) S0) (fun z => [(112, .bool z.1)]) (fun z => [.fr z.2]) (fun z => k16 z.1 = some r ∧ F19.toFrz.Le z.2.toFrz) ?_ ?_
          · refine T.region ?_; refine TL.run 3 rfl ?_; refine TL.gs rfl rfl rfl (fun h17 => ?_) (fun h17 => ?_)
            · have p17 := of_decide_eq_true h17; replace hk := zaa hk h17; refine TL.run 22 rfl ?_; refine TL.nil ?_; exact K.ae (true, F19) ⟨hk, (Frz.Le.refl _)⟩ (.c .nil) (List.Sublist.refl _)
            · have p17 := of_decide_eq_false h17; replace hk := zab hk h17; refine TL.run 4 rfl ?_; refine TL.gs rfl rfl rfl (fun h18 => ?_) (fun h18 => ?_)
              · have p18 := of_decide_eq_true h18; replace hk := zaa hk h18; refine TL.run 18 rfl ?_; refine TL.nil ?_; exact K.ae (true, F19) ⟨hk, (Frz.Le.refl _)⟩ (.c .nil) (List.Sublist.refl _)
              · have p18 := of_decide_eq_false h18; replace hk := zab hk h18; refine TL.run 3 rfl ?_; refine TL.gs rfl rfl rfl (fun h19 => ?_) (fun h19 => ?_)
                · replace hk := zaa hk h19; refine TL.run 15 rfl ?_; refine TL.nil ?_; exact K.ae (true, F19) ⟨hk, (Frz.Le.refl _)⟩ (.c .nil) (List.Sublist.refl _)
                · replace hk := zab hk h19; refine TL.run 1 rfl ?_; refine TL.e (Ew.aA 0 rfl rfl rfl rfl (fun w hw hF => zct _ w hF 15 14 14)) ?_; rintro _ _ ⟨v99_0_0, F21, le19_21, hf99_0_0, hq, rfl⟩; obtain rfl := hq.symm; haveI := hf99_0_0.oneC; refine TL.e (Ew.ag rfl rfl rfl (fun w hw => zbY _ w (hw.fr (i := 0) rfl) r83.1 v83_0_0 (SlC.mono hf83_0_0 le19_21) (za6 15 14 14) v99_0_0 hf99_0_0)) ?_; rintro _ _ ⟨rfl, rfl⟩; refine TL.run 3 rfl ?_; refine TL.gs rfl rfl rfl (fun h20 => ?_) (fun h20 => ?_)
                  · replace hk := zaa hk h20; refine TL.run 9 rfl ?_; refine TL.nil ?_; exact K.ae (true, F21) ⟨hk, le19_21⟩ (.c .nil) (List.Sublist.refl _)
                  · replace hk := zab hk h20; refine TL.e (Ew.aA 0 rfl rfl rfl rfl (fun w hw hF => zct _ w hF 14 15 14)) ?_; rintro _ _ ⟨v104_0_0, F22, le21_22, hf104_0_0, hq, rfl⟩; obtain rfl := hq.symm; have le19_22 := le19_21.trans le21_22; haveI := hf104_0_0.oneC; have hq := zal hk; clear hk; obtain ⟨r105, hr105, hk⟩ := hq; refine TL.e (Ew.ag rfl rfl rfl (fun w hw => zc1 _ w (hw.fr (i := 0) rfl) (za6 14 15 14) v104_0_0 hf104_0_0 1 r105 hr105)) ?_; rintro _ _ ⟨rfl, rfl⟩; refine TL.run 3 rfl ?_; refine TL.gs rfl rfl rfl (fun h21 => ?_) (fun h21 => ?_)
                    · replace hk := zaa hk h21; refine TL.run 4 rfl ?_; refine TL.nil ?_; exact K.ae (true, F22) ⟨hk, le19_22⟩ (.c .nil) (List.Sublist.refl _)
                    · replace hk := zab hk h21; refine TL.e (Ew.aA 0 rfl rfl rfl rfl (fun w hw hF => zct _ w hF 15 15 14)) ?_; rintro _ _ ⟨v109_0_0, F23, le22_23, hf109_0_0, hq, rfl⟩; obtain rfl := hq.symm; have le19_23 := le19_22.trans le22_23; haveI := hf109_0_0.oneC; have hq := zal hk; clear hk; obtain ⟨r110, hr110, hk⟩ := hq; refine TL.e (Ew.ag rfl rfl rfl (fun w hw => zc1 _ w (hw.fr (i := 0) rfl) (za6 15 15 14) v109_0_0 hf109_0_0 1 r110 hr110)) ?_; rintro _ _ ⟨rfl, rfl⟩; refine TL.run 2 rfl ?_; refine TL.nil ?_; exact K.ae (!r110, F23) ⟨hk, le19_23⟩ (.c .nil) (List.Sublist.refl _)
          · rintro ⟨x_15, F20⟩ ⟨hk, le19_20⟩; (try dsimp only at *); rw [← hk16] at hk; (try dsimp only at hk); refine T.cond rfl (fun h22 => ?_) (fun h22 => ?_)
            · replace hk := zaa hk h22; refine T.sr ?_; refine TL.run 1 rfl ?_; refine TL.ns (T.ret (K.ab ?_)); obtain rfl := Option.some.inj hk; exact K.ai rfl rfl (fun w' hw => ⟨rfl, hw.isBelow⟩)
            · replace hk := zab hk h22; refine T.skip (K.seq (T.seq ?_)); have hq := zal hk; clear hk; obtain ⟨r115, hr115, hk⟩ := hq; (try dsimp only at hk); refine T.region ?_; refine TL.e (Ew.aA 0 rfl rfl rfl rfl (fun w hw hF => zb3 _ w hF )) ?_; rintro _ _ ⟨⟨v114_0_0, cs114_0_0, v114_0_1, v114_0_2, v114_0_3⟩, F24, le20_24, ⟨hf114_0_0, hf114_0_1, hf114_0_2, hf114_0_3⟩, rfl, rfl⟩; dsimp only at hf114_0_0 hf114_0_1 hf114_0_2 hf114_0_3 ⊢; haveI := hf114_0_0.1.oneC; haveI := hf114_0_1.oneC; haveI := hf114_0_2.oneC; haveI := hf114_0_3.oneC; refine TL.e (Ew.aA 0 rfl rfl rfl rfl (fun w hw hF => zc4 _ w hF (zaN) v114_0_0 cs114_0_0 hf114_0_0 v114_0_1 hf114_0_1 v114_0_2 hf114_0_2 v114_0_3 hf114_0_3 [] (.slice none 0 0) (SlC.nil _ 2) (-1) 100 fuel r115 hr115)) ?_; rintro _ _ ⟨v115_0_0, F25, le24_25, hf115_0_0, rfl, rfl⟩; haveI := hf115_0_0.oneC; refine TL.run 8 rfl ?_; refine TL.ns (T.seq ?_); refine T.af (ι := Unit) (fun z => [(0, .bool (((decide (r115.2.2.2 = 0)) && (decide (r115.2.1 = 100))) && (!r115.2.2.1)))]) (fun z => [.fr F25]) (fun z => True) ?_ ?_
              · refine T.region ?_; refine TL.run 3 rfl ?_; refine TL.gs rfl rfl rfl (fun h23 => ?_) (fun h23 => ?_)
                · have p23 := of_decide_eq_true h23; refine TL.run 4 rfl ?_; refine TL.gs rfl rfl rfl (fun h24 => ?_) (fun h24 => ?_)
                  · have p24 := of_decide_eq_true h24; refine TL.run 4 rfl ?_; refine TL.nil ?_; exact K.ae () trivial (.b (zcQ (zaW h23 h24)) .nil) (List.Sublist.refl _)
                  · have p24 := of_decide_eq_false h24; refine TL.run 4 rfl ?_; refine TL.nil ?_; exact K.ae () trivial (.b (zaA (zaW h23 h24)).symm .nil) (List.Sublist.refl _)
                · have p23 := of_decide_eq_false h23; refine TL.run 8 rfl ?_; refine TL.nil ?_; exact K.ae () trivial (.b (zaA (zaA h23)).symm .nil) (List.Sublist.refl _)
              · rintro _ _; refine T.ret ?_; obtain rfl := Option.some.inj hk; exact K.ai rfl rfl (fun w' hw => ⟨rfl, hw.isBelow⟩)
def zc3 (fuel : Nat) (p : GProblem) : Option Bool :=
  (zcO fuel p 10 40).bind fun r4 =>
  some r4
theorem zfI (F0 : Frz) (w : World) (hF0 : F0.At w) (p : GProblem) (vp_0 : Value) (cp_0 : List (List Value)) (hp_0 : SlD GDomain.rep F0 vp_0 2 cp_0 p.Domains) (vp_1 : Value) (hp_1 : SlC F0 vp_1 5 (p.Rules.Pairs.map GPair.enc)) (vp_2 : Value) (hp_2 : SlC F0 vp_2 5 (p.Rules.Loads.map GLoad.enc)) (vp_3 : Value) (hp_3 : SlC F0 vp_3 4 (p.Rules.Caps.map GCap.enc)) (fuel : Nat) (r : Bool) (hr : zc3 fuel p = some r) : Calls Tryz.prog 7 #[.agg [vp_0, vp_1, vp_2, vp_3].toArray] w fun e w' => e = .returned (.bool r) ∧ Below w.heap.size w w' := by
  have hk := hr; unfold zc3 at hk; haveI := hp_0.1.oneC; haveI := hp_1.oneC; haveI := hp_2.oneC; haveI := hp_3.oneC; obtain ⟨S0, F1, rfl, hS0, hp0⟩ := zam hF0; refine zap Tryz.func7 rfl rfl rfl hp0 ?_; refine T.sr ?_; refine TL.e (Ew.az rfl rfl) ?_; rintro _ _ ⟨g1, rfl, rfl⟩; refine TL.run 1 rfl ?_; refine TL.ns (T.seq ?_); have hq := zal hk; clear hk; obtain ⟨r4, hr4, hk⟩ := hq; (try dsimp only at hk); refine T.region ?_; refine TL.y (Yv.aj 0 rfl rfl rfl rfl) ?_; refine TL.e (Ew.ag rfl rfl rfl (fun w hw => zfR _ w (hw.fr (i := 1) rfl) p vp_0 cp_0 hp_0 vp_1 hp_1 vp_2 hp_2 vp_3 hp_3 10 40 fuel r4 hr4)) ?_; rintro _ _ ⟨rfl, rfl⟩; refine TL.run 1 rfl ?_; refine TL.ns (T.ret ?_); obtain rfl := Option.some.inj hk; exact K.ai rfl rfl (fun w' hw => ⟨rfl, hw.isBelow⟩)
theorem zhU (b : Bool) : (bif b then true else false) = b := by cases b <;> rfl
theorem zjh {p : GProblem} {a b : Int} {fuel : Nat} (hf : 1000 ≤ fuel) : ∃ r, zcO fuel p a b = some r := by
  unfold zcO; simp only [zaI]; refine zhk (σ := Int) (I := fun i => 0 ≤ i ∧ i ≤ 600) (μ := fun i => (600 - i).toNat) (post := fun o => ∃ r, o = some r) ⟨by omega, by omega⟩ (by omega) ?_; intro i next hi hn; by_cases h1 : i < (p.Domains.length : Int) <;> by_cases h2 : i < 600
  · rw [decide_eq_true h1, decide_eq_true h2, Bool.and_true, cond_true, zaT ⟨hi.1, h1⟩]
    cases decide (60 < ((nth p.Domains i.toNat).Channels.length : Int))
    · exact hn _ ⟨by omega, by omega⟩ (by omega)
    · exact ⟨_, rfl⟩
  · rw [decide_eq_false h2, Bool.and_false, cond_false]; exact ⟨_, rfl⟩
  · rw [decide_eq_false h1, Bool.false_and, cond_false]; exact ⟨_, rfl⟩
  · rw [decide_eq_false h1, Bool.false_and, cond_false]; exact ⟨_, rfl⟩
theorem allEq {α : Type} [Inhabited α] [DecidableEq α] {a b : List α} (hl : a.length = b.length) : ((List.range a.length).all fun i => decide (nth a i = nth b i)) = decide (a = b) := by
  rw [Bool.eq_iff_iff, List.all_eq_true, decide_eq_true_eq]; constructor
  · intro h; refine List.ext_getElem hl fun i h1 h2 => ?_; have := of_decide_eq_true (h i (List.mem_range.2 h1))
    rwa [zaP h1, zaP h2] at this
  · rintro rfl i _; simp
theorem zjv {α : Type} [Inhabited α] [DecidableEq α] {a b : List α} {r : α → α → Bool} {k : Unit → Bool} (hr : ∀ x y, r x y = !decide (x = y)) (hl : a.length = b.length) : zai (fun (i : Nat) (next : Unit → Bool) (_ : Unit) => bif r (nth a i) (nth b i) then false else next ()) k (a.length - 0) 0 () = (decide (a = b) && k ()) := by
  rw [Nat.sub_zero, zf1 (fun i => decide (nth a i = nth b i)) (fun i next hi => by rw [hr]; cases decide (nth a i = nth b i) <;> rfl), allEq hl]
theorem eqL_x {α : Type} [Inhabited α] [DecidableEq α] {a b : List α} {r : α → α → Bool} (hr : ∀ x y, r x y = !decide (x = y)) : (bif decide (¬ (a.length : Int) = (b.length : Int)) then false else zai (fun (i : Nat) (next : Unit → Bool) (_ : Unit) => bif r (nth a i) (nth b i) then false else next ()) (fun _ => true) (a.length - 0) 0 ()) = decide (a = b) := by
  by_cases hl : a.length = b.length
  · rw [decide_eq_false (by omega), cond_false, zjv hr hl, Bool.and_true]
  · rw [decide_eq_true (by omega), cond_true, decide_eq_false (fun e => hl (by rw [e]))]
theorem zff (l : List GChoice) : zav l = zbr l := by
  have e1 : zav l = (List.range' 0 (l.length - 0)).all fun i => (zah (nth l i).Station && zan (nth l i).Channel 2 51) && !(decide (0 < (i : Int)) && decide ((nth l i).Station ≤ (nth l (((i : Int) - 1).toNat)).Station)) := by
    refine (zbS (k := fun _ => true) (z := false) (fun i => (zah (nth l i).Station && zan (nth l i).Channel 2 51) && !(decide (0 < (i : Int)) && decide ((nth l i).Station ≤ (nth l (((i : Int) - 1).toNat)).Station))) (fun i next h1 h2 => ?_)).trans ?_
    · cases zah (nth l i).Station <;> cases zan (nth l i).Channel 2 51 <;> cases (decide (0 < (i : Int)) && decide ((nth l i).Station ≤ (nth l (((i : Int) - 1).toNat)).Station)) <;> rfl
    · exact zhU _
  rw [e1]; symm; refine (zbS (k := fun _ => true) (z := false) (fun i => (zah (nth l i).Station && zan (nth l i).Channel 2 51) && !(decide (0 < (i : Int)) && decide ((nth l i).Station ≤ (nth l (((i : Int) - 1).toNat)).Station))) (fun i next h1 h2 => ?_)).trans ?_
  · rw [zde (nth l i).Channel 2, zde 51]; unfold zan
    show (bif (((!zah (nth l i).Station || _) || _) || _) then _ else _) = _
    cases zah (nth l i).Station <;> cases decide (2 ≤ (nth l i).Channel) <;> cases decide ((nth l i).Channel ≤ 51) <;> cases (decide (0 < (i : Int)) && decide ((nth l i).Station ≤ (nth l (((i : Int) - 1).toNat)).Station)) <;> rfl
  · exact zhU _
def onL : List GChoice → Int → Int
  | [], _ => 0
  | x :: r, n => bif decide (x.Station = n) then x.Channel else onL r n
theorem on_x (l : List GChoice) (n : Int) : zaC l n = onL l n := by
  have key : ∀ m i, i + m = l.length → zai (fun (i : Nat) (next : Unit → Int) (_ : Unit) => bif decide ((nth l i).Station = n) then (nth l i).Channel else next ()) (fun _ => (0 : Int)) m i () = onL (l.drop i) n := by
    intro m
    induction m with
    | zero => intro i e; rw [List.drop_eq_nil_of_le (show l.length ≤ i by omega)]; rfl
    | succ m ih =>
      intro i e; have h2 := ih (i + 1) (by omega); rw [List.drop_eq_getElem_cons (show i < l.length by omega), ← zaP (show i < l.length by omega)]
      show (bif decide ((nth l i).Station = n) then (nth l i).Channel else _) = bif decide ((nth l i).Station = n) then (nth l i).Channel else _
      rw [← h2]
  have := key l.length 0 (by omega); rw [List.drop_zero] at this; exact this
theorem zi1 {x : GChoice} {n : Int} (h : x.Station ≠ n) : ∀ a, onL (a ++ [x]) n = onL a n
  | [] => by show (bif decide (x.Station = n) then x.Channel else 0) = 0; rw [decide_eq_false h]; rfl
  | y :: a => by
    show (bif decide (y.Station = n) then y.Channel else onL (a ++ [x]) n) = bif decide (y.Station = n) then y.Channel else onL a n
    rw [zi1 h a]
theorem ziW {x : GChoice} {n : Int} (h : x.Station = n) : ∀ a : List GChoice, (∀ y ∈ a, y.Station ≠ n) → onL (a ++ [x]) n = x.Channel
  | [], _ => by show (bif decide (x.Station = n) then x.Channel else 0) = _; rw [decide_eq_true h]; rfl
  | y :: a, ha => by
    show (bif decide (y.Station = n) then y.Channel else onL (a ++ [x]) n) = _
    rw [decide_eq_false (ha y (List.mem_cons_self ..)), cond_false]; exact ziW h a fun z hz => ha z (List.mem_cons_of_mem _ hz)
structure VL (l : List GChoice) : Prop where
  st : ∀ i, i < l.length → 0 ≤ (nth l i).Station ∧ (nth l i).Station ≤ 511
  ch : ∀ i, i < l.length → 2 ≤ (nth l i).Channel ∧ (nth l i).Channel ≤ 51
  lt : ∀ i j, i < j → j < l.length → (nth l i).Station < (nth l j).Station
theorem zf7 (l : List GChoice) : zav l = (List.range' 0 (l.length - 0)).all fun i => (zah (nth l i).Station && zan (nth l i).Channel 2 51) && !(decide (0 < (i : Int)) && decide ((nth l i).Station ≤ (nth l (((i : Int) - 1).toNat)).Station)) := by
  refine (zbS (k := fun _ => true) (z := false) (fun i => (zah (nth l i).Station && zan (nth l i).Channel 2 51) && !(decide (0 < (i : Int)) && decide ((nth l i).Station ≤ (nth l (((i : Int) - 1).toNat)).Station))) (fun i next h1 h2 => ?_)).trans (zhU _)
  cases zah (nth l i).Station <;> cases zan (nth l i).Channel 2 51 <;> cases (decide (0 < (i : Int)) && decide ((nth l i).Station ≤ (nth l (((i : Int) - 1).toNat)).Station)) <;> rfl
theorem zjz {l : List GChoice} (h : zav l = true) : VL l := by
  rw [zf7, List.all_eq_true] at h; have g : ∀ i, i < l.length → _ := fun i hi => h i (List.mem_range'_1.2 ⟨by omega, by omega⟩)
  have hlt : ∀ j, 0 < j → j < l.length → (nth l (j - 1)).Station < (nth l j).Station := fun j h0 hj => by
    have h1 := zbR (g j hj); rw [decide_eq_true (show 0 < (j : Int) by omega), Bool.true_and, Bool.not_eq_true', decide_eq_false_iff_not, show ((j : Int) - 1).toNat = j - 1 by omega] at h1; omega
  refine ⟨fun i hi => zby (zbA (zbA (g i hi))), fun i hi => ?_, fun i j hij hj => ?_⟩
  · have := zbR (zbA (g i hi)); unfold zan at this; rw [Bool.and_eq_true, decide_eq_true_eq, decide_eq_true_eq] at this; exact this
  · induction j with
    | zero => omega
    | succ j ih =>
      have h1 := hlt (j + 1) (by omega) hj; rw [show j + 1 - 1 = j from rfl] at h1; rcases Nat.lt_or_ge i j with h2 | h2
      · have := ih h2 (by omega); omega
      · rw [show i = j by omega]; exact h1
theorem zen {α : Type} [Inhabited α] {l : List α} {i : Nat} (hi : i < l.length) : l.take (i + 1) = l.take i ++ [nth l i] := by
  rw [List.take_add_one, List.getElem?_eq_getElem hi, zaP hi]; rfl
theorem zhN {α : Type} [Inhabited α] {l : List α} {i : Nat} {y : α} (h : y ∈ l.take i) : ∃ j, j < i ∧ j < l.length ∧ nth l j = y := by
  obtain ⟨j, hj, rfl⟩ := List.mem_iff_getElem.1 h; (have h1 : j < i ∧ j < l.length := by rw [List.length_take] at hj; omega); exact ⟨j, h1.1, h1.2, by rw [zaP h1.2, List.getElem_take]⟩
theorem ze7 {l : List GChoice} (h : VL l) {i : Nat} (hi : i < l.length) (n : Int) : onL (l.take (i + 1)) n = if n = (nth l i).Station then (nth l i).Channel else onL (l.take i) n := by
  rw [zen hi]; by_cases e : n = (nth l i).Station
  · rw [if_pos e]; refine ziW e.symm _ fun y hy => ?_; obtain ⟨j, h1, h2, rfl⟩ := zhN hy; have := h.lt j i h1 hi; omega
  · rw [if_neg e]; exact zi1 (fun h => e h.symm) _
def TabC (l : List GChoice) (c : Vec 512 Int) : Prop := ∀ n, n < 512 → Vec.get c n = onL l (n : Int)
theorem TabC.get {l : List GChoice} {c : Vec 512 Int} (h : TabC l c) {i : Int} (hi : 0 ≤ i ∧ i < 512) : Vec.get c i.toNat = onL l i := by
  rw [h _ (by omega), show ((i.toNat : Nat) : Int) = i by omega]
def zfL (l : List GChoice) (n : Int) (s : Int) (x : GLoad) : Int := bif (((decide (x.To = n)) && (decide (onL l x.From = onL l n))) && (decide (x.Low ≤ onL l n))) && (decide (onL l n ≤ x.High)) then wI (s + x.Weight) else s
theorem zjt (p : GProblem) (l : List GChoice) (n : Int) : zcK p n (onL l n) l = p.Rules.Loads.foldl (zfL l n) 0 := by
  rw [← zcr]; refine (zcT (k := fun s : Int => s) (n := p.Rules.Loads.length - 0) (s := 0) (fun i s => zfL l n s (nth p.Rules.Loads i)) (fun i next s hi => ?_)); rw [on_x]; unfold zfL
  cases (((decide ((nth p.Rules.Loads i).To = n)) && (decide (onL l (nth p.Rules.Loads i).From = onL l n))) && (decide ((nth p.Rules.Loads i).Low ≤ onL l n))) && (decide (onL l n ≤ (nth p.Rules.Loads i).High)) <;> rfl
theorem zi6 (l : List Int) (v : Int) : decide (0 ≤ zbm l v) = l.any fun x => decide (x = v) := by
  have key : ∀ m i, i + m = l.length → decide (0 ≤ zai (fun (i : Nat) (next : Unit → Int) (_ : Unit) => bif decide (v = nth l i) then (i : Int) else next ()) (fun _ => (-1)) m i ()) = (l.drop i).any fun x => decide (x = v) := by
    intro m
    induction m with
    | zero => intro i e; rw [List.drop_eq_nil_of_le (show l.length ≤ i by omega)]; rfl
    | succ m ih =>
      intro i e; have h2 := ih (i + 1) (by omega); rw [List.drop_eq_getElem_cons (show i < l.length by omega), List.any_cons, ← zaP (show i < l.length by omega)]
      show decide (0 ≤ (bif decide (v = nth l i) then (i : Int) else _)) = _
      by_cases e2 : v = nth l i
      · rw [decide_eq_true e2, decide_eq_true e2.symm, cond_true, decide_eq_true (by omega)]; rfl
      · have e3 : ¬ nth l i = v := fun h => e2 h.symm; rw [decide_eq_false e3, Bool.false_or, ← h2]
        show decide (0 ≤ (bif decide (v = nth l i) then (i : Int) else _)) = _
        rw [decide_eq_false e2]; rfl
  have := key l.length 0 (by omega); rw [List.drop_zero] at this; exact this
theorem zfq (l : List Int) (v : Int) : zaU l v = l.any fun x => decide (x = v) := by
  have h := zh3 (f := fun (i : Nat) (next : Unit → Bool) (_ : Unit) => bif decide (nth l i = v) then true else next ()) (k := fun _ => false) (n := l.length - 0) (fun i => decide (nth l i = v)) (fun i next hi => by cases decide (nth l i = v) <;> rfl); rw [Nat.sub_zero, zf5 (q := fun x => decide (x = v)), Bool.or_false] at h; exact h
theorem zhe (l : List Int) (v : Int) : zay l v = zaU l v := by
  unfold zay; rw [zi6, zfq]
theorem zja {ρ : Type} {l : List GChoice} (h : VL l) (K : Vec 512 Int → Option ρ) : ∃ c, TabC l c ∧ zai (fun (i_5 : Nat) (next4 : Vec 512 Int → Option ρ) (c_3 : Vec 512 Int) => grd (0 ≤ (nth l i_5).Station ∧ (nth l i_5).Station < (512 : Int)) <| next4 (Vec.put c_3 (((nth l i_5).Station).toNat) ((nth l i_5).Channel))) K (l.length - 0) 0 (Vec.fill 512 0) = K c := by
  obtain ⟨h1, h2⟩ := zck (k := K) (n := l.length - 0) (s := Vec.fill 512 (0 : Int))
    (f := fun (i_5 : Nat) (next4 : Vec 512 Int → Option ρ) (c_3 : Vec 512 Int) => grd (0 ≤ (nth l i_5).Station ∧ (nth l i_5).Station < (512 : Int)) <| next4 (Vec.put c_3 (((nth l i_5).Station).toNat) ((nth l i_5).Channel)))
    (fun i c => ∀ n, n < 512 → Vec.get c n = onL (l.take i) (n : Int))
    (fun i c => Vec.put c (((nth l i).Station).toNat) ((nth l i).Channel))
    (fun n hn => Vec.get_fill hn)
    (fun i c hi hc n hn => by
      have h3 := h.st i (by omega); rw [ze7 h (by omega), Vec.get_put (by omega), hc n hn]; by_cases e : (n : Int) = (nth l i).Station
      · rw [if_pos e, if_pos (by omega)]
      · rw [if_neg e, if_neg (by omega)])
    (fun i next c hi hc => by
      have h3 := h.st i (by omega)
      rw [zaT ⟨h3.1, by omega⟩])
  refine ⟨_, fun n hn => ?_, h1⟩; have := h2 n hn
  rwa [Nat.sub_zero, List.take_length] at this
theorem zjG {a b : Int} (h : zbf a b = true) : 2 ≤ a ∧ a ≤ b ∧ b ≤ 51 :=
  ⟨of_decide_eq_true (zbA (zbA h)), of_decide_eq_true (zbR (zbA h)), of_decide_eq_true (zbR h)⟩
theorem zfE (a b : List GChoice) : za7 a b = decide (a = b) := eqL_x (r := fun x y : GChoice => !(decide (x.Station = y.Station) && decide (x.Channel = y.Channel))) fun x y => by
  have : (decide (x.Station = y.Station) && decide (x.Channel = y.Channel)) = decide (x = y) := by
    rw [Bool.eq_iff_iff]; cases x; cases y; simp
  rw [this]
theorem zgR {α : Type} [Inhabited α] {lt : α → α → Bool} (ht : ∀ a b c, lt a b = true → lt b c = true → lt a c = true) {l : List α} : adjB lt l = true ↔ l.Pairwise (fun a b => lt a b = true) := by
  constructor
  · intro h; have h1 : ∀ i, i + 1 < l.length → lt (nth l i) (nth l (i + 1)) = true := fun i hi => List.all_eq_true.1 h (i + 1) (List.mem_range'_1.2 ⟨by omega, by omega⟩)
    have h2 : ∀ d i, i + d + 1 < l.length → lt (nth l i) (nth l (i + d + 1)) = true := by
      intro d
      induction d with
      | zero => intro i hi; exact h1 i hi
      | succ d ih => intro i hi; exact ht _ _ _ (ih i (by omega)) (h1 (i + d + 1) (by omega))
    refine List.pairwise_iff_getElem.2 fun i j hi hj hij => ?_; rw [← zaP hi, ← zaP hj]; have := h2 (j - i - 1) i (by omega)
    rwa [show i + (j - i - 1) + 1 = j by omega] at this
  · intro h; refine List.all_eq_true.2 fun i hi => ?_; have hi := List.mem_range'_1.1 hi; rw [zaP (show i - 1 < l.length by omega), zaP (show i < l.length by omega)]; exact List.pairwise_iff_getElem.1 h (i - 1) i _ _ (by omega)
theorem lexL_cons {a b : Int} {x y : List Int} : lexL (a :: x) (b :: y) = true ↔ a < b ∨ (a = b ∧ lexL x y = true) := by
  show (bif decide (a = b) then lexL x y else decide (a < b)) = true ↔ _
  by_cases h : a = b
  · rw [decide_eq_true h, cond_true]; exact ⟨fun h1 => .inr ⟨h, h1⟩, fun h1 => h1.elim (fun h2 => absurd h2 (by omega)) (·.2)⟩
  · rw [decide_eq_false h, cond_false, decide_eq_true_eq]; exact ⟨.inl, fun h1 => h1.elim id (fun h2 => absurd h2.1 h)⟩
theorem zfN : ∀ a b c : List Int, lexL a b = true → lexL b c = true → lexL a c = true
  | [], _, _, h, _ => by cases h
  | _ :: _, [], _, h, _ => by cases h
  | _ :: _, _ :: _, [], _, h => by cases h
  | a :: x, b :: y, c :: z, h1, h2 => by
    rw [lexL_cons] at h1 h2 ⊢; rcases h1 with h1 | ⟨h1, h3⟩ <;> rcases h2 with h2 | ⟨h2, h4⟩
    · left; omega
    · left; omega
    · left; omega
    · exact .inr ⟨by omega, zfN x y z h3 h4⟩
theorem zfP {α : Type} [Inhabited α] {lt : α → α → Bool} (ht : ∀ a b c, lt a b = true → lt b c = true → lt a c = true) {l l' : List α} (hs : l'.Sublist l) (h : adjB lt l = true) : adjB lt l' = true := (zgR ht).2 (((zgR ht).1 h).sublist hs)
theorem zeZ {a b : Bool} (ha : a = true) (hb : b = true) : (a && b) = true := by rw [ha, hb]; rfl
structure RulesP (r : GRules) : Prop where
  g : RulesGood r
  ip : adjB (fun a b => lexL (zcY a) (zcY b)) r.Pairs = true
  il : adjB (fun a b => lexL (zcR a) (zcR b)) r.Loads = true
  ic : adjB (fun a b => lexL (capL a) (capL b)) r.Caps = true
theorem zhV {r : GRules} (h : zdb r = true) : RulesP r := by
  have hg := zbH h; unfold zdb at h; have h1 := zbR h; have h2 := zbR h1; have h3 := zbR h2; have h4 := zbR h3; have h5 := zbR h4; have h6 := zbR h5; have h7 := zbR h6; exact ⟨hg, zbA h2, zbA h5, zbR h7⟩
theorem RulesP.b {r : GRules} (h : RulesP r) : zdb r = true := by
  have a := h.g.np; have b := h.g.nl; have c := h.g.nc; exact zeZ (decide_eq_true (by omega)) (zeZ (List.all_eq_true.2 h.g.p) (zeZ h.ip (zeZ (decide_eq_true (by omega)) (zeZ (List.all_eq_true.2 h.g.l) (zeZ h.il (zeZ (decide_eq_true (by omega)) (zeZ (List.all_eq_true.2 h.g.c) h.ic)))))))
theorem zjf (a b c : GPair) : lexL (zcY a) (zcY b) = true → lexL (zcY b) (zcY c) = true → lexL (zcY a) (zcY c) = true := zfN _ _ _
theorem zic (a b c : GLoad) : lexL (zcR a) (zcR b) = true → lexL (zcR b) (zcR c) = true → lexL (zcR a) (zcR c) = true := zfN _ _ _
theorem zjr (a b c : GCap) : lexL (capL a) (capL b) = true → lexL (capL b) (capL c) = true → lexL (capL a) (capL c) = true := zfN _ _ _
theorem RulesP.sub {r r' : GRules} (h : RulesP r) (hp : r'.Pairs.Sublist r.Pairs) (hl : r'.Loads.Sublist r.Loads) (hc : r'.Caps.Sublist r.Caps) : RulesP r' := by
  refine ⟨⟨?_, ?_, ?_, fun x hx => h.g.p x (hp.subset hx), fun x hx => h.g.l x (hl.subset hx), fun x hx => h.g.c x (hc.subset hx)⟩, zfP zjf hp h.ip, zfP zic hl h.il, zfP zjr hc h.ic⟩
  · have := hp.length_le; have := h.g.np; omega
  · have := hl.length_le; have := h.g.nl; omega
  · have := hc.length_le; have := h.g.nc; omega
theorem zi5 {l : List GChoice} (h : VL l) : zav l = true := by
  rw [zf7]; refine List.all_eq_true.2 fun i hi => ?_; have hi := List.mem_range'_1.1 hi; have a := h.st i (by omega); have b := h.ch i (by omega); refine zeZ (zeZ (zeZ (decide_eq_true a.1) (decide_eq_true a.2)) (zeZ (decide_eq_true b.1) (decide_eq_true b.2))) ?_; rw [Bool.not_eq_true', Bool.and_eq_false_iff, decide_eq_false_iff_not, decide_eq_false_iff_not]; rcases Nat.eq_zero_or_pos i with h0 | h0
  · left; omega
  · right; have := h.lt (i - 1) i (by omega) (by omega); rw [show ((i : Int) - 1).toNat = i - 1 by omega]; omega
theorem zei (p : GProblem) (c : GCap) (l : List GChoice) (h : 2 ≤ c.Low) : zad p c l = ((zan (onL l c.Station) c.Low c.High) && decide (c.Max < p.Rules.Loads.foldl (zfL l c.Station) 0)) := by
  unfold zad zan; rw [on_x, zjt]; by_cases h0 : c.Low ≤ onL l c.Station
  · rw [decide_eq_true h0, decide_eq_true (show ¬ onL l c.Station = 0 by omega)]; rfl
  · rw [decide_eq_false h0]; simp
theorem zdY (c : GPair) (l : List GChoice) : zaf c l = true ↔ onL l c.A ≠ 0 ∧ onL l c.B ≠ 0 ∧ c.Low ≤ onL l c.A ∧ onL l c.A ≤ c.High ∧ onL l c.B = wI (onL l c.A + c.Offset) := by
  unfold zaf; rw [on_x, on_x]; simp only [Bool.and_eq_true, decide_eq_true_eq, and_assoc, ne_eq]
structure FineP (p : GProblem) (l : List GChoice) (all : Bool) : Prop where
  dm : ∀ d ∈ p.Domains, (((decide (onL l d.Station = 0)) && all) || ((decide (¬ onL l d.Station = 0)) && (!zaU d.Channels (onL l d.Station)))) = false
  fo : ∀ x ∈ l, anyD p x.Station = true
  pr : ∀ c ∈ p.Rules.Pairs, zaf c l = false
  cp : ∀ c ∈ p.Rules.Caps, zad p c l = false
theorem zfc {c : GCap} (h : za2 c = true) : 2 ≤ c.Low := (zjG (zbR h)).1
theorem zd8 {n : Nat} {f : Nat → (Int × Int → GViolation) → Int × Int → GViolation} {K : Int × Int → GViolation} {q : Nat → Bool} {c : Int} (hc : c ≠ 0) (hf : ∀ i next s, i < n → f i next s = bif q i then ⟨c, (i : Int)⟩ else next s) (s : Int × Int) : ((zai f K n 0 s).Kind = 0 → (∀ i, i < n → q i = false) ∧ (K s).Kind = 0) ∧ ((∀ i, i < n → q i = false) → zai f K n 0 s = K s) := by
  have key : ∀ m i, i + m = n → ((zai f K m i s).Kind = 0 → (∀ j, i ≤ j → j < n → q j = false) ∧ (K s).Kind = 0) ∧ ((∀ j, i ≤ j → j < n → q j = false) → zai f K m i s = K s) := by
    intro m
    induction m with
    | zero => intro i e; exact ⟨fun h => ⟨fun j h1 h2 => by omega, h⟩, fun _ => rfl⟩
    | succ m ih =>
      intro i e; obtain ⟨a, b⟩ := ih (i + 1) (by omega); have e2 : zai f K (m + 1) i s = bif q i then ⟨c, (i : Int)⟩ else zai f K m (i + 1) s := hf i _ s (by omega); rw [e2]
      cases h : q i
      · rw [cond_false]; refine ⟨fun h1 => ⟨fun j h2 h3 => ?_, (a h1).2⟩, fun h1 => b fun j h2 h3 => h1 j (by omega) h3⟩; rcases Nat.eq_or_lt_of_le h2 with rfl | h4
        · exact h
        · exact (a h1).1 j h4 h3
      · rw [cond_true]; refine ⟨fun h1 => absurd h1 hc, fun h1 => ?_⟩; have := h1 i (Nat.le_refl _) (by omega); rw [h] at this; cases this
  obtain ⟨a, b⟩ := key n 0 (by omega); exact ⟨fun h => ⟨fun i hi => (a h).1 i (Nat.zero_le _) hi, (a h).2⟩, fun h => b fun j _ hj => h j hj⟩
theorem zfS {α : Type} [Inhabited α] {l : List α} {P : α → Prop} (h : ∀ i, i < l.length - 0 → P (nth l i)) : ∀ x ∈ l, P x := fun x hx => by
  obtain ⟨i, hi, e⟩ := List.mem_iff_getElem.1 hx; rw [← e, ← zaP hi]; exact h i (by omega)
theorem first_of {p : GProblem} {l : List GChoice} {all : Bool} : ((za5 p l all).Kind = 0 → FineP p l all) ∧ (FineP p l all → za5 p l all = ⟨0, 0⟩) := by
  have e : za5 p l all = zai (fun (i : Nat) (next : (Int × Int) → GViolation) (s : Int × Int) => bif (((decide (onL l (nth p.Domains i).Station = 0)) && all) || ((decide (¬ onL l (nth p.Domains i).Station = 0)) && (!zaU (nth p.Domains i).Channels (onL l (nth p.Domains i).Station)))) then ⟨1, (i : Int)⟩ else next s) (fun s => zai (fun (i : Nat) (next : (Int × Int) → GViolation) (s : Int × Int) => bif !anyD p (nth l i).Station then ⟨2, (i : Int)⟩ else next s) (fun s => zai (fun (i : Nat) (next : (Int × Int) → GViolation) (s : Int × Int) => bif zaf (nth p.Rules.Pairs i) l then ⟨3, (i : Int)⟩ else next s) (fun s => zai (fun (i : Nat) (next : (Int × Int) → GViolation) (s : Int × Int) => bif zad p (nth p.Rules.Caps i) l then ⟨4, (i : Int)⟩ else next s) (fun s => ⟨0, 0⟩) (p.Rules.Caps.length - 0) 0 s) (p.Rules.Pairs.length - 0) 0 s) (l.length - 0) 0 s) (p.Domains.length - 0) 0 (0, 0) := by
    unfold za5; simp only [zaI, on_x, ze8]
  rw [e]; have a1 := fun K => zd8 (n := p.Domains.length - 0) (K := K) (q := fun i => (((decide (onL l (nth p.Domains i).Station = 0)) && all) || ((decide (¬ onL l (nth p.Domains i).Station = 0)) && (!zaU (nth p.Domains i).Channels (onL l (nth p.Domains i).Station))))) (c := 1) (by decide) (fun i next s hi => rfl) (0, 0); have a2 := fun K s => zd8 (n := l.length - 0) (K := K) (q := fun i => !anyD p (nth l i).Station) (c := 2) (by decide) (fun i next s hi => rfl) s; have a3 := fun K s => zd8 (n := p.Rules.Pairs.length - 0) (K := K) (q := fun i => zaf (nth p.Rules.Pairs i) l) (c := 3) (by decide) (fun i next s hi => rfl) s; have a4 := fun K s => zd8 (n := p.Rules.Caps.length - 0) (K := K) (q := fun i => zad p (nth p.Rules.Caps i) l) (c := 4) (by decide) (fun i next s hi => rfl) s; refine ⟨fun h => ?_, fun h => ?_⟩
  · obtain ⟨h1, h⟩ := (a1 _).1 h; obtain ⟨h2, h⟩ := (a2 _ _).1 h; obtain ⟨h3, h⟩ := (a3 _ _).1 h; obtain ⟨h4, h⟩ := (a4 _ _).1 h; exact ⟨zfS (P := fun d : GDomain => (((decide (onL l d.Station = 0)) && all) || ((decide (¬ onL l d.Station = 0)) && (!zaU d.Channels (onL l d.Station)))) = false) h1, zfS (P := fun x : GChoice => anyD p x.Station = true) fun i hi => by have := h2 i hi; rwa [Bool.not_eq_false'] at this, zfS (P := fun c => zaf c l = false) h3, zfS (P := fun c => zad p c l = false) h4⟩
  · rw [(a1 _).2 fun i hi => h.dm _ (zaz (by omega))]; rw [(a2 _ _).2 fun i hi => by rw [h.fo _ (zaz (by omega))]; rfl]; rw [(a3 _ _).2 fun i hi => h.pr _ (zaz (by omega))]; rw [(a4 _ _).2 fun i hi => h.cp _ (zaz (by omega))]
theorem zeF : ∀ {a b : List Int}, a.Pairwise (· < ·) → b.Pairwise (· < ·) → (∀ x, x ∈ a ↔ x ∈ b) → a = b
  | [], [], _, _, _ => rfl
  | [], y :: b, _, _, h => absurd ((h y).2 (List.mem_cons_self ..)) (by simp)
  | x :: a, [], _, _, h => absurd ((h x).1 (List.mem_cons_self ..)) (by simp)
  | x :: a, y :: b, ha, hb, h => by
    have h1 := List.pairwise_cons.1 ha; have h2 := List.pairwise_cons.1 hb
    have e : x = y := by
      rcases List.mem_cons.1 ((h x).1 (List.mem_cons_self ..)) with e | hx
      · exact e
      · rcases List.mem_cons.1 ((h y).2 (List.mem_cons_self ..)) with e | hy
        · exact e.symm
        · have := h1.1 y hy; have := h2.1 x hx; omega
    subst e; rw [zeF h1.2 h2.2 fun z => ?_]; constructor
    · intro hz; rcases List.mem_cons.1 ((h z).1 (List.mem_cons_of_mem _ hz)) with e | h3
      · have := h1.1 z hz; omega
      · exact h3
    · intro hz; rcases List.mem_cons.1 ((h z).2 (List.mem_cons_of_mem _ hz)) with e | h3
      · have := h2.1 z hz; omega
      · exact h3
theorem ziz {α : Type} [Inhabited α] {l : List α} {f : α → Int} (h : adjB (fun a b => decide (f a < f b)) l = true) : (l.map f).Pairwise (· < ·) := by
  have h1 : ∀ i, i + 1 < l.length → f (nth l i) < f (nth l (i + 1)) := fun i hi => by
    have := of_decide_eq_true (List.all_eq_true.1 h (i + 1) (List.mem_range'_1.2 ⟨by omega, by omega⟩))
    rwa [show i + 1 - 1 = i from rfl] at this
  have h2 : ∀ d i, i + d + 1 < l.length → f (nth l i) < f (nth l (i + d + 1)) := by
    intro d
    induction d with
    | zero => intro i hi; exact h1 i hi
    | succ d ih => intro i hi; have := ih i (by omega); have := h1 (i + d + 1) (by omega); rw [show i + (d + 1) + 1 = i + d + 1 + 1 by omega]; omega
  refine List.pairwise_iff_getElem.2 fun i j hi hj hij => ?_; rw [List.length_map] at hi hj; rw [List.getElem_map, List.getElem_map, ← zaP hi, ← zaP hj]; have := h2 (j - i - 1) i (by omega)
  rwa [show i + (j - i - 1) + 1 = j by omega] at this
theorem zcI {p : GProblem} (h : incD p = true) : (p.Domains.map (·.Station)).Pairwise (· < ·) := ziz h
theorem zeE {p : GProblem} (h : p.Domains.all okD = true) (i : Int) : hasD p i = anyD p i := by
  unfold hasD anyD; by_cases hi : 0 ≤ i ∧ i < 512
  · rw [decide_eq_true hi.1, decide_eq_true hi.2]; rfl
  · have e : (decide (0 ≤ i) && decide (i < 512)) = false := by
      rw [Bool.and_eq_false_iff, decide_eq_false_iff_not, decide_eq_false_iff_not]; omega
    rw [e, Bool.false_and]
    symm
    rw [List.any_eq_false]; intro d hd hx; have := zdn h hd; have := of_decide_eq_true hx; omega
theorem anyD_mem {p : GProblem} {i : Int} : anyD p i = true ↔ i ∈ p.Domains.map (·.Station) := by
  unfold anyD; rw [List.any_eq_true, List.mem_map]; constructor
  · rintro ⟨d, h1, h2⟩; exact ⟨d, h1, of_decide_eq_true h2⟩
  · rintro ⟨d, h1, rfl⟩; exact ⟨d, h1, decide_eq_true rfl⟩
structure OkP (p : GProblem) : Prop where
  d : p.Domains.all okD = true
  r : zdb p.Rules = true
  i : incD p = true
  l : zgk p = true
theorem zbx {p : GProblem} (h : okP p = true) : OkP p := ⟨zbA h, zbA (zbR h), zbA (zbR (zbR h)), zbR (zbR (zbR h))⟩
theorem OkP.len {p : GProblem} (h : OkP p) : p.Domains.length ≤ 512 := zfV h.d h.i
theorem zfp {l : List Int} (h : l.Pairwise (· ≤ ·)) : (Lib.compact l).Pairwise (· < ·) ∧ ∀ x, x ∈ Lib.compact l ↔ x ∈ l := by
  have hD : ∀ i j, i ≤ j → j < l.length → l.toArray[i]! ≤ l.toArray[j]! := fun i j hij hj => by
    rcases Nat.lt_or_ge i j with h1 | h1
    · have := List.pairwise_iff_getElem.1 h i j (by omega) hj h1; simpa [show i < l.length by omega, hj] using this
    · (obtain rfl : i = j := by omega); exact Int.le_refl _
  have key : ∀ m, m ≤ l.length → (Lib.compactUpTo l.toArray m).Pairwise (· < ·) ∧ ∀ x, x ∈ Lib.compactUpTo l.toArray m ↔ ∃ j, j < m ∧ l.toArray[j]! = x := by
    intro m
    induction m with
    | zero => intro _; exact ⟨by simp [Lib.compactUpTo], fun x => by simp [Lib.compactUpTo]⟩
    | succ m ih =>
      intro hm; obtain ⟨h1, h2⟩ := ih (by omega); rw [Lib.compactUpTo_succ]
      cases hk : Lib.keeps l.toArray m with
      | true =>
        rw [if_pos rfl]; have hk' := of_decide_eq_true hk; refine ⟨List.pairwise_append.2 ⟨h1, List.pairwise_singleton _ _, fun a ha b hb => ?_⟩, fun x => ?_⟩
        · obtain ⟨j, hj, rfl⟩ := (h2 a).1 ha; obtain rfl := List.mem_singleton.1 hb; have a1 := hD j (m - 1) (by omega) (by omega); have a2 := hD (m - 1) m (by omega) (by omega); rcases hk' with e | e
          · omega
          · omega
        · rw [List.mem_append, h2, List.mem_singleton]; constructor
          · rintro (⟨j, hj, e⟩ | e)
            · exact ⟨j, by omega, e⟩
            · exact ⟨m, by omega, e.symm⟩
          · rintro ⟨j, hj, e⟩; rcases Nat.lt_or_ge j m with h3 | h3
            · exact .inl ⟨j, h3, e⟩
            · (obtain rfl : j = m := by omega); exact .inr e.symm
      | false =>
        rw [if_neg (by simp), List.append_nil]; refine ⟨h1, fun x => ?_⟩; have hk' := of_decide_eq_false hk; have h0 : m ≠ 0 := fun e => hk' (.inl e)
        have h3 : l.toArray[m]! = l.toArray[m - 1]! := by
          by_cases e : l.toArray[m]! = l.toArray[m - 1]!
          · exact e
          · exact absurd (.inr e) hk'
        rw [h2]; constructor
        · rintro ⟨j, hj, e⟩; exact ⟨j, by omega, e⟩
        · rintro ⟨j, hj, e⟩; rcases Nat.lt_or_ge j m with h4 | h4
          · exact ⟨j, h4, e⟩
          · (obtain rfl : j = m := by omega); exact ⟨j - 1, by omega, by rw [← h3]; exact e⟩
  obtain ⟨h1, h2⟩ := key l.length (Nat.le_refl _); refine ⟨h1, fun x => (h2 x).trans ?_⟩; constructor
  · rintro ⟨j, hj, rfl⟩; simp [hj]
  · intro hx; obtain ⟨j, hj, rfl⟩ := List.mem_iff_getElem.1 hx; exact ⟨j, hj, by simp [hj]⟩
def zco (fuel : Nat) (p : GProblem) (hints : List GChoice) (seed : Int) (budget : Int) (more : Int) : Option Bool :=
  (zc3 fuel p).bind fun r20 =>
  zaI (fun (x_1 : Bool) =>
    (bif x_1 then
      (zcv fuel).bind fun r53 =>
      some r53
      else
      (zbB fuel p hints seed budget).bind fun r59 =>
      (bif decide (¬ r59.2.2.2 = 0) then
        zaI (fun (x_12 : Bool) =>
          some x_12)
        (fun k13 =>
          (bif decide (r59.2.2.2 = 9) then
            (bif decide (wI ((r59.1.length : Int) + r59.2.1) = 0) then
              (bif !r59.2.2.1 then
                (zcv fuel).bind fun r80 =>
                k13 r80
                else
                k13 false)
              else
              k13 false)
            else
            k13 false))
        else
        (bif (((((!(r59.2.2.1 == (zbp p r59.1))) || (decide (r59.2.1 < 0))) || (decide (budget < r59.2.1))) || ((!r59.2.2.1) && (decide (¬ r59.2.1 = budget)))) || ((zbp p hints) && ((decide (¬ r59.2.1 = 0)) || (!(za7 r59.1 hints))))) then
          some false
          else
          (zbB fuel p hints seed (wI (budget + more))).bind fun r127 =>
          (bif (((decide (¬ r127.2.2.2 = 0)) || (decide (r127.2.1 < r59.2.1))) || (r59.2.2.1 && (((decide (¬ r127.2.1 = r59.2.1)) || (!r127.2.2.1)) || (!(za7 r59.1 r127.1))))) then
            some false
            else
            zaI (fun (x_33 : Bool) =>
              some x_33)
            (fun k34 =>
              (bif (zbG p r59.1) then
                (bif (zbG p r127.1) then
                  (zcv fuel).bind fun r166 =>
                  k34 r166
                  else
                  k34 false)
                else
                k34 false)))))))
  (fun k2 =>
    (bif !r20 then
      k2 true
      else
      (bif decide (20 < (hints.length : Int)) then
        k2 true
        else
        (bif decide (budget < 0) then
          k2 true
          else
          (bif decide (60 < budget) then
            k2 true
            else
            (bif decide (more < 0) then
              k2 true
              else
              (bif decide (60 < more) then
                k2 true
                else
                (zcN p).bind fun r45 =>
                (bif !r45 then
                  k2 true
                  else
                  k2 (!(zbr hints))))))))))
theorem zek (F0 : Frz) (w : World) (hF0 : F0.At w) (p : GProblem) (vp_0 : Value) (cp_0 : List (List Value)) (hp_0 : SlD GDomain.rep F0 vp_0 2 cp_0 p.Domains) (vp_1 : Value) (hp_1 : SlC F0 vp_1 5 (p.Rules.Pairs.map GPair.enc)) (vp_2 : Value) (hp_2 : SlC F0 vp_2 5 (p.Rules.Loads.map GLoad.enc)) (vp_3 : Value) (hp_3 : SlC F0 vp_3 4 (p.Rules.Caps.map GCap.enc)) (hints : List GChoice) (vhints : Value) (hhints : SlC F0 vhints 2 (hints.map GChoice.enc)) (seed : Int) (budget : Int) (more : Int) (fuel : Nat) (r : Bool) (hr : zco fuel p hints seed budget more = some r) : Calls Tryz.prog 6 #[.agg [vp_0, vp_1, vp_2, vp_3].toArray, vhints, .int .i64 seed, .int .i64 budget, .int .i64 more] w fun e w' => e = .returned (.bool r) ∧ Below w.heap.size w w' := by
  have hk := hr; unfold zco at hk; haveI := hp_0.1.oneC; haveI := hp_1.oneC; haveI := hp_2.oneC; haveI := hp_3.oneC; haveI := hhints.oneC; obtain ⟨S0, F1, rfl, hS0, hp0⟩ := zam hF0; refine zap Tryz.func6 rfl rfl rfl hp0 ?_; refine T.sr ?_; refine TL.e (Ew.az rfl rfl) ?_; rintro _ _ ⟨g5, rfl, rfl⟩; refine TL.run 1 rfl ?_; refine TL.ns (T.seq (T.seq ?_)); have hq := zal hk; clear hk; obtain ⟨r20, hr20, hk⟩ := hq; (try dsimp only at hk); have hq := zag hk; clear hk; obtain ⟨k2, hk2, hk⟩ := hq; (try dsimp only at hk); refine T.af (ι := Bool) (fun z => [(1, vhints), (2, .int .i64 seed), (3, .int .i64 budget), (4, .int .i64 more), (5, .pointer (some ⟨g5, 0, none⟩)), (52, .bool z)]) (fun z => [.row g5 29 [vp_0, vp_1, vp_2, vp_3], .fr F1]) (fun z => k2 z = some r) ?_ ?_
  · refine T.region ?_; refine TL.y (Yv.aj 0 rfl rfl rfl rfl) ?_; refine TL.e (Ew.ag rfl rfl rfl (fun w hw => zfI _ w (hw.fr (i := 1) rfl) p vp_0 cp_0 hp_0 vp_1 hp_1 vp_2 hp_2 vp_3 hp_3 fuel r20 hr20)) ?_; rintro _ _ ⟨rfl, rfl⟩; refine TL.run 2 rfl ?_; refine TL.gs rfl rfl rfl (fun h3 => ?_) (fun h3 => ?_)
    · replace hk := zaa hk h3; refine TL.run 30 rfl ?_; refine TL.nil ?_; exact K.ae true hk (.c (.c (.c (.c (.c (.c .nil)))))) (List.Sublist.refl _)
    · replace hk := zab hk h3; refine TL.run 1 rfl ?_; refine TL.y (Yv.an rfl rfl hhints (List.length_map _)) ?_; have hm24 : hints.length ≤ 9223372036854775807 := (List.length_map _) ▸ hhints.max; refine TL.run 3 rfl ?_; refine TL.gs rfl rfl rfl (fun h4 => ?_) (fun h4 => ?_)
      · have p4 := of_decide_eq_true h4; replace hk := zaa hk h4; refine TL.run 25 rfl ?_; refine TL.nil ?_; exact K.ae true hk (.c (.c (.c (.c (.c (.c .nil)))))) (List.Sublist.refl _)
      · have p4 := of_decide_eq_false h4; replace hk := zab hk h4; refine TL.run 4 rfl ?_; refine TL.gs rfl rfl rfl (fun h5 => ?_) (fun h5 => ?_)
        · have p5 := of_decide_eq_true h5; replace hk := zaa hk h5; refine TL.run 21 rfl ?_; refine TL.nil ?_; exact K.ae true hk (.c (.c (.c (.c (.c (.c .nil)))))) (List.Sublist.refl _)
        · have p5 := of_decide_eq_false h5; replace hk := zab hk h5; refine TL.run 4 rfl ?_; refine TL.gs rfl rfl rfl (fun h6 => ?_) (fun h6 => ?_)
          · have p6 := of_decide_eq_true h6; replace hk := zaa hk h6; refine TL.run 17 rfl ?_; refine TL.nil ?_; exact K.ae true hk (.c (.c (.c (.c (.c (.c .nil)))))) (List.Sublist.refl _)
          · have p6 := of_decide_eq_false h6; replace hk := zab hk h6; refine TL.run 4 rfl ?_; refine TL.gs rfl rfl rfl (fun h7 => ?_) (fun h7 => ?_)
            · have p7 := of_decide_eq_true h7; replace hk := zaa hk h7; refine TL.run 13 rfl ?_; refine TL.nil ?_; exact K.ae true hk (.c (.c (.c (.c (.c (.c .nil)))))) (List.Sublist.refl _)
            · have p7 := of_decide_eq_false h7; replace hk := zab hk h7; refine TL.run 4 rfl ?_; refine TL.gs rfl rfl rfl (fun h8 => ?_) (fun h8 => ?_)
              · have p8 := of_decide_eq_true h8; replace hk := zaa hk h8; refine TL.run 9 rfl ?_; refine TL.nil ?_; exact K.ae true hk (.c (.c (.c (.c (.c (.c .nil)))))) (List.Sublist.refl _)
              · have p8 := of_decide_eq_false h8; replace hk := zab hk h8; refine TL.y (Yv.aj 0 rfl rfl rfl rfl) ?_; have hq := zal hk; clear hk; obtain ⟨r45, hr45, hk⟩ := hq; refine TL.e (Ew.ag rfl rfl rfl (fun w hw => zfG _ w (hw.fr (i := 1) rfl) p vp_0 cp_0 hp_0 vp_1 hp_1 vp_2 hp_2 vp_3 hp_3 r45 hr45)) ?_; rintro _ _ ⟨rfl, rfl⟩; refine TL.run 3 rfl ?_; refine TL.gs rfl rfl rfl (fun h9 => ?_) (fun h9 => ?_)
                · replace hk := zaa hk h9; refine TL.run 4 rfl ?_; refine TL.nil ?_; exact K.ae true hk (.c (.c (.c (.c (.c (.c .nil)))))) (List.Sublist.refl _)
                · replace hk := zab hk h9; refine TL.run 1 rfl ?_; refine TL.e (Ew.ag rfl rfl rfl (fun w hw => zdm _ w (hw.fr (i := 1) rfl) hints vhints hhints)) ?_; rintro _ _ ⟨rfl, rfl⟩; refine TL.run 2 rfl ?_; refine TL.nil ?_; exact K.ae (!(zbr hints)) hk (.c (.c (.c (.c (.c (.c .nil)))))) (List.Sublist.refl _)
  · rintro x_1 hk; rw [← hk2] at hk; (try dsimp only at hk); refine T.cond rfl (fun h10 => ?_) (fun h10 => ?_)
    · replace hk := zaa hk h10; refine T.seq ?_; have hq := zal hk; clear hk; obtain ⟨r53, hr53, hk⟩ := hq; (try dsimp only at hk); refine T.region ?_; refine TL.e (Ew.ag rfl rfl rfl (fun w hw => zdy _ w (hw.fr (i := 1) rfl)  fuel r53 hr53)) ?_; rintro _ _ ⟨rfl, rfl⟩; refine TL.run 1 rfl ?_; refine TL.ns (T.ret (K.ab ?_)); obtain rfl := Option.some.inj hk; exact K.ai rfl rfl (fun w' hw => ⟨rfl, hw.isBelow⟩)
    · replace hk := zab hk h10; refine T.skip (K.seq (T.seq ?_)); have hq := zal hk; clear hk; obtain ⟨r59, hr59, hk⟩ := hq; (try dsimp only at hk); refine T.region ?_; refine TL.y (Yv.aj 0 rfl rfl rfl rfl) ?_; refine TL.run 3 rfl ?_; refine TL.e (Ew.aA 1 rfl rfl rfl rfl (fun w hw hF => zc4 _ w hF p vp_0 cp_0 hp_0 vp_1 hp_1 vp_2 hp_2 vp_3 hp_3 hints vhints hhints seed budget fuel r59 hr59)) ?_; rintro _ _ ⟨v59_0_0, F2, le1_2, hf59_0_0, rfl, rfl⟩; haveI := hf59_0_0.oneC; refine TL.run 9 rfl ?_; refine TL.ns (T.seq (T.sr ?_)); refine TL.run 2 rfl ?_; refine TL.ns ?_; refine T.cond rfl (fun h11 => ?_) (fun h11 => ?_)
      · have p11 := of_decide_eq_true h11; replace hk := zaa hk h11; refine T.seq ?_; (try dsimp only at hk); have hq := zag hk; clear hk; obtain ⟨k13, hk13, hk⟩ := hq; (try dsimp only at hk); refine T.af (ι := Bool) (fun z => [(10, .bool z)]) (fun z => [.fr F2]) (fun z => k13 z = some r) ?_ ?_
        · refine T.region ?_; refine TL.run 3 rfl ?_; refine TL.gs rfl rfl rfl (fun h14 => ?_) (fun h14 => ?_)
          · have p14 := of_decide_eq_true h14; replace hk := zaa hk h14; refine TL.run 1 rfl ?_; refine TL.y (Yv.an rfl rfl hf59_0_0 (List.length_map _)) ?_; have hm70 : r59.1.length ≤ 9223372036854775807 := (List.length_map _) ▸ hf59_0_0.max; refine TL.run 5 rfl ?_; refine TL.gs rfl rfl rfl (fun h15 => ?_) (fun h15 => ?_)
            · have p15 := of_decide_eq_true h15; replace hk := zaa hk h15; refine TL.run 4 rfl ?_; refine TL.gs rfl rfl rfl (fun h16 => ?_) (fun h16 => ?_)
              · replace hk := zaa hk h16; have hq := zal hk; clear hk; obtain ⟨r80, hr80, hk⟩ := hq; refine TL.e (Ew.ag rfl rfl rfl (fun w hw => zdy _ w (hw.fr (i := 1) rfl)  fuel r80 hr80)) ?_; rintro _ _ ⟨rfl, rfl⟩; refine TL.run 2 rfl ?_; refine TL.nil ?_; refine K.pick [1] rfl (by decide) ?_; exact K.ae r80 hk (.c .nil) (List.Sublist.refl _)
              · replace hk := zab hk h16; refine TL.run 3 rfl ?_; refine TL.nil ?_; refine K.pick [1] rfl (by decide) ?_; exact K.ae false hk (.c .nil) (List.Sublist.refl _)
            · have p15 := of_decide_eq_false h15; replace hk := zab hk h15; refine TL.run 7 rfl ?_; refine TL.nil ?_; refine K.pick [1] rfl (by decide) ?_; exact K.ae false hk (.c .nil) (List.Sublist.refl _)
          · have p14 := of_decide_eq_false h14; replace hk := zab hk h14; refine TL.run 14 rfl ?_; refine TL.nil ?_; refine K.pick [1] rfl (by decide) ?_; exact K.ae false hk (.c .nil) (List.Sublist.refl _)
        · rintro x_12 hk; rw [← hk13] at hk; (try dsimp only at hk); refine T.ret (K.ab ?_); obtain rfl := Option.some.inj hk; exact K.ai rfl rfl (fun w' hw => ⟨rfl, hw.isBelow⟩)
      · have p11 := of_decide_eq_false h11; replace hk := zab hk h11; refine T.skip (K.seq (T.seq (T.seq ?_))); refine T.af (ι := Unit) (fun z => [(1, vhints), (2, .int .i64 seed), (3, .int .i64 budget), (4, .int .i64 more), (5, .pointer (some ⟨g5, 0, none⟩)), (11, v59_0_0), (12, .int .i64 r59.2.1), (13, .bool r59.2.2.1), (119, .bool (((((!(r59.2.2.1 == (zbp p r59.1))) || (decide (r59.2.1 < 0))) || (decide (budget < r59.2.1))) || ((!r59.2.2.1) && (decide (¬ r59.2.1 = budget)))) || ((zbp p hints) && ((decide (¬ r59.2.1 = 0)) || (!(za7 r59.1 hints))))))]) (fun z => [.row g5 29 [vp_0, vp_1, vp_2, vp_3], .fr F2]) (fun z => True) ?_ ?_
        · refine T.region ?_; refine TL.run 1 rfl ?_; refine TL.y (Yv.aj 0 rfl rfl rfl rfl) ?_; refine TL.run 1 rfl ?_; refine TL.e (Ew.ag rfl rfl rfl (fun w hw => zdS _ w (hw.fr (i := 1) rfl) p vp_0 cp_0 (SlD.mono (rep := GDomain.rep) (fun _ _ _ _ => GDomain.mono) hp_0 le1_2) vp_1 (SlC.mono hp_1 le1_2) vp_2 (SlC.mono hp_2 le1_2) vp_3 (SlC.mono hp_3 le1_2) r59.1 v59_0_0 hf59_0_0)) ?_; rintro _ _ ⟨rfl, rfl⟩; refine TL.y (Yv.ce (by kernel_rfl) rfl rfl rfl) ?_; refine TL.run 1 rfl ?_; refine TL.gs rfl rfl rfl (fun h17 => ?_) (fun h17 => ?_)
          · refine TL.run 32 rfl ?_; refine TL.nil ?_; exact K.ae () trivial (.c (.c (.c (.c (.c (.c (.c (.c (.b (zb2 (zb2 (zb2 (zb2 h17)))).symm .nil))))))))) (List.Sublist.refl _)
          · refine TL.run 4 rfl ?_; refine TL.gs rfl rfl rfl (fun h18 => ?_) (fun h18 => ?_)
            · have p18 := of_decide_eq_true h18; refine TL.run 28 rfl ?_; refine TL.nil ?_; exact K.ae () trivial (.c (.c (.c (.c (.c (.c (.c (.c (.b (zb2 (zb2 (zb2 (zbz h17 h18)))).symm .nil))))))))) (List.Sublist.refl _)
            · have p18 := of_decide_eq_false h18; refine TL.run 5 rfl ?_; refine TL.gs rfl rfl rfl (fun h19 => ?_) (fun h19 => ?_)
              · have p19 := of_decide_eq_true h19; refine TL.run 23 rfl ?_; refine TL.nil ?_; exact K.ae () trivial (.c (.c (.c (.c (.c (.c (.c (.c (.b (zb2 (zb2 (zbz (zbz h17 h18) h19))).symm .nil))))))))) (List.Sublist.refl _)
              · have p19 := of_decide_eq_false h19; refine TL.run 3 rfl ?_; refine TL.gs rfl rfl rfl (fun h20 => ?_) (fun h20 => ?_)
                · refine TL.run 6 rfl ?_; refine TL.gs rfl rfl rfl (fun h21 => ?_) (fun h21 => ?_)
                  · have p21 := of_decide_eq_true h21; refine TL.run 14 rfl ?_; refine TL.nil ?_; exact K.ae () trivial (.c (.c (.c (.c (.c (.c (.c (.c (.b (zb2 (zbz (zbz (zbz h17 h18) h19) (zaW h20 h21))).symm .nil))))))))) (List.Sublist.refl _)
                  · have p21 := of_decide_eq_false h21; refine TL.y (Yv.aj 0 rfl rfl rfl rfl) ?_; refine TL.run 1 rfl ?_; refine TL.e (Ew.ag rfl rfl rfl (fun w hw => zdS _ w (hw.fr (i := 1) rfl) p vp_0 cp_0 (SlD.mono (rep := GDomain.rep) (fun _ _ _ _ => GDomain.mono) hp_0 le1_2) vp_1 (SlC.mono hp_1 le1_2) vp_2 (SlC.mono hp_2 le1_2) vp_3 (SlC.mono hp_3 le1_2) hints vhints (SlC.mono hhints le1_2))) ?_; rintro _ _ ⟨rfl, rfl⟩; refine TL.run 1 rfl ?_; refine TL.gs rfl rfl rfl (fun h22 => ?_) (fun h22 => ?_)
                    · refine TL.run 3 rfl ?_; refine TL.gs rfl rfl rfl (fun h23 => ?_) (fun h23 => ?_)
                      · have p23 := of_decide_eq_true h23; refine TL.run 7 rfl ?_; refine TL.nil ?_; exact K.ae () trivial (.c (.c (.c (.c (.c (.c (.c (.c (.b (zbz (zbz (zbz (zbz h17 h18) h19) (zaW h20 h21)) (zaW h22 (zb2 h23))).symm .nil))))))))) (List.Sublist.refl _)
                      · have p23 := of_decide_eq_false h23; refine TL.run 2 rfl ?_; refine TL.e (Ew.ag rfl rfl rfl (fun w hw => zbY _ w (hw.fr (i := 1) rfl) r59.1 v59_0_0 hf59_0_0 hints vhints (SlC.mono hhints le1_2))) ?_; rintro _ _ ⟨rfl, rfl⟩; refine TL.run 4 rfl ?_; refine TL.nil ?_; exact K.ae () trivial (.c (.c (.c (.c (.c (.c (.c (.c (.b (Eq.trans (Eq.trans (or_f h23) (zcQ h22)) (or_f (zbz (zbz (zbz h17 h18) h19) (zaW h20 h21)))) .nil))))))))) (List.Sublist.refl _)
                    · refine TL.run 10 rfl ?_; refine TL.nil ?_; exact K.ae () trivial (.c (.c (.c (.c (.c (.c (.c (.c (.b (zbz (zbz (zbz (zbz h17 h18) h19) (zaW h20 h21)) (zaA h22)).symm .nil))))))))) (List.Sublist.refl _)
                · refine TL.run 6 rfl ?_; refine TL.y (Yv.aj 0 rfl rfl rfl rfl) ?_; refine TL.run 1 rfl ?_; refine TL.e (Ew.ag rfl rfl rfl (fun w hw => zdS _ w (hw.fr (i := 1) rfl) p vp_0 cp_0 (SlD.mono (rep := GDomain.rep) (fun _ _ _ _ => GDomain.mono) hp_0 le1_2) vp_1 (SlC.mono hp_1 le1_2) vp_2 (SlC.mono hp_2 le1_2) vp_3 (SlC.mono hp_3 le1_2) hints vhints (SlC.mono hhints le1_2))) ?_; rintro _ _ ⟨rfl, rfl⟩; refine TL.run 1 rfl ?_; refine TL.gs rfl rfl rfl (fun h24 => ?_) (fun h24 => ?_)
                  · refine TL.run 3 rfl ?_; refine TL.gs rfl rfl rfl (fun h25 => ?_) (fun h25 => ?_)
                    · have p25 := of_decide_eq_true h25; refine TL.run 7 rfl ?_; refine TL.nil ?_; exact K.ae () trivial (.c (.c (.c (.c (.c (.c (.c (.c (.b (zbz (zbz (zbz (zbz h17 h18) h19) (zaA h20)) (zaW h24 (zb2 h25))).symm .nil))))))))) (List.Sublist.refl _)
                    · have p25 := of_decide_eq_false h25; refine TL.run 2 rfl ?_; refine TL.e (Ew.ag rfl rfl rfl (fun w hw => zbY _ w (hw.fr (i := 1) rfl) r59.1 v59_0_0 hf59_0_0 hints vhints (SlC.mono hhints le1_2))) ?_; rintro _ _ ⟨rfl, rfl⟩; refine TL.run 4 rfl ?_; refine TL.nil ?_; exact K.ae () trivial (.c (.c (.c (.c (.c (.c (.c (.c (.b (Eq.trans (Eq.trans (or_f h25) (zcQ h24)) (or_f (zbz (zbz (zbz h17 h18) h19) (zaA h20)))) .nil))))))))) (List.Sublist.refl _)
                  · refine TL.run 10 rfl ?_; refine TL.nil ?_; exact K.ae () trivial (.c (.c (.c (.c (.c (.c (.c (.c (.b (zbz (zbz (zbz (zbz h17 h18) h19) (zaA h20)) (zaA h24)).symm .nil))))))))) (List.Sublist.refl _)
        · rintro _ _; refine T.cond rfl (fun h26 => ?_) (fun h26 => ?_)
          · replace hk := zaa hk h26; refine T.sr ?_; refine TL.run 1 rfl ?_; refine TL.ns (T.ret (K.ab ?_)); obtain rfl := Option.some.inj hk; exact K.ai rfl rfl (fun w' hw => ⟨rfl, hw.isBelow⟩)
          · have p26 := h26; (try simp only [nfB] at p26); replace hk := zab hk h26; refine T.skip (K.seq (T.seq ?_)); have hq := zal hk; clear hk; obtain ⟨r127, hr127, hk⟩ := hq; (try dsimp only at hk); refine T.region ?_; refine TL.y (Yv.aj 0 rfl rfl rfl rfl) ?_; refine TL.run 5 rfl ?_; refine TL.e (Ew.aA 1 rfl rfl rfl rfl (fun w hw hF => zc4 _ w hF p vp_0 cp_0 (SlD.mono (rep := GDomain.rep) (fun _ _ _ _ => GDomain.mono) hp_0 le1_2) vp_1 (SlC.mono hp_1 le1_2) vp_2 (SlC.mono hp_2 le1_2) vp_3 (SlC.mono hp_3 le1_2) hints vhints (SlC.mono hhints le1_2) seed (wI (budget + more)) fuel r127 hr127)) ?_; rintro _ _ ⟨v127_0_0, F3, le2_3, hf127_0_0, rfl, rfl⟩; have le1_3 := le1_2.trans le2_3; haveI := hf127_0_0.oneC; refine TL.run 9 rfl ?_; refine TL.ns (T.seq (T.seq ?_)); refine T.af (ι := Unit) (fun z => [(5, .pointer (some ⟨g5, 0, none⟩)), (11, v59_0_0), (15, v127_0_0), (156, .bool (((decide (¬ r127.2.2.2 = 0)) || (decide (r127.2.1 < r59.2.1))) || (r59.2.2.1 && (((decide (¬ r127.2.1 = r59.2.1)) || (!r127.2.2.1)) || (!(za7 r59.1 r127.1))))))]) (fun z => [.row g5 29 [vp_0, vp_1, vp_2, vp_3], .fr F3]) (fun z => True) ?_ ?_
            · refine T.region ?_; refine TL.run 3 rfl ?_; refine TL.gs rfl rfl rfl (fun h27 => ?_) (fun h27 => ?_)
              · have p27 := of_decide_eq_true h27; refine TL.run 22 rfl ?_; refine TL.nil ?_; exact K.ae () trivial (.c (.c (.c (.b (zb2 (zb2 h27)).symm .nil)))) (List.Sublist.refl _)
              · have p27 := of_decide_eq_false h27; refine TL.run 5 rfl ?_; refine TL.gs rfl rfl rfl (fun h28 => ?_) (fun h28 => ?_)
                · have p28 := of_decide_eq_true h28; refine TL.run 17 rfl ?_; refine TL.nil ?_; exact K.ae () trivial (.c (.c (.c (.b (zb2 (zbz h27 h28)).symm .nil)))) (List.Sublist.refl _)
                · have p28 := of_decide_eq_false h28; refine TL.run 2 rfl ?_; refine TL.gs rfl rfl rfl (fun h29 => ?_) (fun h29 => ?_)
                  · refine TL.run 4 rfl ?_; refine TL.gs rfl rfl rfl (fun h30 => ?_) (fun h30 => ?_)
                    · have p30 := of_decide_eq_true h30; refine TL.run 11 rfl ?_; refine TL.nil ?_; exact K.ae () trivial (.c (.c (.c (.b (zbz (zbz h27 h28) (zaW h29 (zb2 (zb2 h30)))).symm .nil)))) (List.Sublist.refl _)
                    · have p30 := of_decide_eq_false h30; refine TL.run 4 rfl ?_; refine TL.gs rfl rfl rfl (fun h31 => ?_) (fun h31 => ?_)
                      · refine TL.run 7 rfl ?_; refine TL.nil ?_; exact K.ae () trivial (.c (.c (.c (.b (zbz (zbz h27 h28) (zaW h29 (zb2 (zbz h30 h31)))).symm .nil)))) (List.Sublist.refl _)
                      · refine TL.run 2 rfl ?_; refine TL.e (Ew.ag rfl rfl rfl (fun w hw => zbY _ w (hw.fr (i := 1) rfl) r59.1 v59_0_0 (SlC.mono hf59_0_0 le2_3) r127.1 v127_0_0 hf127_0_0)) ?_; rintro _ _ ⟨rfl, rfl⟩; refine TL.run 4 rfl ?_; refine TL.nil ?_; exact K.ae () trivial (.c (.c (.c (.b (Eq.trans (Eq.trans (or_f (zbz h30 h31)) (zcQ h29)) (or_f (zbz h27 h28))) .nil)))) (List.Sublist.refl _)
                  · refine TL.run 15 rfl ?_; refine TL.nil ?_; exact K.ae () trivial (.c (.c (.c (.b (zbz (zbz h27 h28) (zaA h29)).symm .nil)))) (List.Sublist.refl _)
            · rintro _ _; refine T.cond rfl (fun h32 => ?_) (fun h32 => ?_)
              · replace hk := zaa hk h32; refine T.sr ?_; refine TL.run 1 rfl ?_; refine TL.ns (T.ret (K.ab ?_)); obtain rfl := Option.some.inj hk; exact K.ai rfl rfl (fun w' hw => ⟨rfl, hw.isBelow⟩)
              · have p32 := h32; (try simp only [nfB] at p32); replace hk := zab hk h32; refine T.skip (K.seq (T.seq ?_)); (try dsimp only at hk); have hq := zag hk; clear hk; obtain ⟨k34, hk34, hk⟩ := hq; (try dsimp only at hk); refine T.af (ι := Bool) (fun z => [(10, .bool z)]) (fun z => [.fr F3]) (fun z => k34 z = some r) ?_ ?_
                · refine T.region ?_; refine TL.y (Yv.aj 0 rfl rfl rfl rfl) ?_; refine TL.run 1 rfl ?_; refine TL.e (Ew.ag rfl rfl rfl (fun w hw => zdH _ w (hw.fr (i := 1) rfl) p vp_0 cp_0 (SlD.mono (rep := GDomain.rep) (fun _ _ _ _ => GDomain.mono) hp_0 le1_3) vp_1 (SlC.mono hp_1 le1_3) vp_2 (SlC.mono hp_2 le1_3) vp_3 (SlC.mono hp_3 le1_3) r59.1 v59_0_0 (SlC.mono hf59_0_0 le2_3))) ?_; rintro _ _ ⟨rfl, rfl⟩; refine TL.run 1 rfl ?_; refine TL.gs rfl rfl rfl (fun h35 => ?_) (fun h35 => ?_)
                  · replace hk := zaa hk h35; refine TL.y (Yv.aj 0 rfl rfl rfl rfl) ?_; refine TL.run 1 rfl ?_; refine TL.e (Ew.ag rfl rfl rfl (fun w hw => zdH _ w (hw.fr (i := 1) rfl) p vp_0 cp_0 (SlD.mono (rep := GDomain.rep) (fun _ _ _ _ => GDomain.mono) hp_0 le1_3) vp_1 (SlC.mono hp_1 le1_3) vp_2 (SlC.mono hp_2 le1_3) vp_3 (SlC.mono hp_3 le1_3) r127.1 v127_0_0 hf127_0_0)) ?_; rintro _ _ ⟨rfl, rfl⟩; refine TL.run 2 rfl ?_; refine TL.gs rfl rfl rfl (fun h36 => ?_) (fun h36 => ?_)
                    · replace hk := zaa hk h36; have hq := zal hk; clear hk; obtain ⟨r166, hr166, hk⟩ := hq; refine TL.e (Ew.ag rfl rfl rfl (fun w hw => zdy _ w (hw.fr (i := 1) rfl)  fuel r166 hr166)) ?_; rintro _ _ ⟨rfl, rfl⟩; refine TL.run 2 rfl ?_; refine TL.nil ?_; refine K.pick [1] rfl (by decide) ?_; exact K.ae r166 hk (.c .nil) (List.Sublist.refl _)
                    · replace hk := zab hk h36; refine TL.run 3 rfl ?_; refine TL.nil ?_; refine K.pick [1] rfl (by decide) ?_; exact K.ae false hk (.c .nil) (List.Sublist.refl _)
                  · replace hk := zab hk h35; refine TL.run 8 rfl ?_; refine TL.nil ?_; refine K.pick [1] rfl (by decide) ?_; exact K.ae false hk (.c .nil) (List.Sublist.refl _)
                · rintro x_33 hk; rw [← hk34] at hk; (try dsimp only at hk); refine T.ret ?_; obtain rfl := Option.some.inj hk; exact K.ai rfl rfl (fun w' hw => ⟨rfl, hw.isBelow⟩)
theorem zim {n : Nat} (h : 100000 ≤ n) : zcv n = some true := by
  obtain ⟨m, rfl⟩ : ∃ m, n = m + 100000 := ⟨n - 100000, by omega⟩
  kernel_rfl
theorem zis {ρ : Type} {hs : List GChoice} (h : VL hs) (K : (Int → Option Int) → Option ρ) : ∃ f : Int → Option Int, (∀ n, f n = none ∧ onL hs n = 0 ∨ f n = some (onL hs n)) ∧ zai (fun (i_14 : Nat) (next13 : (Int → Option Int) → Option ρ) (l_12 : (Int → Option Int)) => next13 (mput l_12 ((nth hs i_14).Station) ((nth hs i_14).Channel))) K (hs.length - 0) 0 (fun (_ : Int) => (none : Option Int)) = K f := by
  obtain ⟨h1, h2⟩ := zck (k := K) (n := hs.length - 0) (s := fun (_ : Int) => (none : Option Int))
    (f := fun (i_14 : Nat) (next13 : (Int → Option Int) → Option ρ) (l_12 : (Int → Option Int)) => next13 (mput l_12 ((nth hs i_14).Station) ((nth hs i_14).Channel)))
    (fun i f => ∀ n, f n = none ∧ onL (hs.take i) n = 0 ∨ f n = some (onL (hs.take i) n))
    (fun i f => mput f ((nth hs i).Station) ((nth hs i).Channel))
    (fun n => .inl ⟨rfl, rfl⟩)
    (fun i f hi hf n => by
      rw [ze7 h (by omega)]; by_cases e : n = (nth hs i).Station
      · rw [if_pos e, e, zes]; exact .inr rfl
      · rw [if_neg e, zc6 _ _ e]; exact hf n)
    (fun i next f hi hf => rfl)
  refine ⟨_, fun n => ?_, h1⟩; have := h2 n
  rwa [Nat.sub_zero, List.take_length] at this
def zbU (hs : List GChoice) (d : GDomain) : GChoice := ⟨d.Station, bif zaU d.Channels (onL hs d.Station) then onL hs d.Station else nth d.Channels 0⟩
def zdl (d : GDomain) : Bool := decide ((d.Channels.length : Int) = 0)
theorem zjx {p : GProblem} {i : Nat} (hi : i < p.Domains.length) (h : zdl (nth p.Domains i) = true) : p.Domains.any zdl = true := List.any_eq_true.2 ⟨_, zaz hi, h⟩
theorem zi4 {p : GProblem} (h : ∀ j, j < p.Domains.length → zdl (nth p.Domains j) = false) : p.Domains.any zdl = false := by
  rw [List.any_eq_false]; intro d hd; obtain ⟨j, hj, rfl⟩ := List.mem_iff_getElem.1 hd; rw [← zaP hj, h j hj]; simp
theorem ziq {ρ : Type} {p : GProblem} (z : Option ρ) (K : (Int → Option Bool) → Option ρ) (post : Option ρ → Prop) (h1 : p.Domains.any zdl = true → post z)
    (h2 : p.Domains.any zdl = false → ∀ f : Int → Option Bool, (∀ j, j < p.Domains.length → f (nth p.Domains j).Station = some true) → post (K f)) :
    post (zai (fun (i_7 : Nat) (next6 : (Int → Option Bool) → Option ρ) (l_5 : (Int → Option Bool)) => (bif decide ((((nth p.Domains i_7).Channels).length : Int) = 0) then z else next6 (mput l_5 ((nth p.Domains i_7).Station) true))) K (p.Domains.length - 0) 0 (fun (_ : Int) => (none : Option Bool))) := by
  refine zdi (fun i f => ∀ j, j < i → zdl (nth p.Domains j) = false ∧ f (nth p.Domains j).Station = some true) post (fun j hj => absurd hj (Nat.not_lt_zero j)) (fun f hf => ?_) (fun i f next hi hf hn => ?_)
  · exact h2 (zi4 fun j hj => (hf j (by omega)).1) f fun j hj => (hf j (by omega)).2
  · cases he : decide ((((nth p.Domains i).Channels).length : Int) = 0) with
    | true => exact h1 (zjx (by omega) he)
    | false =>
      refine hn _ fun j hj => ?_; by_cases e : (nth p.Domains j).Station = (nth p.Domains i).Station
      · rw [e, zes]; refine ⟨?_, rfl⟩; rcases Nat.lt_or_ge j i with hlt | hge
        · exact (hf j hlt).1
        · (obtain rfl : j = i := by omega); exact he
      · have hlt : j < i := by
          rcases Nat.lt_or_ge j i with hlt | hge
          · exact hlt
          · (obtain rfl : j = i := by omega); exact absurd rfl e
        rw [zc6 _ _ e]; exact hf j hlt
theorem zeH {α : Type} [Inhabited α] {l : List α} {i j : Nat} {a : α} (hj : j < l.length) : nth (l.set i a) j = if i = j then a else nth l j := by
  rw [zaP (by rw [List.length_set]; exact hj), List.getElem_set, zaP hj]
theorem zgM {α : Type} [Inhabited α] {a b : List α} (hl : a.length = b.length) (h : ∀ j, j < a.length → nth a j = nth b j) : a = b := by
  refine List.ext_getElem hl fun i h1 h2 => ?_; have := h i h1
  rwa [zaP h1, zaP h2] at this
theorem zjE {p : GProblem} (hp : okP p = true) {d : GDomain} (hd : d ∈ p.Domains) : zaU d.Channels 0 = false := by
  have h := List.all_eq_true.1 (zbA hp) d hd; have h2 := List.all_eq_true.1 (zbA (zbR h)); rw [zfq, List.any_eq_false]; intro x hx hc; have := zhg (h2 x hx); have := of_decide_eq_true hc; omega
theorem zh6 {p : GProblem} {hs : List GChoice} : zci p hs = some (bif okP p && zav hs then (bif p.Domains.any zdl then ([], 9) else (p.Domains.map (zbU hs), 0)) else ([], 2)) := by
  unfold zci; simp only [zaI, zji, Option.bind_some]
  cases hp : okP p
  · rfl
  cases hv : zav hs
  · rfl
  simp only [Bool.not_true, Bool.or_false, cond_false, Bool.and_true, cond_true]; have hV := zjz hv; refine ziq (post := fun r => r = some (bif p.Domains.any zdl then ([], 9) else (p.Domains.map (zbU hs), 0))) _ _ (fun h => by rw [h]; rfl) (fun h f hf => ?_); rw [h]
  obtain ⟨g, hg, he⟩ := zis hV (ρ := List GChoice × Int) (fun l_10 => grd (room p.Domains.length 16) <| zai (fun (i_20 : Nat) (next19 : List GChoice → Option (List GChoice × Int)) (l_18 : List GChoice) =>
            grd (0 ≤ 0 ∧ 0 < (((nth p.Domains i_20).Channels).length : Int)) <|
            grd (0 ≤ (i_20 : Int) ∧ (i_20 : Int) < (l_18.length : Int)) <|
            (bif ((((mkeep l_10 (fun k => (f k).getD false)) ((nth p.Domains i_20).Station)).isSome) && (zay ((nth p.Domains i_20).Channels) (((mkeep l_10 (fun k => (f k).getD false)) ((nth p.Domains i_20).Station)).getD 0))) then
              grd (0 ≤ (i_20 : Int) ∧ (i_20 : Int) < ((l_18.set i_20 (GChoice.mk ((nth p.Domains i_20).Station) (nth ((nth p.Domains i_20).Channels) 0))).length : Int)) <|
              next19 ((l_18.set i_20 (GChoice.mk ((nth p.Domains i_20).Station) (nth ((nth p.Domains i_20).Channels) 0))).set i_20 (GChoice.mk ((nth (l_18.set i_20 (GChoice.mk ((nth p.Domains i_20).Station) (nth ((nth p.Domains i_20).Channels) 0))) i_20).Station) (((mkeep l_10 (fun k => (f k).getD false)) ((nth p.Domains i_20).Station)).getD 0)))
              else
              next19 (l_18.set i_20 (GChoice.mk ((nth p.Domains i_20).Station) (nth ((nth p.Domains i_20).Channels) 0))))) (fun (l_18 : List GChoice) => some (l_18, 0)) (p.Domains.length - 0) 0 (List.replicate p.Domains.length (GChoice.mk 0 0)))
  refine Eq.trans he ?_; have hlen := zfV (zbA hp) (zbA (zbR (zbR hp))); rw [zaT (by unfold room; omega)]; refine zdi (fun i (l : List GChoice) => l.length = p.Domains.length ∧ ∀ j, j < i → nth l j = zbU hs (nth p.Domains j)) (fun r => r = some (p.Domains.map (zbU hs), 0)) ⟨by simp, fun j hj => absurd hj (Nat.not_lt_zero j)⟩ (fun l hl => ?_) (fun i l next hi hl hn => ?_)
  · refine congrArg (fun x => some (x, (0 : Int))) (zgM (by rw [hl.1, List.length_map]) fun j hj => ?_); rw [hl.2 j (by omega), zc2 (by omega)]
  · have hm := zaz (show i < p.Domains.length by omega)
    have hne : (0 : Int) < ((nth p.Domains i).Channels.length : Int) := by
      have h3 := List.any_eq_false.1 h _ hm; have h4 : ¬ ((nth p.Domains i).Channels.length : Int) = 0 := fun e => h3 (decide_eq_true e); omega
    rw [zaT ⟨by omega, hne⟩, zaT ⟨by omega, by omega⟩]
    have hk : mkeep g (fun k => (f k).getD false) (nth p.Domains i).Station = g (nth p.Domains i).Station := by
      show (bif (f (nth p.Domains i).Station).getD false then g (nth p.Domains i).Station else none) = g (nth p.Domains i).Station
      rw [hf i (by omega)]; rfl
    have step : ∀ a : GChoice, a = zbU hs (nth p.Domains i) → ∀ l' : List GChoice, l'.length = l.length → (∀ j, j < l.length → nth l' j = if i = j then a else nth l j) → next l' = some (p.Domains.map (zbU hs), 0) := fun a ha l' h5 h6 => by
      refine hn l' ⟨by omega, fun j hj => ?_⟩; rw [h6 j (by omega)]; by_cases e : i = j
      · rw [if_pos e, ha, e]
      · rw [if_neg e]; exact hl.2 j (by omega)
    rw [hk, zhe]; rcases hg (nth p.Domains i).Station with ⟨h3, h4⟩ | h3
    · rw [h3]; simp only [Option.isSome_none, Bool.false_and, cond_false]; refine step _ ?_ _ (List.length_set ..) (fun j hj => zeH hj); unfold zbU; rw [h4, zjE hp hm]; rfl
    · rw [h3]; simp only [Option.isSome_some, Bool.true_and, Option.getD_some]
      cases hH : zaU (nth p.Domains i).Channels (onL hs (nth p.Domains i).Station) with
      | true =>
        rw [cond_true, zaT ⟨by omega, by rw [List.length_set]; omega⟩]; refine step ⟨(nth p.Domains i).Station, onL hs (nth p.Domains i).Station⟩ ?_ _ (by rw [List.length_set, List.length_set]) (fun j hj => ?_)
        · unfold zbU; rw [hH]; rfl
        · rw [zeH (by rw [List.length_set]; exact hj), zeH hj, zeH (by omega), if_pos rfl]; by_cases e : i = j
          · rw [if_pos e, if_pos e]
          · rw [if_neg e, if_neg e, if_neg e]
      | false =>
        rw [cond_false]; refine step _ ?_ _ (List.length_set ..) (fun j hj => zeH hj); unfold zbU; rw [hH]; rfl
theorem zg0 {n : Int} : ∀ {l : List GChoice}, (∀ x ∈ l, x.Station ≠ n) → onL l n = 0
  | [], _ => rfl
  | x :: l, h => by
    show (bif decide (x.Station = n) then x.Channel else onL l n) = 0
    rw [decide_eq_false (h x (List.mem_cons_self ..)), cond_false]; exact zg0 fun y hy => h y (List.mem_cons_of_mem _ hy)
theorem zfU {l : List GChoice} (h : VL l) {i : Nat} (hi : i < l.length) : onL l (nth l i).Station = (nth l i).Channel := by
  have key : ∀ m, i + 1 + m ≤ l.length → onL (l.take (i + 1 + m)) (nth l i).Station = (nth l i).Channel := fun m => by
    induction m with
    | zero => intro _; rw [Nat.add_zero, ze7 h hi, if_pos rfl]
    | succ m ih =>
      intro hm; rw [← Nat.add_assoc, ze7 h (by omega), if_neg (by have := h.lt i (i + 1 + m) (by omega) (by omega); omega)]; exact ih (by omega)
  have := key (l.length - (i + 1)) (by omega)
  rwa [show i + 1 + (l.length - (i + 1)) = l.length by omega, List.take_length] at this
def zdp (p : GProblem) (l : List GChoice) : Bool := decide ((l.length : Int) = (p.Domains.length : Int)) && (List.range' 0 (p.Domains.length - 0)).all fun i => !(decide (¬ (nth l i).Station = (nth p.Domains i).Station) || !zaU (nth p.Domains i).Channels (nth l i).Channel)
structure Comp (p : GProblem) (l : List GChoice) : Prop where
  len : l.length = p.Domains.length
  st : ∀ i, i < p.Domains.length → (nth l i).Station = (nth p.Domains i).Station
  ch : ∀ i, i < p.Domains.length → zaU (nth p.Domains i).Channels (nth l i).Channel = true
theorem comp_iff {p : GProblem} {l : List GChoice} : zdp p l = true ↔ Comp p l := by
  unfold zdp; rw [Bool.and_eq_true, decide_eq_true_eq, List.all_eq_true]; constructor
  · rintro ⟨h1, h2⟩
    have h3 : ∀ i, i < p.Domains.length → (nth l i).Station = (nth p.Domains i).Station ∧ zaU (nth p.Domains i).Channels (nth l i).Channel = true := fun i hi => by
      have := h2 i (by rw [List.mem_range'_1]; omega); simpa using this
    exact ⟨by omega, fun i hi => (h3 i hi).1, fun i hi => (h3 i hi).2⟩
  · rintro ⟨h1, h2, h3⟩; refine ⟨by omega, fun i hi => ?_⟩; rw [List.mem_range'_1] at hi; rw [h2 i (by omega), h3 i (by omega)]; simp
theorem zin {l : List GChoice} (h : VL l) : (l.map (·.Station)).Pairwise (· < ·) := by
  rw [List.pairwise_map, List.pairwise_iff_getElem]; intro i j hi hj hij; have := h.lt i j hij hj
  rwa [zaP hi, zaP hj] at this
theorem zfd {p : GProblem} {l : List GChoice} (hp : okP p = true) (hl : VL l) : Comp p l ↔ (∀ d ∈ p.Domains, onL l d.Station ≠ 0 ∧ zaU d.Channels (onL l d.Station) = true) ∧ ∀ x ∈ l, anyD p x.Station = true := by
  constructor
  · intro h; refine ⟨fun d hd => ?_, fun x hx => ?_⟩
    · obtain ⟨i, hi, rfl⟩ := List.mem_iff_getElem.1 hd; have h1 := zfU hl (show i < l.length by rw [h.len]; exact hi); rw [h.st i hi] at h1; have h2 := hl.ch i (by rw [h.len]; exact hi); rw [← zaP hi, h1]; exact ⟨by omega, h.ch i hi⟩
    · obtain ⟨i, hi, rfl⟩ := List.mem_iff_getElem.1 hx; rw [anyD_mem, ← zaP hi, h.st i (by rw [← h.len]; exact hi)]; exact List.mem_map.2 ⟨_, zaz (by rw [← h.len]; exact hi), rfl⟩
  · rintro ⟨h1, h2⟩
    have e : l.map (·.Station) = p.Domains.map (·.Station) := zeF (zin hl) (zcI (zbx hp).i) fun x => by
      constructor
      · intro hx; obtain ⟨y, hy, rfl⟩ := List.mem_map.1 hx; exact anyD_mem.1 (h2 y hy)
      · intro hx; obtain ⟨d, hd, rfl⟩ := List.mem_map.1 hx; by_cases hn : d.Station ∈ l.map (·.Station)
        · exact hn
        · exact absurd (zg0 fun y hy q => hn (List.mem_map.2 ⟨y, hy, q⟩)) (h1 d hd).1
    (have hlen : l.length = p.Domains.length := by have := congrArg List.length e; rwa [List.length_map, List.length_map] at this)
    have hst : ∀ i, i < p.Domains.length → (nth l i).Station = (nth p.Domains i).Station := fun i hi => by
      have h3 := congrArg (fun m => nth m i) e
      rwa [zc2 (by omega), zc2 hi] at h3
    refine ⟨hlen, hst, fun i hi => ?_⟩; have h3 := (h1 _ (zaz hi)).2; rw [← hst i hi, zfU hl (by omega)] at h3; exact h3
theorem zd2 {n : Nat} {f : Nat → (Int × Int → GViolation) → Int × Int → GViolation} {K : Int × Int → GViolation} {q : Nat → Bool} {c : Int} (hf : ∀ i next s, i < n → f i next s = bif q i then ⟨c, (i : Int)⟩ else next s) (s : Int × Int) : ((∀ i, i < n → q i = false) ∧ zai f K n 0 s = K s) ∨ ((∃ i, i < n ∧ q i = true) ∧ (zai f K n 0 s).Kind = c) := by
  refine zdi (fun i s' => s' = s ∧ ∀ j, j < i → q j = false) (fun r => ((∀ i, i < n → q i = false) ∧ r = K s) ∨ ((∃ i, i < n ∧ q i = true) ∧ r.Kind = c)) ⟨rfl, fun j hj => absurd hj (Nat.not_lt_zero j)⟩ (fun s' h => .inl ⟨h.2, by rw [h.1]⟩) (fun i s' next hi h hn => ?_); rw [hf i next s' hi]
  cases hq : q i with
  | true => exact .inr ⟨⟨i, hi, hq⟩, rfl⟩
  | false =>
    refine hn s' ⟨h.1, fun j hj => ?_⟩; rcases Nat.lt_or_ge j i with hlt | hge
    · exact h.2 j hlt
    · (obtain rfl : j = i := by omega); exact hq
theorem zer {p : GProblem} {l : List GChoice} (hp : okP p = true) (hl : VL l) : zbG p l = zdp p l := by
  unfold zbG
  have e : za5 p l true = zai (fun (i : Nat) (next : (Int × Int) → GViolation) (s : Int × Int) => bif (((decide (onL l (nth p.Domains i).Station = 0)) && true) || ((decide (¬ onL l (nth p.Domains i).Station = 0)) && (!zaU (nth p.Domains i).Channels (onL l (nth p.Domains i).Station)))) then ⟨1, (i : Int)⟩ else next s) (fun s => zai (fun (i : Nat) (next : (Int × Int) → GViolation) (s : Int × Int) => bif !anyD p (nth l i).Station then ⟨2, (i : Int)⟩ else next s) (fun s => zai (fun (i : Nat) (next : (Int × Int) → GViolation) (s : Int × Int) => bif zaf (nth p.Rules.Pairs i) l then ⟨3, (i : Int)⟩ else next s) (fun s => zai (fun (i : Nat) (next : (Int × Int) → GViolation) (s : Int × Int) => bif zad p (nth p.Rules.Caps i) l then ⟨4, (i : Int)⟩ else next s) (fun s => ⟨0, 0⟩) (p.Rules.Caps.length - 0) 0 s) (p.Rules.Pairs.length - 0) 0 s) (l.length - 0) 0 s) (p.Domains.length - 0) 0 (0, 0) := by
    unfold za5; simp only [zaI, on_x, ze8]
  rw [e]; have a1 := fun K => zd2 (n := p.Domains.length - 0) (K := K) (q := fun i => (((decide (onL l (nth p.Domains i).Station = 0)) && true) || ((decide (¬ onL l (nth p.Domains i).Station = 0)) && (!zaU (nth p.Domains i).Channels (onL l (nth p.Domains i).Station))))) (c := 1) (fun i next s hi => rfl) (0, 0); have a2 := fun K s => zd2 (n := l.length - 0) (K := K) (q := fun i => !anyD p (nth l i).Station) (c := 2) (fun i next s hi => rfl) s; have a3 := fun K s => zd2 (n := p.Rules.Pairs.length - 0) (K := K) (q := fun i => zaf (nth p.Rules.Pairs i) l) (c := 3) (fun i next s hi => rfl) s; have a4 := fun K s => zd2 (n := p.Rules.Caps.length - 0) (K := K) (q := fun i => zad p (nth p.Rules.Caps i) l) (c := 4) (fun i next s hi => rfl) s
  have no : ¬ ((∀ d ∈ p.Domains, onL l d.Station ≠ 0 ∧ zaU d.Channels (onL l d.Station) = true) ∧ ∀ x ∈ l, anyD p x.Station = true) → zdp p l = false := fun h => by
    cases hc : zdp p l with
    | false => rfl
    | true => exact absurd ((zfd hp hl).1 (comp_iff.1 hc)) h
  rcases a1 _ with ⟨h1, e1⟩ | ⟨⟨i, hi, h1⟩, e1⟩
  · rw [e1]; rcases a2 _ _ with ⟨h2, e2⟩ | ⟨⟨i, hi, h2⟩, e2⟩
    · rw [e2]
      have hc : zdp p l = true := comp_iff.2 ((zfd hp hl).2 ⟨fun d hd => by
        obtain ⟨i, hi, rfl⟩ := List.mem_iff_getElem.1 hd; have := h1 i (by omega); rw [zaP hi] at this; simp at this
        exact ⟨this.1, this.2 this.1⟩, fun x hx => by
        obtain ⟨i, hi, rfl⟩ := List.mem_iff_getElem.1 hx; have := h2 i (by omega); rw [zaP hi] at this
        simpa using this⟩)
      rw [hc]; rcases a3 _ _ with ⟨_, e3⟩ | ⟨_, e3⟩
      · rw [e3]; rcases a4 _ _ with ⟨_, e4⟩ | ⟨_, e4⟩
        · rw [e4]; rfl
        · rw [e4]; rfl
      · rw [e3]; rfl
    · rw [e2, no fun h => by
        have := h.2 _ (zaz (show i < l.length by omega))
        rw [this] at h2; cases h2]
      rfl
  · rw [e1, no fun h => by
      obtain ⟨h3, h4⟩ := h.1 _ (zaz (show i < p.Domains.length by omega)); rw [h4] at h1
      simp [h3] at h1]
    rfl
structure Board (p : GProblem) (l : List GChoice) (b : Gboard) : Prop where
  pb : b.p = p
  on : TabC l b.on
  dm : ∀ i, i < p.Domains.length → Vec.get b.domains (nth p.Domains i).Station.toNat = (nth p.Domains i).Channels
  pr : ∀ n, n < 512 → Vec.get b.pairs n = p.Rules.Pairs.flatMap fun c => (bif decide (c.A = (n : Int)) then [c] else []) ++ (bif decide (c.B = (n : Int)) then [c] else [])
  cp : ∀ n, n < 512 → Vec.get b.caps n = p.Rules.Caps.filter fun c => decide (c.Station = (n : Int))
  inn : ∀ n, n < 512 → Vec.get b.into n = p.Rules.Loads.filter fun c => decide (c.To = (n : Int))
  fr : ∀ n, n < 512 → Vec.get b.from_ n = p.Rules.Loads.filter fun c => decide (c.From = (n : Int))
theorem zeh {α : Type} [Inhabited α] {xs : List α} {i : Nat} (hi : i < xs.length) (q : α → Bool) : (xs.take (i + 1)).filter q = (xs.take i).filter q ++ bif q (nth xs i) then [nth xs i] else [] := by
  rw [zen hi, List.filter_append, List.filter_cons]
  cases q (nth xs i) <;> rfl
theorem zeP {α : Type} {xs : List α} {i : Nat} (q : α → Bool) : ((xs.take i).filter q).length ≤ i := Nat.le_trans (List.length_filter_le _ _) (by rw [List.length_take]; omega)
theorem zjp {α ρ : Type} [Inhabited α] {xs : List α} {key : α → Int} {sz : Nat} (hs : sz ≤ 100) (hn : xs.length ≤ 10000) (hk : ∀ x ∈ xs, 0 ≤ key x ∧ key x < 512) (K : Vec 512 (List α) → Option ρ) : ∃ c : Vec 512 (List α), (∀ n, n < 512 → Vec.get c n = xs.filter fun x => decide (key x = (n : Int))) ∧
    zai (fun (i : Nat) (next : Vec 512 (List α) → Option ρ) (c : Vec 512 (List α)) => grd (0 ≤ key (nth xs i) ∧ key (nth xs i) < (512 : Int)) <| grd (room (Vec.get c (key (nth xs i)).toNat ++ [nth xs i]).length sz) <| next (Vec.put c (key (nth xs i)).toNat (Vec.get c (key (nth xs i)).toNat ++ [nth xs i]))) K (xs.length - 0) 0 (Vec.fill 512 []) = K c := by
  obtain ⟨h1, h2⟩ := zck (k := K) (n := xs.length - 0) (s := Vec.fill 512 ([] : List α))
    (f := fun (i : Nat) (next : Vec 512 (List α) → Option ρ) (c : Vec 512 (List α)) => grd (0 ≤ key (nth xs i) ∧ key (nth xs i) < (512 : Int)) <| grd (room (Vec.get c (key (nth xs i)).toNat ++ [nth xs i]).length sz) <| next (Vec.put c (key (nth xs i)).toNat (Vec.get c (key (nth xs i)).toNat ++ [nth xs i])))
    (fun i c => ∀ n, n < 512 → Vec.get c n = (xs.take i).filter fun x => decide (key x = (n : Int)))
    (fun i c => Vec.put c (key (nth xs i)).toNat (Vec.get c (key (nth xs i)).toNat ++ [nth xs i]))
    (fun n hn => Vec.get_fill hn)
    (fun i c hi hc n hn => by
      have h3 := hk _ (zaz (show i < xs.length by omega)); rw [zeh (by omega), Vec.get_put (by omega)]; by_cases e : n = (key (nth xs i)).toNat
      · rw [if_pos e, decide_eq_true (show key (nth xs i) = (n : Int) by omega), ← e, hc n hn]; rfl
      · rw [if_neg e, decide_eq_false (show ¬ key (nth xs i) = (n : Int) by omega), hc n hn, cond_false, List.append_nil])
    (fun i next c hi hc => by
      have h3 := hk _ (zaz (show i < xs.length by omega)); rw [zaT ⟨h3.1, h3.2⟩, zaT]; rw [hc _ (by omega), List.length_append]; have := zeP (xs := xs) (i := i) fun x => decide (key x = (((key (nth xs i)).toNat : Nat) : Int)); unfold room; simp only [List.length_cons, List.length_nil]; have h4 : ((List.filter (fun x => decide (key x = (((key (nth xs i)).toNat : Nat) : Int))) (List.take i xs)).length + (0 + 1)) * sz ≤ 10001 * 100 := Nat.mul_le_mul (by omega) hs
      omega)
  refine ⟨_, fun n hn => ?_, h1⟩; have := h2 n hn
  rwa [Nat.sub_zero, List.take_length] at this
abbrev abF (n : Nat) (c : GPair) : List GPair := (bif decide (c.A = (n : Int)) then [c] else []) ++ (bif decide (c.B = (n : Int)) then [c] else [])
theorem zht (n : Nat) : ∀ l : List GPair, (l.flatMap (abF n)).length ≤ 2 * l.length
  | [] => by simp
  | c :: l => by
    have := zht n l; rw [List.flatMap_cons, List.length_append, List.length_cons]
    have h : (abF n c).length ≤ 2 := by
      unfold abF
      cases decide (c.A = (n : Int)) <;> cases decide (c.B = (n : Int)) <;> simp
    omega
theorem ziP {ρ : Type} {xs : List GPair} (hn : xs.length ≤ 10000) (hk : ∀ x ∈ xs, (0 ≤ x.A ∧ x.A < 512) ∧ 0 ≤ x.B ∧ x.B < 512) (K : Vec 512 (List GPair) → Option ρ) : ∃ c : Vec 512 (List GPair), (∀ n, n < 512 → Vec.get c n = xs.flatMap (abF n)) ∧
    zai (fun (i_17 : Nat) (next16 : Vec 512 (List GPair) → Option ρ) (c_15 : Vec 512 (List GPair)) =>
          grd (0 ≤ (nth xs i_17).A ∧ (nth xs i_17).A < (512 : Int)) <|
          grd (room ((Vec.get c_15 (((nth xs i_17).A).toNat)) ++ [(nth xs i_17)]).length 40) <|
          grd (0 ≤ (nth xs i_17).B ∧ (nth xs i_17).B < (512 : Int)) <|
          grd (room ((Vec.get (Vec.put c_15 (((nth xs i_17).A).toNat) ((Vec.get c_15 (((nth xs i_17).A).toNat)) ++ [(nth xs i_17)])) (((nth xs i_17).B).toNat)) ++ [(nth xs i_17)]).length 40) <|
          next16 (Vec.put (Vec.put c_15 (((nth xs i_17).A).toNat) ((Vec.get c_15 (((nth xs i_17).A).toNat)) ++ [(nth xs i_17)])) (((nth xs i_17).B).toNat) ((Vec.get (Vec.put c_15 (((nth xs i_17).A).toNat) ((Vec.get c_15 (((nth xs i_17).A).toNat)) ++ [(nth xs i_17)])) (((nth xs i_17).B).toNat)) ++ [(nth xs i_17)]))) K (xs.length - 0) 0 (Vec.fill 512 []) = K c := by
  obtain ⟨h1, h2⟩ := zck (k := K) (n := xs.length - 0) (s := Vec.fill 512 ([] : List GPair))
    (f := fun (i_17 : Nat) (next16 : Vec 512 (List GPair) → Option ρ) (c_15 : Vec 512 (List GPair)) =>
          grd (0 ≤ (nth xs i_17).A ∧ (nth xs i_17).A < (512 : Int)) <|
          grd (room ((Vec.get c_15 (((nth xs i_17).A).toNat)) ++ [(nth xs i_17)]).length 40) <|
          grd (0 ≤ (nth xs i_17).B ∧ (nth xs i_17).B < (512 : Int)) <|
          grd (room ((Vec.get (Vec.put c_15 (((nth xs i_17).A).toNat) ((Vec.get c_15 (((nth xs i_17).A).toNat)) ++ [(nth xs i_17)])) (((nth xs i_17).B).toNat)) ++ [(nth xs i_17)]).length 40) <|
          next16 (Vec.put (Vec.put c_15 (((nth xs i_17).A).toNat) ((Vec.get c_15 (((nth xs i_17).A).toNat)) ++ [(nth xs i_17)])) (((nth xs i_17).B).toNat) ((Vec.get (Vec.put c_15 (((nth xs i_17).A).toNat) ((Vec.get c_15 (((nth xs i_17).A).toNat)) ++ [(nth xs i_17)])) (((nth xs i_17).B).toNat)) ++ [(nth xs i_17)])))
    (fun i c => ∀ n, n < 512 → Vec.get c n = (xs.take i).flatMap (abF n))
    (fun i c => Vec.put (Vec.put c (((nth xs i).A).toNat) ((Vec.get c (((nth xs i).A).toNat)) ++ [(nth xs i)])) (((nth xs i).B).toNat) ((Vec.get (Vec.put c (((nth xs i).A).toNat) ((Vec.get c (((nth xs i).A).toNat)) ++ [(nth xs i)])) (((nth xs i).B).toNat)) ++ [(nth xs i)]))
    (fun n hn => Vec.get_fill hn)
    (fun i c hi hc n hn => by
      have h3 := hk _ (zaz (show i < xs.length by omega)); rw [zen (by omega), List.flatMap_append, ← hc n hn, Vec.get_put (by omega), Vec.get_put (by omega), Vec.get_put (by omega)]
      show _ = Vec.get c n ++ (abF n (nth xs i) ++ [])
      rw [List.append_nil]; unfold abF; by_cases eA : n = ((nth xs i).A).toNat <;> by_cases eB : n = ((nth xs i).B).toNat
      · rw [if_pos eB, if_pos (by omega), decide_eq_true (show (nth xs i).A = (n : Int) by omega), decide_eq_true (show (nth xs i).B = (n : Int) by omega), ← eA]; simp
      · rw [if_neg eB, if_pos eA, decide_eq_true (show (nth xs i).A = (n : Int) by omega), decide_eq_false (show ¬ (nth xs i).B = (n : Int) by omega), ← eA]; simp
      · rw [if_pos eB, if_neg (by omega), decide_eq_false (show ¬ (nth xs i).A = (n : Int) by omega), decide_eq_true (show (nth xs i).B = (n : Int) by omega), ← eB]; simp
      · rw [if_neg eB, if_neg eA, decide_eq_false (show ¬ (nth xs i).A = (n : Int) by omega), decide_eq_false (show ¬ (nth xs i).B = (n : Int) by omega)]; simp)
    (fun i next c hi hc => by
      have h3 := hk _ (zaz (show i < xs.length by omega))
      have hb : ∀ n, n < 512 → (Vec.get c n).length ≤ 20000 := fun n hn => by
        rw [hc n hn]; have h4 := zht n (xs.take i); rw [List.length_take] at h4; omega
      have hr : ∀ l : List GPair, l.length ≤ 20001 → room (l ++ [nth xs i]).length 40 := fun l hl => by
        rw [List.length_append]; unfold room; simp only [List.length_cons, List.length_nil]; omega
      have hA := hb ((nth xs i).A).toNat (by omega); rw [zaT ⟨h3.1.1, h3.1.2⟩, zaT (hr _ (by omega)), zaT ⟨h3.2.1, h3.2.2⟩, zaT (hr _ ?_)]; rw [Vec.get_put (by omega)]; have hB := hb ((nth xs i).B).toNat (by omega)
      split
      · rw [List.length_append]; simp only [List.length_cons, List.length_nil]; omega
      · omega)
  refine ⟨_, fun n hn => ?_, h1⟩; have := h2 n hn
  rwa [Nat.sub_zero, List.take_length] at this
theorem ziH {ρ : Type} {xs : List GLoad} (hn : xs.length ≤ 10000) (hk : ∀ x ∈ xs, (0 ≤ x.To ∧ x.To < 512) ∧ 0 ≤ x.From ∧ x.From < 512) (K : Vec 512 (List GLoad) × Vec 512 (List GLoad) → Option ρ) : ∃ c : Vec 512 (List GLoad) × Vec 512 (List GLoad), ((∀ n, n < 512 → Vec.get c.1 n = xs.filter fun x => decide (x.To = (n : Int))) ∧ ∀ n, n < 512 → Vec.get c.2 n = xs.filter fun x => decide (x.From = (n : Int))) ∧
    zai (fun (i_32 : Nat) (next31 : (Vec 512 (List GLoad) × Vec 512 (List GLoad)) → Option ρ) (s31 : Vec 512 (List GLoad) × Vec 512 (List GLoad)) =>
              grd (0 ≤ (nth xs i_32).To ∧ (nth xs i_32).To < (512 : Int)) <|
              grd (room ((Vec.get s31.1 (((nth xs i_32).To).toNat)) ++ [(nth xs i_32)]).length 40) <|
              grd (0 ≤ (nth xs i_32).From ∧ (nth xs i_32).From < (512 : Int)) <|
              grd (room ((Vec.get s31.2 (((nth xs i_32).From).toNat)) ++ [(nth xs i_32)]).length 40) <|
              next31 ((Vec.put s31.1 (((nth xs i_32).To).toNat) ((Vec.get s31.1 (((nth xs i_32).To).toNat)) ++ [(nth xs i_32)])), (Vec.put s31.2 (((nth xs i_32).From).toNat) ((Vec.get s31.2 (((nth xs i_32).From).toNat)) ++ [(nth xs i_32)])))) K (xs.length - 0) 0 ((Vec.fill 512 ([] : List GLoad)), (Vec.fill 512 ([] : List GLoad))) = K c := by
  obtain ⟨h1, h2⟩ := zck (k := K) (n := xs.length - 0) (s := ((Vec.fill 512 ([] : List GLoad)), (Vec.fill 512 ([] : List GLoad))))
    (f := fun (i_32 : Nat) (next31 : (Vec 512 (List GLoad) × Vec 512 (List GLoad)) → Option ρ) (s31 : Vec 512 (List GLoad) × Vec 512 (List GLoad)) =>
              grd (0 ≤ (nth xs i_32).To ∧ (nth xs i_32).To < (512 : Int)) <|
              grd (room ((Vec.get s31.1 (((nth xs i_32).To).toNat)) ++ [(nth xs i_32)]).length 40) <|
              grd (0 ≤ (nth xs i_32).From ∧ (nth xs i_32).From < (512 : Int)) <|
              grd (room ((Vec.get s31.2 (((nth xs i_32).From).toNat)) ++ [(nth xs i_32)]).length 40) <|
              next31 ((Vec.put s31.1 (((nth xs i_32).To).toNat) ((Vec.get s31.1 (((nth xs i_32).To).toNat)) ++ [(nth xs i_32)])), (Vec.put s31.2 (((nth xs i_32).From).toNat) ((Vec.get s31.2 (((nth xs i_32).From).toNat)) ++ [(nth xs i_32)]))))
    (fun i c => (∀ n, n < 512 → Vec.get c.1 n = (xs.take i).filter fun x => decide (x.To = (n : Int))) ∧ ∀ n, n < 512 → Vec.get c.2 n = (xs.take i).filter fun x => decide (x.From = (n : Int)))
    (fun i c => ((Vec.put c.1 (((nth xs i).To).toNat) ((Vec.get c.1 (((nth xs i).To).toNat)) ++ [(nth xs i)])), (Vec.put c.2 (((nth xs i).From).toNat) ((Vec.get c.2 (((nth xs i).From).toNat)) ++ [(nth xs i)]))))
    ⟨fun n hn => Vec.get_fill hn, fun n hn => Vec.get_fill hn⟩
    (fun i c hi hc => by
      have h3 := hk _ (zaz (show i < xs.length by omega)); refine ⟨fun n hn => ?_, fun n hn => ?_⟩
      · rw [zeh (by omega), Vec.get_put (by omega)]; by_cases e : n = ((nth xs i).To).toNat
        · rw [if_pos e, decide_eq_true (show (nth xs i).To = (n : Int) by omega), ← e, hc.1 n hn]; rfl
        · rw [if_neg e, decide_eq_false (show ¬ (nth xs i).To = (n : Int) by omega), hc.1 n hn, cond_false, List.append_nil]
      · rw [zeh (by omega), Vec.get_put (by omega)]; by_cases e : n = ((nth xs i).From).toNat
        · rw [if_pos e, decide_eq_true (show (nth xs i).From = (n : Int) by omega), ← e, hc.2 n hn]; rfl
        · rw [if_neg e, decide_eq_false (show ¬ (nth xs i).From = (n : Int) by omega), hc.2 n hn, cond_false, List.append_nil])
    (fun i next c hi hc => by
      have h3 := hk _ (zaz (show i < xs.length by omega))
      have hr : ∀ l : List GLoad, l.length ≤ i → room (l ++ [nth xs i]).length 40 := fun l hl => by
        rw [List.length_append]; unfold room; simp only [List.length_cons, List.length_nil]; omega
      rw [zaT ⟨h3.1.1, h3.1.2⟩, zaT (hr _ (by rw [hc.1 _ (by omega)]; exact zeP _)), zaT ⟨h3.2.1, h3.2.2⟩, zaT (hr _ (by rw [hc.2 _ (by omega)]; exact zeP _))])
  refine ⟨_, ⟨fun n hn => ?_, fun n hn => ?_⟩, h1⟩
  · have := h2.1 n hn
    rwa [Nat.sub_zero, List.take_length] at this
  · have := h2.2 n hn
    rwa [Nat.sub_zero, List.take_length] at this
theorem zjk {ρ : Type} {p : GProblem} (hp : okP p = true) (K : Vec 512 (List Int) → Option ρ) : ∃ c : Vec 512 (List Int), (∀ i, i < p.Domains.length → Vec.get c (nth p.Domains i).Station.toNat = (nth p.Domains i).Channels) ∧
    zai (fun (i_11 : Nat) (next10 : Vec 512 (List Int) → Option ρ) (c_9 : Vec 512 (List Int)) =>
        grd (0 ≤ (nth p.Domains i_11).Station ∧ (nth p.Domains i_11).Station < (512 : Int)) <|
        next10 (Vec.put c_9 (((nth p.Domains i_11).Station).toNat) ((nth p.Domains i_11).Channels))) K (p.Domains.length - 0) 0 (Vec.fill 512 []) = K c := by
  have hs : ∀ i j, i < j → j < p.Domains.length → (nth p.Domains i).Station < (nth p.Domains j).Station := fun i j hij hj => by
    have h := List.pairwise_iff_getElem.1 (zcI (zbx hp).i) i j (by rw [List.length_map]; omega) (by rw [List.length_map]; exact hj) hij; rw [List.getElem_map, List.getElem_map] at h
    rwa [zaP (by omega), zaP hj]
  obtain ⟨h1, h2⟩ := zck (k := K) (n := p.Domains.length - 0) (s := Vec.fill 512 ([] : List Int))
    (f := fun (i_11 : Nat) (next10 : Vec 512 (List Int) → Option ρ) (c_9 : Vec 512 (List Int)) =>
        grd (0 ≤ (nth p.Domains i_11).Station ∧ (nth p.Domains i_11).Station < (512 : Int)) <|
        next10 (Vec.put c_9 (((nth p.Domains i_11).Station).toNat) ((nth p.Domains i_11).Channels)))
    (fun i c => ∀ j, j < i → Vec.get c (nth p.Domains j).Station.toNat = (nth p.Domains j).Channels)
    (fun i c => Vec.put c (((nth p.Domains i).Station).toNat) ((nth p.Domains i).Channels))
    (fun j hj => absurd hj (Nat.not_lt_zero j))
    (fun i c hi hc j hj => by
      have h3 := zdn (zbx hp).d (zaz (show i < p.Domains.length by omega)); have h4 := zdn (zbx hp).d (zaz (show j < p.Domains.length by omega)); rw [Vec.get_put (by omega)]; rcases Nat.lt_or_ge j i with hlt | hge
      · have := hs j i hlt (by omega); rw [if_neg (by omega)]; exact hc j hlt
      · (obtain rfl : j = i := by omega)
        rw [if_pos rfl])
    (fun i next c hi hc => by
      have h3 := zdn (zbx hp).d (zaz (show i < p.Domains.length by omega))
      rw [zaT ⟨h3.1, h3.2⟩])
  exact ⟨_, fun i hi => h2 i (by omega), h1⟩
theorem zif {κ ρ : Type} {T : κ → Prop} {L : (κ → ρ) → ρ} (Q : ρ → Prop) (h : ∀ K, ∃ c, T c ∧ L K = K c) (K : κ → ρ) (g : ∀ c, T c → Q (K c)) : Q (L K) := by
  obtain ⟨c, h1, h2⟩ := h K; rw [h2]; exact g c h1
theorem zhE {p : GProblem} {l : List GChoice} (hp : okP p = true) (hl : VL l) : ∃ b, zcd p l = some (some b) ∧ Board p l b := by
  have hg := zbH (zbx hp).r; unfold zcd; simp only [zaI]
  have hP : ∀ x ∈ p.Rules.Pairs, (0 ≤ x.A ∧ x.A < 512) ∧ 0 ≤ x.B ∧ x.B < 512 := fun x hx => by
    have h := zdD (hg.p x hx); have h1 := zby h.1; have h2 := zby h.2; omega
  have hL : ∀ x ∈ p.Rules.Loads, (0 ≤ x.To ∧ x.To < 512) ∧ 0 ≤ x.From ∧ x.From < 512 := fun x hx => by
    have h := zcU (hg.l x hx); have h1 := zby h.1; have h2 := zby h.2; omega
  have hC : ∀ x ∈ p.Rules.Caps, 0 ≤ x.Station ∧ x.Station < 512 := fun x hx => by
    have h1 := zby (zeR (hg.c x hx)); omega
  have u1 := zif (fun r => ∃ b, r = some (some b) ∧ Board p l b) (zja hl (ρ := Option Gboard)); have u2 := zif (fun r => ∃ b, r = some (some b) ∧ Board p l b) (zjk hp (ρ := Option Gboard)); have u3 := zif (fun r => ∃ b, r = some (some b) ∧ Board p l b) (ziP (by have := hg.np; omega) hP (ρ := Option Gboard)); have u4 := zif (fun r => ∃ b, r = some (some b) ∧ Board p l b) (zjp (xs := p.Rules.Caps) (key := fun c => c.Station) (sz := 32) (by decide) (by have := hg.nc; omega) hC (ρ := Option Gboard)); have u5 := zif (fun r => ∃ b, r = some (some b) ∧ Board p l b) (ziH (by have := hg.nl; omega) hL (ρ := Option Gboard)); refine u1 _ fun c1 t1 => ?_; refine u2 _ fun c2 t2 => ?_; refine u3 _ fun c3 t3 => ?_; refine u4 _ fun c4 t4 => ?_; refine u5 _ fun c5 t5 => ?_; exact ⟨_, rfl, ⟨rfl, t1, t2, t3, t4, t5.1, t5.2⟩⟩
theorem zc7 {α : Type} (q : α → Bool) : ∀ (l : List α) (a : Int), 0 ≤ a → a + (l.length : Int) ≤ 4611686018427387904 → l.foldl (fun n x => bif q x then wI (n + 1) else n) a = a + ((l.filter q).length : Int)
  | [], a, _, _ => by simp
  | x :: l, a, h0, h1 => by
    rw [List.length_cons] at h1; rw [List.foldl_cons, List.filter_cons]
    cases hq : q x with
    | false => rw [cond_false, if_neg (by simp)]; exact zc7 q l a h0 (by omega)
    | true =>
      rw [cond_true, if_pos rfl, zfZ (by omega), zc7 q l (a + 1) (by omega) (by omega), List.length_cons]; omega
theorem zdt {α : Type} (q1 q2 : α → Bool) (h : ∀ x, q1 x = true → q2 x = false) : ∀ l : List α, (l.filter fun x => q1 x || q2 x).length = (l.filter q1).length + (l.filter q2).length
  | [] => rfl
  | x :: l => by
    rw [List.filter_cons, List.filter_cons, List.filter_cons]; have ih := zdt q1 q2 h l
    cases h1 : q1 x with
    | true => rw [h x h1]; simp [ih]; omega
    | false => cases h2 : q2 x <;> simp [ih] <;> omega
section
variable {p : GProblem} {l : List GChoice} {b : Gboard}
theorem Board.get (hb : Board p l b) {i : Int} (hi : 0 ≤ i ∧ i < 512) : Vec.get b.on i.toNat = onL l i := hb.on.get hi
theorem zh1 (hb : Board p l b) {c : GLoad} (hT : 0 ≤ c.To ∧ c.To < 512) (hF : 0 ≤ c.From ∧ c.From < 512) : za1 b c = some ((decide (c.Low ≤ onL l c.To) && decide (onL l c.To ≤ c.High)) && decide (onL l c.From = onL l c.To)) := by
  unfold za1; simp only [zaI, hb.get hT, hb.get hF]; rw [zaT hT]
  cases decide (c.Low ≤ onL l c.To)
  · rfl
  cases decide (onL l c.To ≤ c.High)
  · rfl
  rw [cond_true, cond_true, zaT hF]; rfl
theorem zeM (hp : okP p = true) (hl : VL l) (hc : Comp p l) (hb : Board p l b) {c : GPair} (hm : c ∈ p.Rules.Pairs) : zaF b c = some (zaf c l) := by
  have hg := zbH (zbx hp).r; have h := zdD (hg.p c hm); have h1 := zby h.1; have h2 := zby h.2; (have hA : 0 ≤ c.A ∧ c.A < 512 := by omega); (have hB : 0 ≤ c.B ∧ c.B < 512 := by omega); have hlk := List.all_eq_true.1 (zbA (zbx hp).l) c hm; rw [zeE (zbx hp).d, zeE (zbx hp).d] at hlk
  have on0 : ∀ n, anyD p n = true → onL l n ≠ 0 := fun n hn => by
    obtain ⟨d, hd, rfl⟩ := List.mem_map.1 (anyD_mem.1 hn); exact (((zfd hp hl).1 hc).1 d hd).1
  have nA := on0 _ (zbA hlk); have nB := on0 _ (zbR hlk); unfold zaF; simp only [zaI, hb.get hA, hb.get hB]; rw [zaT hA]; have e := zdY c l; by_cases a1 : c.Low ≤ onL l c.A
  · by_cases a2 : onL l c.A ≤ c.High
    · rw [decide_eq_true a1, decide_eq_true a2, cond_true, cond_true, zaT hB]
      congr 1
      rw [Bool.eq_iff_iff, e, decide_eq_true_eq]; exact ⟨fun q => ⟨nA, nB, a1, a2, q⟩, fun q => q.2.2.2.2⟩
    · rw [decide_eq_true a1, decide_eq_false a2, cond_true, cond_false]
      congr 1
      cases hq : zaf c l with
      | false => rfl
      | true => exact absurd (e.1 hq).2.2.2.1 a2
  · rw [decide_eq_false a1, cond_false]
    congr 1
    cases hq : zaf c l with
    | false => rfl
    | true => exact absurd (e.1 hq).2.2.1 a1
def zda (p : GProblem) (l : List GChoice) (n : Int) : Nat := (p.Rules.Caps.filter fun c => decide (c.Station = n) && zad p c l).length
theorem zg4 (hp : okP p = true) (hb : Board p l b) {n : Int} (hn : 0 ≤ n ∧ n < 512) : zaJ b n = some (zda p l n : Int) := by
  have hg := zbH (zbx hp).r
  have e1 : Vec.get b.caps n.toNat = p.Rules.Caps.filter fun c => decide (c.Station = n) := by
    rw [hb.cp _ (by omega)]; congr 1; funext c; rw [show ((n.toNat : Nat) : Int) = n by omega]
  have e2 : Vec.get b.into n.toNat = p.Rules.Loads.filter fun c => decide (c.To = n) := by
    rw [hb.inn _ (by omega)]; congr 1; funext c; rw [show ((n.toNat : Nat) : Int) = n by omega]
  have e3 : zda p l n = ((Vec.get b.caps n.toNat).filter fun c => zad p c l).length := by
    unfold zda; rw [e1, List.filter_filter]
    congr 2; funext c; rw [Bool.and_comm]
  (have hlen : (Vec.get b.caps n.toNat).length ≤ 1024 := by rw [e1]; exact Nat.le_trans (List.length_filter_le _ _) hg.nc); unfold zaJ; simp only [zaI]; rw [zaT hn]; by_cases h0 : ((Vec.get b.caps n.toNat).length : Int) = 0
  · rw [decide_eq_true h0, cond_true, e3, List.eq_nil_of_length_eq_zero (show (Vec.get b.caps n.toNat).length = 0 by omega)]; rfl
  rw [decide_eq_false h0, cond_false]
  have hL : ∀ y ∈ Vec.get b.into n.toNat, (0 ≤ y.To ∧ y.To < 512) ∧ (0 ≤ y.From ∧ y.From < 512) := fun y hy => by
    rw [e2] at hy; have h := zcU (hg.l y (List.mem_filter.1 hy).1); have h1 := zby h.1; have h2 := zby h.2; omega
  refine Eq.trans (zcT (fun i s => bif ((decide ((nth (Vec.get b.into n.toNat) i).Low ≤ onL l (nth (Vec.get b.into n.toNat) i).To) && decide (onL l (nth (Vec.get b.into n.toNat) i).To ≤ (nth (Vec.get b.into n.toNat) i).High)) && decide (onL l (nth (Vec.get b.into n.toNat) i).From = onL l (nth (Vec.get b.into n.toNat) i).To)) then wI (s + (nth (Vec.get b.into n.toNat) i).Weight) else s) fun i next s hi => ?_) ?_
  · have h := hL _ (zaz (show i < (Vec.get b.into n.toNat).length by omega)); rw [zh1 hb h.1 h.2, Option.bind_some]
    cases ((decide ((nth (Vec.get b.into n.toNat) i).Low ≤ onL l (nth (Vec.get b.into n.toNat) i).To) && decide (onL l (nth (Vec.get b.into n.toNat) i).To ≤ (nth (Vec.get b.into n.toNat) i).High)) && decide (onL l (nth (Vec.get b.into n.toNat) i).From = onL l (nth (Vec.get b.into n.toNat) i).To)) <;> rfl
  rw [Nat.sub_zero, zcr (l := Vec.get b.into n.toNat) (g := fun s x => bif ((decide (x.Low ≤ onL l x.To) && decide (onL l x.To ≤ x.High)) && decide (onL l x.From = onL l x.To)) then wI (s + x.Weight) else s)]
  have e4 : (Vec.get b.into n.toNat).foldl (fun s x => bif ((decide (x.Low ≤ onL l x.To) && decide (onL l x.To ≤ x.High)) && decide (onL l x.From = onL l x.To)) then wI (s + x.Weight) else s) 0 = p.Rules.Loads.foldl (zfL l n) 0 := by
    rw [e2, List.foldl_filter]
    congr 1
    funext s x
    unfold zfL; by_cases hx : x.To = n
    · rw [if_pos (by simpa using hx), decide_eq_true hx, hx, Bool.true_and]
      cases decide (x.Low ≤ onL l n) <;> cases decide (onL l n ≤ x.High) <;> cases decide (onL l x.From = onL l n) <;> rfl
    · rw [if_neg (by simpa using hx), decide_eq_false hx]; simp
  rw [e4]; refine Eq.trans (zcT (fun i s => bif zad p (nth (Vec.get b.caps n.toNat) i) l then wI (s + 1) else s) fun i next s hi => ?_) ?_
  · have hm := zaz (show i < (Vec.get b.caps n.toNat).length by omega); have hm2 := hm; rw [e1] at hm2; have hm3 := List.mem_filter.1 hm2; rw [← e1] at hm3; have hS : (nth (Vec.get b.caps n.toNat) i).Station = n := of_decide_eq_true hm3.2; rw [zei p _ l (zfc (hg.c _ hm3.1)), hS, hb.get hn]; unfold zan
    cases (decide ((nth (Vec.get b.caps n.toNat) i).Low ≤ onL l n) && decide (onL l n ≤ (nth (Vec.get b.caps n.toNat) i).High) && decide ((nth (Vec.get b.caps n.toNat) i).Max < p.Rules.Loads.foldl (zfL l n) 0)) <;> rfl
  rw [Nat.sub_zero, zcr (l := Vec.get b.caps n.toNat) (g := fun s x => bif zad p x l then wI (s + 1) else s), zc7 (fun x => zad p x l) _ 0 (by omega) (by omega), e3, Int.zero_add]
def zce (p : GProblem) (l : List GChoice) : Nat := (p.Rules.Pairs.filter fun c => zaf c l).length + (p.Rules.Caps.filter fun c => zad p c l).length
theorem zfw (hn : p.Rules.Caps.length ≤ 1024) : ∀ (D : List GDomain) (a : Int), (D.map (·.Station)).Nodup → 0 ≤ a → a + (D.length : Int) * 1024 ≤ 1000000000 → D.foldl (fun s d => wI (s + (zda p l d.Station : Int))) a = a + ((p.Rules.Caps.filter fun c => D.any (fun d => decide (d.Station = c.Station)) && zad p c l).length : Int)
  | [], a, _, _, _ => by
    (have : (p.Rules.Caps.filter fun c => (([] : List GDomain).any fun d => decide (d.Station = c.Station)) && zad p c l) = [] := by simp); rw [this]; simp
  | d :: D, a, hd, h0, h1 => by
    rw [List.map_cons, List.nodup_cons] at hd; rw [List.foldl_cons]; have hlt : zda p l d.Station ≤ 1024 := Nat.le_trans (List.length_filter_le _ _) hn; rw [List.length_cons] at h1; rw [zfZ (by omega), zfw hn D _ hd.2 (by omega) (by omega)]
    have e : (fun c : GCap => (d :: D).any (fun d => decide (d.Station = c.Station)) && zad p c l) = fun c => (decide (c.Station = d.Station) && zad p c l) || (D.any (fun d => decide (d.Station = c.Station)) && zad p c l) := by
      funext c
      rw [List.any_cons, Bool.and_or_distrib_right, show decide (d.Station = c.Station) = decide (c.Station = d.Station) from by rw [Bool.eq_iff_iff, decide_eq_true_eq, decide_eq_true_eq]; exact eq_comm]
    rw [e, zdt (fun c => decide (c.Station = d.Station) && zad p c l) (fun c => D.any (fun d => decide (d.Station = c.Station)) && zad p c l) (fun c hc => by
      have hS : c.Station = d.Station := of_decide_eq_true (zbA hc)
      have : (D.any fun d => decide (d.Station = c.Station)) = false := by
        rw [List.any_eq_false]; intro x hx hq; exact hd.1 (List.mem_map.2 ⟨x, hx, (of_decide_eq_true hq).trans hS⟩)
      rw [this]; rfl)]
    unfold zda; omega
theorem zgi {l : List Int} (h : l.Pairwise (· < ·)) : l.Nodup := h.imp fun h => by omega
theorem ziV (hp : okP p = true) (hl : VL l) (hc : Comp p l) (hb : Board p l b) : zaw b = some (zce p l : Int) := by
  have hg := zbH (zbx hp).r; have n1 := hg.np; have n2 := hg.nc; have n3 := (zbx hp).len; unfold zaw; simp only [zaI, Nat.sub_zero, hb.pb]; refine Eq.trans (zcT (fun i s => bif zaf (nth p.Rules.Pairs i) l then wI (s + 1) else s) fun i next s hi => ?_) ?_
  · rw [zeM hp hl hc hb (zaz hi), Option.bind_some]
    cases zaf (nth p.Rules.Pairs i) l <;> rfl
  rw [zcr (l := p.Rules.Pairs) (g := fun s x => bif zaf x l then wI (s + 1) else s), zc7 (fun x => zaf x l) _ 0 (by omega) (by omega)]; have h1 := List.length_filter_le (fun x => zaf x l) p.Rules.Pairs; refine Eq.trans (zcT (fun i s => wI (s + (zda p l (nth p.Domains i).Station : Int))) fun i next s hi => ?_) ?_
  · have h3 := zdn (zbx hp).d (zaz hi); rw [zg4 hp hb ⟨h3.1, h3.2⟩, Option.bind_some]
  rw [zcr (l := p.Domains) (g := fun s d => wI (s + (zda p l d.Station : Int))), zfw n2 p.Domains _ (zgi (zcI (zbx hp).i)) (by omega) (by omega)]
  have e : (p.Rules.Caps.filter fun c => p.Domains.any (fun d => decide (d.Station = c.Station)) && zad p c l) = p.Rules.Caps.filter fun c => zad p c l := by
    refine List.filter_congr fun c hm => ?_; have h := List.all_eq_true.1 (zbR (zbR (zbx hp).l)) c hm; rw [zeE (zbx hp).d] at h; unfold anyD at h; rw [h, Bool.true_and]
  rw [e]; unfold zce
  congr 1
  omega
end
section
variable {p : GProblem} {l : List GChoice} {b : Gboard}
theorem zfu {α β : Type} (f : α → List β) : ∀ (l : List α) (s : List β), l.foldl (fun s x => s ++ f x) s = s ++ l.flatMap f
  | [], s => by simp
  | x :: l, s => by rw [List.foldl_cons, zfu f l, List.flatMap_cons, List.append_assoc]
theorem zhz {ρ α : Type} [Inhabited α] {xs : List α} {f : Nat → (List Int → ρ) → List Int → ρ} {K : List Int → ρ} (g : α → List Int) (m N : Nat) (hg : ∀ x ∈ xs, (g x).length ≤ m) (s0 : List Int) (hN : s0.length + m * xs.length ≤ N)
    (hf : ∀ i next s, i < xs.length → s.length + m ≤ N → f i next s = next (s ++ g (nth xs i))) : zai f K xs.length 0 s0 = K (s0 ++ xs.flatMap g) := by
  obtain ⟨h1, _⟩ := zck (f := f) (k := K) (n := xs.length) (s := s0) (fun i s => s.length ≤ s0.length + m * i) (fun i s => s ++ g (nth xs i)) (by omega)
    (fun i s hi hs => by
      have := hg _ (zaz hi)
      rw [List.length_append, Nat.mul_add]; omega)
    (fun i next s hi hs => hf i next s hi (by
      (have : m * i + m ≤ m * xs.length := by rw [← Nat.mul_succ]; exact Nat.mul_le_mul_left m hi)
      omega))
  rw [h1, zcr (l := xs) (g := fun s x => s ++ g x), zfu]
def zfi (l : List GChoice) (y : GLoad) : Bool := (decide (y.Low ≤ onL l y.To) && decide (onL l y.To ≤ y.High)) && decide (onL l y.From = onL l y.To)
def ze3 (l : List GChoice) (c : GPair) : List Int := bif zaf c l then [c.A, c.B] else []
def zgw (l : List GChoice) (y : GLoad) : List Int := bif zfi l y then [y.From] else []
def domI (p : GProblem) (l : List GChoice) (d : GDomain) : List Int := bif decide ((zda p l d.Station : Int) = 0) then [] else d.Station :: (p.Rules.Loads.filter fun y => decide (y.To = d.Station)).flatMap (zgw l)
theorem zf0 (y : GLoad) : (zgw l y).length ≤ 1 := by unfold zgw; cases zfi l y <;> simp
theorem zhB {α : Type} {g : α → List Int} (h : ∀ x, (g x).length ≤ 1) (xs : List α) : (xs.flatMap g).length ≤ xs.length := by
  induction xs with
  | nil => simp
  | cons x xs ih => rw [List.flatMap_cons, List.length_append, List.length_cons]; have := h x; omega
theorem zi9 {s : List Int} {n : Nat} (h : s.length ≤ n) (hn : n ≤ 1000000) : room s.length 8 := by unfold room; omega
theorem zhi (hp : okP p = true) (hl : VL l) (hc : Comp p l) (hb : Board p l b) : zaR b = some (Lib.compact (isort (p.Rules.Pairs.flatMap (ze3 l) ++ p.Domains.flatMap (domI p l)))) := by
  have hg := zbH (zbx hp).r; have n1 := hg.np; have n2 := hg.nl; have n3 := (zbx hp).len; unfold zaR; simp only [zaI, Nat.sub_zero, hb.pb]; (have lp : ∀ c ∈ p.Rules.Pairs, (ze3 l c).length ≤ 2 := fun c _ => by unfold ze3; cases zaf c l <;> simp); refine Eq.trans (zhz (xs := p.Rules.Pairs) (ze3 l) 2 10000 lp [] (by simp only [List.length_nil]; omega) fun i next s hi hs => ?_) ?_
  · rw [zeM hp hl hc hb (zaz hi), Option.bind_some]; unfold ze3
    cases zaf (nth p.Rules.Pairs i) l
    · rw [cond_false, cond_false, List.append_nil]
    · rw [cond_true, cond_true, zaT (zi9 (n := 10000) (by rw [List.length_append]; simp only [List.length_cons, List.length_nil]; omega) (by omega))]
  rw [List.nil_append]
  have ld : ∀ d ∈ p.Domains, (domI p l d).length ≤ 1025 := fun d _ => by
    unfold domI
    cases decide ((zda p l d.Station : Int) = 0)
    · rw [cond_false, List.length_cons]; have h1 := zhB (g := zgw l) zf0 (p.Rules.Loads.filter fun y => decide (y.To = d.Station)); have h2 := List.length_filter_le (fun y => decide (y.To = d.Station)) p.Rules.Loads; omega
    · simp
  have l1 : (p.Rules.Pairs.flatMap (ze3 l)).length ≤ 8192 := by
    have : ∀ xs : List GPair, (∀ c ∈ xs, (ze3 l c).length ≤ 2) → (xs.flatMap (ze3 l)).length ≤ 2 * xs.length := fun xs h => by
      induction xs with
      | nil => simp
      | cons x xs ih =>
        rw [List.flatMap_cons, List.length_append, List.length_cons]; have h1 := h x (List.mem_cons_self ..); have h2 := ih fun c hc => h c (List.mem_cons_of_mem _ hc); omega
    have := this _ lp; omega
  refine Eq.trans (zhz (xs := p.Domains) (domI p l) 1025 600000 ld _ (by omega) fun i next s hi hs => ?_) ?_
  · have h3 := zdn (zbx hp).d (zaz hi); rw [zg4 hp hb ⟨h3.1, h3.2⟩, Option.bind_some]; unfold domI
    cases decide ((zda p l (nth p.Domains i).Station : Int) = 0)
    · rw [cond_false, cond_false, zaT (zi9 (n := 600000) (by rw [List.length_append]; simp only [List.length_cons, List.length_nil]; omega) (by omega)), zaT ⟨h3.1, h3.2⟩]
      have e2 : Vec.get b.into (nth p.Domains i).Station.toNat = p.Rules.Loads.filter fun c => decide (c.To = (nth p.Domains i).Station) := by
        rw [hb.inn _ (by omega)]; congr 1; funext c; rw [show (((nth p.Domains i).Station.toNat : Nat) : Int) = (nth p.Domains i).Station by omega]
      have h2 := List.length_filter_le (fun y : GLoad => decide (y.To = (nth p.Domains i).Station)) p.Rules.Loads; rw [e2]; refine Eq.trans (zhz (xs := p.Rules.Loads.filter fun c => decide (c.To = (nth p.Domains i).Station)) (zgw l) 1 600000 (fun y _ => zf0 y) _ (by rw [List.length_append]; simp only [List.length_cons, List.length_nil]; omega) fun j next2 s2 hj hs2 => ?_) ?_
      · have hm := (List.mem_filter.1 (zaz hj)).1; have h := zcU (hg.l _ hm); have h4 := zby h.1; have h5 := zby h.2; rw [zh1 hb (by omega) (by omega), Option.bind_some]; unfold zgw zfi
        cases ((decide ((nth (p.Rules.Loads.filter fun c => decide (c.To = (nth p.Domains i).Station)) j).Low ≤ onL l (nth (p.Rules.Loads.filter fun c => decide (c.To = (nth p.Domains i).Station)) j).To) && decide (onL l (nth (p.Rules.Loads.filter fun c => decide (c.To = (nth p.Domains i).Station)) j).To ≤ (nth (p.Rules.Loads.filter fun c => decide (c.To = (nth p.Domains i).Station)) j).High)) && decide (onL l (nth (p.Rules.Loads.filter fun c => decide (c.To = (nth p.Domains i).Station)) j).From = onL l (nth (p.Rules.Loads.filter fun c => decide (c.To = (nth p.Domains i).Station)) j).To))
        · rw [cond_false, cond_false, List.append_nil]
        · rw [cond_true, cond_true, zaT (zi9 (n := 600000) (by rw [List.length_append]; simp only [List.length_cons, List.length_nil]; omega) (by omega))]
      · rw [List.append_assoc]; rfl
    · rw [cond_true, cond_true, List.append_nil]
  have l2 : (p.Domains.flatMap (domI p l)).length ≤ 600000 := by
    have : ∀ xs : List GDomain, (∀ c ∈ xs, (domI p l c).length ≤ 1025) → (xs.flatMap (domI p l)).length ≤ 1025 * xs.length := fun xs h => by
      induction xs with
      | nil => simp
      | cons x xs ih =>
        rw [List.flatMap_cons, List.length_append, List.length_cons]; have h1 := h x (List.mem_cons_self ..); have h2 := ih fun c hc => h c (List.mem_cons_of_mem _ hc); omega
    have := this _ ld; omega
  unfold zgz; rw [zaT (by rw [List.length_append]; omega)]; rfl
def invB (p : GProblem) (l : List GChoice) (n : Int) : Bool := p.Rules.Pairs.any (fun c => ((decide (c.A = n)) || (decide (c.B = n))) && zaf c l) || p.Rules.Caps.any (fun c => zad p c l && (decide (c.Station = n) || p.Rules.Loads.any fun y => (((((decide (y.To = c.Station)) && (decide (y.From = n))) && (decide (onL l n = onL l c.Station))) && (decide (y.Low ≤ onL l c.Station))) && (decide (onL l c.Station ≤ y.High)))))
theorem zgB {α : Type} {l : List α} {q : α → Bool} : l.any q = true ↔ ∃ x ∈ l, q x = true := List.any_eq_true
theorem over_pos {n : Int} : zda p l n ≠ 0 ↔ ∃ c ∈ p.Rules.Caps, c.Station = n ∧ zad p c l = true := by
  unfold zda; rw [← Nat.pos_iff_ne_zero, List.length_pos_iff_exists_mem]; simp only [List.mem_filter, Bool.and_eq_true, decide_eq_true_eq]
theorem zgN (hp : okP p = true) : Lib.compact (isort (p.Rules.Pairs.flatMap (ze3 l) ++ p.Domains.flatMap (domI p l))) = (p.Domains.filter fun d => invB p l d.Station).map (·.Station) := by
  have hO := zbx hp; obtain ⟨h1, h2⟩ := zfp (zdN (p.Rules.Pairs.flatMap (ze3 l) ++ p.Domains.flatMap (domI p l))); refine zeF h1 ((zcI hO.i).sublist (List.filter_sublist.map _)) fun x => ?_; rw [h2, (zd6 _).mem_iff]
  have hD : ∀ n, hasD p n = true → ∃ d ∈ p.Domains, d.Station = n := fun n hn => by
    rw [zeE hO.d] at hn; obtain ⟨d, hd, rfl⟩ := List.mem_map.1 (anyD_mem.1 hn); exact ⟨d, hd, rfl⟩
  have mP : x ∈ p.Rules.Pairs.flatMap (ze3 l) ↔ ∃ c ∈ p.Rules.Pairs, zaf c l = true ∧ (c.A = x ∨ c.B = x) := by
    rw [List.mem_flatMap]; refine exists_congr fun c => and_congr_right fun _ => ?_; unfold ze3
    cases zaf c l <;> simp [eq_comm]
  have mD : x ∈ p.Domains.flatMap (domI p l) ↔ ∃ d ∈ p.Domains, zda p l d.Station ≠ 0 ∧ (d.Station = x ∨ ∃ y ∈ p.Rules.Loads, y.To = d.Station ∧ zfi l y = true ∧ y.From = x) := by
    rw [List.mem_flatMap]; refine exists_congr fun d => and_congr_right fun _ => ?_; unfold domI; by_cases h0 : (zda p l d.Station : Int) = 0
    · rw [decide_eq_true h0, cond_true]; simp only [List.not_mem_nil, false_iff]; exact fun h => h.1 (by omega)
    · rw [decide_eq_false h0, cond_false, List.mem_cons, List.mem_flatMap]; constructor
      · rintro (rfl | ⟨y, hy, hx⟩)
        · exact ⟨by omega, .inl rfl⟩
        · have hy2 := List.mem_filter.1 hy; refine ⟨by omega, .inr ⟨y, hy2.1, of_decide_eq_true hy2.2, ?_⟩⟩; unfold zgw at hx
          cases hm : zfi l y <;> rw [hm] at hx
          · simp at hx
          · exact ⟨rfl, by simpa [eq_comm] using hx⟩
      · rintro ⟨_, rfl | ⟨y, hy, hT, hm, rfl⟩⟩
        · exact .inl rfl
        · exact .inr ⟨y, List.mem_filter.2 ⟨hy, decide_eq_true hT⟩, by unfold zgw; rw [hm]; simp⟩
  rw [List.mem_append, mP, mD, List.mem_map]
  have hI : invB p l x = true ↔ (∃ c ∈ p.Rules.Pairs, zaf c l = true ∧ (c.A = x ∨ c.B = x)) ∨ ∃ c ∈ p.Rules.Caps, zad p c l = true ∧ (c.Station = x ∨ ∃ y ∈ p.Rules.Loads, y.To = c.Station ∧ zfi l y = true ∧ y.From = x) := by
    unfold invB; rw [Bool.or_eq_true, zgB, zgB]; refine or_congr (exists_congr fun c => and_congr_right fun _ => ?_) (exists_congr fun c => and_congr_right fun _ => ?_)
    · simp only [Bool.and_eq_true, Bool.or_eq_true, decide_eq_true_eq]; exact and_comm
    · rw [Bool.and_eq_true, Bool.or_eq_true, zgB, decide_eq_true_eq]; refine and_congr_right fun _ => or_congr_right (exists_congr fun y => and_congr_right fun _ => ?_); unfold zfi; simp only [Bool.and_eq_true, decide_eq_true_eq]; constructor
      · rintro ⟨⟨⟨⟨h3, h4⟩, h5⟩, h6⟩, h7⟩; subst h4; rw [h3]; exact ⟨rfl, ⟨⟨h6, h7⟩, h5⟩, rfl⟩
      · rintro ⟨h3, ⟨⟨h6, h7⟩, h5⟩, h4⟩; subst h4; rw [h3] at h5 h6 h7; exact ⟨⟨⟨⟨h3, rfl⟩, h5⟩, h6⟩, h7⟩
  constructor
  · intro h
    suffices hs : (∃ d ∈ p.Domains, d.Station = x) ∧ invB p l x = true by
      obtain ⟨⟨d, hd, rfl⟩, hv⟩ := hs; exact ⟨d, List.mem_filter.2 ⟨hd, hv⟩, rfl⟩
    rcases h with ⟨c, hc, hb, hx⟩ | ⟨d, hd, ho, hx⟩
    · have hk := List.all_eq_true.1 (zbA hO.l) c hc; refine ⟨?_, hI.2 (.inl ⟨c, hc, hb, hx⟩)⟩; rcases hx with rfl | rfl
      · exact hD _ (zbA hk)
      · exact hD _ (zbR hk)
    · obtain ⟨c, hc, hS, hb⟩ := over_pos.1 ho; refine ⟨?_, hI.2 (.inr ⟨c, hc, hb, by rw [hS]; exact hx⟩)⟩; rcases hx with rfl | ⟨y, hy, _, _, rfl⟩
      · exact ⟨d, hd, rfl⟩
      · have hk := List.all_eq_true.1 (zbA (zbR hO.l)) y hy; exact hD _ (zbR hk)
  · rintro ⟨d, hd, rfl⟩; have hd2 := List.mem_filter.1 hd; rcases hI.1 hd2.2 with ⟨c, hc, hb, hx⟩ | ⟨c, hc, hb, hx⟩
    · exact .inl ⟨c, hc, hb, hx⟩
    · have hk := List.all_eq_true.1 (zbR (zbR hO.l)) c hc; obtain ⟨d', hd', hS⟩ := hD _ hk; exact .inr ⟨d', hd', over_pos.2 ⟨c, hc, hS.symm, hb⟩, by rw [hS]; exact hx⟩
end
abbrev gS : BitVec 64 := 11400714819323198485#64
abbrev iS : BitVec 64 := 17428512612931826493#64
def zdk (s : BitVec 64) : BitVec 64 := (zeW s).2
def kB (s : BitVec 64) : BitVec 64 := -(s + gS) * iS
theorem ziZ : gS * iS = 1#64 := by decide +kernel
theorem zjb (s : BitVec 64) : kB (s + gS) = kB s - 1#64 := by
  unfold kB; rw [← ziZ]; generalize gS = g; generalize iS = i
  grind
theorem kB_lt {s : BitVec 64} (h : kB s ≠ 0#64) : (kB s).toNat = (kB (s + gS)).toNat + 1 := by
  rw [zjb, BitVec.toNat_sub]; have h1 : (kB s).toNat ≠ 0 := fun e => h (BitVec.eq_of_toNat_eq e); have h2 := (kB s).isLt; have h3 : (1#64).toNat = 1 := rfl; rw [h3]; omega
theorem kB_of {s : BitVec 64} (h : (kB s).toNat ≤ 0) : kB s = 0#64 := by
  apply BitVec.eq_of_toNat_eq; rw [BitVec.toNat_zero]; omega
theorem zik {s : BitVec 64} (h : kB s = 0#64) : zdk s = 0#64 := by
  have h1 : s + gS = 0#64 := by
    have e : kB s * gS = -(s + gS) := by
      unfold kB; rw [BitVec.mul_assoc, BitVec.mul_comm iS gS, ziZ, BitVec.mul_one]
    rw [h, BitVec.zero_mul] at e; have e2 := congrArg (fun x => -x) e; simpa using e2.symm
  unfold zdk zeW; simp only []; rw [show s + 11400714819323198485#64 = 0#64 from h1]
  decide +kernel
attribute [irreducible] kB zdk
end Go.Proofs.YtnhdlloidbomdaaGreat
