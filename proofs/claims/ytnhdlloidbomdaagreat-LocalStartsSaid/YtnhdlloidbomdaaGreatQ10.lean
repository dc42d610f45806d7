/- Yz Pu Ys Ua Of: shortened and put together by squeeze.py. -/
import Derived.Test.YtnhdlloidbomdaaGreatQ09
import Derived.Deep.Slices
import Derived.ChangeArms
set_option maxRecDepth 100000
set_option maxHeartbeats 4000000
set_option linter.unusedVariables false
set_option linter.unusedSectionVars false
set_option linter.unusedSimpArgs false
namespace Go.Proofs.YtnhdlloidbomdaaGreat
open Go.RowKit
def zaE  : GProblem :=
  (GProblem.mk [(GDomain.mk 1 [14, 15]), (GDomain.mk 2 [14, 15]), (GDomain.mk 3 [14])] (GRules.mk [(GPair.mk 1 2 0 14 51), (GPair.mk 2 3 0 14 51)] [(GLoad.mk 3 1 7 14 51)] [(GCap.mk 3 5 14 51)]))
theorem zbL (F0 : Frz) (w : World) (hF0 : F0.At w)  : Calls Tryz.prog 24 #[] w fun e w' => ∃ (y : Value × List (List Value) × Value × Value × Value) (G : Frz), (SlD GDomain.rep G y.1 2 y.2.1 ((zaE).Domains) ∧ SlC G y.2.2.1 5 (((zaE).Rules.Pairs).map GPair.enc) ∧ SlC G y.2.2.2.1 5 (((zaE).Rules.Loads).map GLoad.enc) ∧ SlC G y.2.2.2.2 4 (((zaE).Rules.Caps).map GCap.enc)) ∧ e = .returned (.agg [y.1, y.2.2.1, y.2.2.2.1, y.2.2.2.2].toArray) ∧ Fx F0 w G w' := by
  obtain ⟨r, hk⟩ : ∃ r, zaE = r := ⟨_, rfl⟩; rw [hk]; unfold zaE at hk; obtain ⟨S0, F1, rfl, hS0, hp0⟩ := zak hF0; refine zap Tryz.func24 rfl rfl rfl hp0 ?_; refine T.sr ?_; refine TL.e (Ew.alloc rfl) ?_; rintro _ _ ⟨g0, rfl, rfl⟩; refine TL.nx ?_; refine TL.e (Ew.buildSlice rfl rfl rfl (by decide)) ?_; rintro _ _ ⟨g1, rfl, rfl⟩; refine TL.av (fun w hw => hw.freezeR (i := 2) (j := 0) (by decide) rfl rfl) ?_; rintro F2 ⟨le1_2, hz2⟩; dsimp only [List.set, List.eraseIdx]; have hf2 : SlC F2.toFrz (.slice (some ⟨g1, 0, none⟩) 2 2) 1 ([14, 15].map eI) := (SlK.lit hz2 rfl (Nat.le_refl _) (by decide)).toF (xs := [14, 15]) rfl (fun _ => rfl); refine TL.y (Yv.build rfl rfl) ?_; refine TL.e (Ew.buildSlice rfl rfl rfl (by decide)) ?_; rintro _ _ ⟨g3, rfl, rfl⟩; refine TL.av (fun w hw => hw.freezeR (i := 2) (j := 0) (by decide) rfl rfl) ?_; rintro F3 ⟨le2_3, hz3⟩; dsimp only [List.set, List.eraseIdx]; have le1_3 := le1_2.trans le2_3; have hf3 : SlC F3.toFrz (.slice (some ⟨g3, 0, none⟩) 2 2) 1 ([14, 15].map eI) := (SlK.lit hz3 rfl (Nat.le_refl _) (by decide)).toF (xs := [14, 15]) rfl (fun _ => rfl); refine TL.y (Yv.build rfl rfl) ?_; refine TL.e (Ew.buildSlice rfl rfl rfl (by decide)) ?_; rintro _ _ ⟨g5, rfl, rfl⟩; refine TL.av (fun w hw => hw.freezeR (i := 2) (j := 0) (by decide) rfl rfl) ?_; rintro F4 ⟨le3_4, hz4⟩; dsimp only [List.set, List.eraseIdx]; have le1_4 := le1_3.trans le3_4; have le2_4 := le2_3.trans le3_4; have hf4 : SlC F4.toFrz (.slice (some ⟨g5, 0, none⟩) 1 1) 1 ([14].map eI) := (SlK.lit hz4 rfl (Nat.le_refl _) (by decide)).toF (xs := [14]) rfl (fun _ => rfl); refine TL.y (Yv.build rfl rfl) ?_; refine TL.e (Ew.buildSlice rfl rfl rfl (by decide)) ?_; rintro _ _ ⟨g7, rfl, rfl⟩; have hl7 : OwnD GDomain.rep F4.toFrz 2 [[.int .i64 1, (.slice (some ⟨g1, 0, none⟩) 2 2)], [.int .i64 2, (.slice (some ⟨g3, 0, none⟩) 2 2)], [.int .i64 3, (.slice (some ⟨g5, 0, none⟩) 1 1)]] [(GDomain.mk 1 [14, 15]), (GDomain.mk 2 [14, 15]), (GDomain.mk 3 [14])] := (OwnD.snoc (OwnD.snoc (OwnD.snoc (OwnD.nil _ _ 2) ⟨_, rfl, (SlC.mono hf2 le2_4)⟩ rfl) ⟨_, rfl, (SlC.mono hf3 le3_4)⟩ rfl) ⟨_, rfl, hf4⟩ rfl); refine TL.y (Yv.build rfl rfl) ?_; refine TL.y (Yv.build rfl rfl) ?_; refine TL.e (Ew.buildSlice rfl rfl rfl (by decide)) ?_; rintro _ _ ⟨g10, rfl, rfl⟩; refine TL.y (Yv.build rfl rfl) ?_; refine TL.e (Ew.buildSlice rfl rfl rfl (by decide)) ?_; rintro _ _ ⟨g12, rfl, rfl⟩; refine TL.y (Yv.build rfl rfl) ?_; refine TL.e (Ew.buildSlice rfl rfl rfl (by decide)) ?_; rintro _ _ ⟨g14, rfl, rfl⟩; refine TL.y (Yv.build rfl rfl) ?_; refine TL.y (Yv.build rfl rfl) ?_; refine TL.e0 (Ew.ak 4 rfl rfl rfl rfl rfl rfl) ?_; rintro _ _ ⟨rfl, rfl⟩; refine TL.ns (T.ret ?_); refine K.av (fun w hw => hw.freezeR (i := 5) (j := 3) (by decide) rfl rfl) ?_; rintro F5 ⟨le4_5, hz5⟩; dsimp only [List.set, List.eraseIdx]; have le1_5 := le1_4.trans le4_5; have hf5 : SlD GDomain.rep F5.toFrz (.slice (some ⟨g7, 0, none⟩) 3 3) 2 [[.int .i64 1, (.slice (some ⟨g1, 0, none⟩) 2 2)], [.int .i64 2, (.slice (some ⟨g3, 0, none⟩) 2 2)], [.int .i64 3, (.slice (some ⟨g5, 0, none⟩) 1 1)]] [(GDomain.mk 1 [14, 15]), (GDomain.mk 2 [14, 15]), (GDomain.mk 3 [14])] := (SlK.lit hz5 rfl (Nat.le_refl _) (by decide)).toD (OwnD.mono (rep := GDomain.rep) (fun _ _ _ _ => GDomain.mono) hl7 le4_5) rfl; refine K.av (fun w hw => hw.freezeR (i := 4) (j := 2) (by decide) rfl rfl) ?_; rintro F6 ⟨le5_6, hz6⟩; dsimp only [List.set, List.eraseIdx]; have le1_6 := le1_5.trans le5_6; have hf6 : SlC F6.toFrz (.slice (some ⟨g10, 0, none⟩) 2 2) 5 ([(GPair.mk 1 2 0 14 51), (GPair.mk 2 3 0 14 51)].map GPair.enc) := (SlK.lit hz6 rfl (Nat.le_refl _) (by decide)).toF (xs := [(GPair.mk 1 2 0 14 51), (GPair.mk 2 3 0 14 51)]) rfl GPair.len; refine K.av (fun w hw => hw.freezeR (i := 3) (j := 1) (by decide) rfl rfl) ?_; rintro F7 ⟨le6_7, hz7⟩; dsimp only [List.set, List.eraseIdx]; have le1_7 := le1_6.trans le6_7; have le5_7 := le5_6.trans le6_7; have hf7 : SlC F7.toFrz (.slice (some ⟨g12, 0, none⟩) 1 1) 5 ([(GLoad.mk 3 1 7 14 51)].map GLoad.enc) := (SlK.lit hz7 rfl (Nat.le_refl _) (by decide)).toF (xs := [(GLoad.mk 3 1 7 14 51)]) rfl GLoad.len; refine K.av (fun w hw => hw.freezeR (i := 2) (j := 0) (by decide) rfl rfl) ?_; rintro F8 ⟨le7_8, hz8⟩; dsimp only [List.set, List.eraseIdx]; have le1_8 := le1_7.trans le7_8; have le5_8 := le5_7.trans le7_8; have le6_8 := le6_7.trans le7_8; have hf8 : SlC F8.toFrz (.slice (some ⟨g14, 0, none⟩) 1 1) 4 ([(GCap.mk 3 5 14 51)].map GCap.enc) := (SlK.lit hz8 rfl (Nat.le_refl _) (by decide)).toF (xs := [(GCap.mk 3 5 14 51)]) rfl GCap.len; subst hk; exact K.bF 0 rfl rfl rfl rfl (fun w' hw => ⟨((.slice (some ⟨g7, 0, none⟩) 3 3), [[.int .i64 1, (.slice (some ⟨g1, 0, none⟩) 2 2)], [.int .i64 2, (.slice (some ⟨g3, 0, none⟩) 2 2)], [.int .i64 3, (.slice (some ⟨g5, 0, none⟩) 1 1)]], (.slice (some ⟨g10, 0, none⟩) 2 2), (.slice (some ⟨g12, 0, none⟩) 1 1), (.slice (some ⟨g14, 0, none⟩) 1 1)), F8.toFrz, ⟨(SlD.mono (rep := GDomain.rep) (fun _ _ _ _ => GDomain.mono) hf5 le5_8), (SlC.mono hf6 le6_8), (SlC.mono hf7 le7_8), hf8⟩, rfl, Fx.of hw (i := 1) rfl hS0 le1_8⟩)
def zaL (a : Int) (b : Int) (c : Int) : List GChoice :=
  [(GChoice.mk 1 a), (GChoice.mk 2 b), (GChoice.mk 3 c)]
theorem zb7 (F0 : Frz) (w : World) (hF0 : F0.At w) (a : Int) (b : Int) (c : Int) : Calls Tryz.prog 25 #[.int .i64 a, .int .i64 b, .int .i64 c] w fun e w' => ∃ (y : Value) (G : Frz), (SlC G y 2 ((zaL a b c).map GChoice.enc)) ∧ e = .returned (y) ∧ Fx F0 w G w' := by
  obtain ⟨r, hk⟩ : ∃ r, zaL a b c = r := ⟨_, rfl⟩; rw [hk]; unfold zaL at hk; obtain ⟨S0, F1, rfl, hS0, hp0⟩ := zak hF0; refine zap Tryz.func25 rfl rfl rfl hp0 ?_; refine T.sr ?_; refine TL.run 1 rfl ?_; refine TL.nx ?_; refine TL.run 1 rfl ?_; refine TL.y (Yv.build rfl rfl) ?_; refine TL.run 1 rfl ?_; refine TL.y (Yv.build rfl rfl) ?_; refine TL.run 1 rfl ?_; refine TL.y (Yv.build rfl rfl) ?_; refine TL.e (Ew.buildSlice rfl rfl rfl (by decide)) ?_; rintro _ _ ⟨g13, rfl, rfl⟩; refine TL.run 1 rfl ?_; refine TL.ns (T.ret ?_); refine K.av (fun w hw => hw.freezeR (i := 1) (j := 0) (by decide) rfl rfl) ?_; rintro F2 ⟨le1_2, hz2⟩; dsimp only [List.set, List.eraseIdx]; have hf2 : SlC F2.toFrz (.slice (some ⟨g13, 0, none⟩) 3 3) 2 ([(GChoice.mk 1 a), (GChoice.mk 2 b), (GChoice.mk 3 c)].map GChoice.enc) := (SlK.lit hz2 rfl (Nat.le_refl _) (by decide)).toF (xs := [(GChoice.mk 1 a), (GChoice.mk 2 b), (GChoice.mk 3 c)]) rfl GChoice.len; subst hk; exact K.ai rfl rfl (fun w' hw => ⟨(.slice (some ⟨g13, 0, none⟩) 3 3), F2.toFrz, hf2, rfl, Fx.of hw (i := 0) rfl hS0 le1_2⟩)
def zca (l : List GChoice) (want : Int) : Option Bool :=
  (zdh (zaE) l).bind fun r10 =>
  some ((decide (r10.2 = 0)) && (decide (r10.1 = want)))
theorem zcI (F0 : Frz) (w : World) (hF0 : F0.At w) (l : List GChoice) (vl : Value) (hl : SlC F0 vl 2 (l.map GChoice.enc)) (want : Int) (r : Bool) (hr : zca l want = some r) : Calls Tryz.prog 26 #[vl, .int .i64 want] w fun e w' => e = .returned (.bool r) ∧ Below w.heap.size w w' := by
  have hk := hr; unfold zca at hk; haveI := hl.oneC; obtain ⟨S0, F1, rfl, hS0, hp0⟩ := zak hF0; refine zap Tryz.func26 rfl rfl rfl hp0 ?_; refine T.sr ?_; refine TL.run 1 rfl ?_; refine TL.ns (T.seq ?_); have hq := zah hk; clear hk; obtain ⟨r10, hr10, hk⟩ := hq; (try dsimp only at hk); refine T.region ?_; refine TL.e (Ew.aA 0 rfl rfl rfl rfl (fun w hw hF => zbL _ w hF )) ?_; rintro _ _ ⟨⟨v8_0_0, cs8_0_0, v8_0_1, v8_0_2, v8_0_3⟩, F2, le1_2, ⟨hf8_0_0, hf8_0_1, hf8_0_2, hf8_0_3⟩, rfl, rfl⟩; dsimp only at hf8_0_0 hf8_0_1 hf8_0_2 hf8_0_3 ⊢; haveI := hf8_0_0.1.oneC; haveI := hf8_0_1.oneC; haveI := hf8_0_2.oneC; haveI := hf8_0_3.oneC; refine TL.run 1 rfl ?_; refine TL.e (Ew.ah rfl rfl rfl (fun w hw => zeW _ w (hw.fr (i := 0) rfl) (zaE) v8_0_0 cs8_0_0 hf8_0_0 v8_0_1 hf8_0_1 v8_0_2 hf8_0_2 v8_0_3 hf8_0_3 l vl (SlC.mono hl le1_2) r10 hr10)) ?_; rintro _ _ ⟨rfl, rfl⟩; refine TL.run 5 rfl ?_; refine TL.ns (T.seq ?_); refine T.ae (ι := Unit) (fun z => [(4, .bool ((decide (r10.2 = 0)) && (decide (r10.1 = want))))]) (fun z => [.fr F2]) (fun z => True) ?_ ?_
  · refine T.region ?_; refine TL.run 3 rfl ?_; refine TL.gs rfl rfl rfl (fun h1 => ?_) (fun h1 => ?_)
    · have p1 := of_decide_eq_true h1; refine TL.run 5 rfl ?_; refine TL.nil ?_; exact K.af () trivial (.b (zc8 h1) .nil) (List.Sublist.refl _)
    · have p1 := of_decide_eq_false h1; refine TL.run 5 rfl ?_; refine TL.nil ?_; exact K.af () trivial (.b (zaV h1).symm .nil) (List.Sublist.refl _)
  · rintro _ _; refine T.ret ?_; obtain rfl := Option.some.inj hk; exact K.ai rfl rfl (fun w' hw => ⟨rfl, hw.isBelow⟩)
def zbY (fuel : Nat)  : Option Bool :=
  (zbG (zaE) []).bind fun r9 =>
  (zcj (zaE) r9.1).bind fun r15 =>
  zaH (fun (x_1 : Bool) =>
    (bif x_1 then
      some false
      else
      (zbG (zaE) [(GChoice.mk 1 15), (GChoice.mk 2 16), (GChoice.mk 9 14)]).bind fun r47 =>
      (zcj (zaE) r47.1).bind fun r53 =>
      zaH (fun (x_8 : Bool) =>
        (bif x_8 then
          some false
          else
          grd (0 ≤ 2 ∧ 2 ≤ ((zaL 15 14 14).length : Int)) <|
          (zcJ fuel (zaE) ((zaL 15 14 14).take 2) 7 0).bind fun r83 =>
          zaH (fun (x_15 : Bool) =>
            (bif x_15 then
              some false
              else
              (zcJ fuel (zaE) [] (-1) 100).bind fun r115 =>
              some (((decide (r115.2.2.2 = 0)) && (decide (r115.2.1 = 100))) && (!r115.2.2.1))))
          (fun k16 =>
            (bif decide (¬ r83.2.2.2 = 0) then
              k16 true
              else
              (bif decide (¬ r83.2.1 = 0) then
                k16 true
                else
                (bif r83.2.2.1 then
                  k16 true
                  else
                  (bif !(zbk r83.1 (zaL 15 14 14)) then
                    k16 true
                    else
                    (zca (zaL 14 15 14) 1).bind fun r105 =>
                    (bif !r105 then
                      k16 true
                      else
                      (zca (zaL 15 15 14) 1).bind fun r110 =>
                      k16 (!r110)))))))))
      (fun k9 =>
        (bif decide (¬ r47.2 = 0) then
          k9 true
          else
          (bif decide (¬ r53.2 = 0) then
            k9 true
            else
            (bif !(zbk r47.1 (zaL 15 14 14)) then
              k9 true
              else
              (zca r47.1 1).bind fun r70 =>
              (bif !r70 then
                k9 true
                else
                k9 (!(zbt r53.1 [2, 3])))))))))
  (fun k2 =>
    (bif decide (¬ r9.2 = 0) then
      k2 true
      else
      (bif decide (¬ r15.2 = 0) then
        k2 true
        else
        (bif !(zbk r9.1 (zaL 14 14 14)) then
          k2 true
          else
          (zca r9.1 3).bind fun r32 =>
          (bif !r32 then
            k2 true
            else
            k2 (!(zbt r15.1 [1, 2, 3])))))))
theorem zcF (F0 : Frz) (w : World) (hF0 : F0.At w)  (fuel : Nat) (r : Bool) (hr : zbY fuel = some r) : Calls Tryz.prog 8 #[] w fun e w' => e = .returned (.bool r) ∧ Below w.heap.size w w' := by
  have hk := hr; unfold zbY at hk; obtain ⟨S0, F1, rfl, hS0, hp0⟩ := zak hF0; refine zap Tryz.func8 rfl rfl rfl hp0 ?_; refine T.sr ?_; refine TL.run 1 rfl ?_; refine TL.ns (T.seq ?_); have hq := zah hk; clear hk; obtain ⟨r9, hr9, hk⟩ := hq; (try dsimp only at hk); refine T.region ?_; refine TL.e (Ew.aA 0 rfl rfl rfl rfl (fun w hw hF => zbL _ w hF )) ?_; rintro _ _ ⟨⟨v8_0_0, cs8_0_0, v8_0_1, v8_0_2, v8_0_3⟩, F2, le1_2, ⟨hf8_0_0, hf8_0_1, hf8_0_2, hf8_0_3⟩, rfl, rfl⟩; dsimp only at hf8_0_0 hf8_0_1 hf8_0_2 hf8_0_3 ⊢; haveI := hf8_0_0.1.oneC; haveI := hf8_0_1.oneC; haveI := hf8_0_2.oneC; haveI := hf8_0_3.oneC; refine TL.e (Ew.ar [0] [] [] rfl rfl rfl rfl (by decide) (fun w hw hw2 hF => zcH _ w hF (zaE) v8_0_0 cs8_0_0 hf8_0_0 v8_0_1 hf8_0_1 v8_0_2 hf8_0_2 v8_0_3 hf8_0_3 [] (.slice none 0 0) (SlC.nil _ 2) r9 hr9)) ?_; rintro _ _ ⟨v9_0_0, -, rfl, rfl⟩; dsimp only [List.cons_append, List.nil_append]; refine TL.aB 0 rfl ?_; intro iv9_0_0 hmv9_0_0; refine TL.run 5 rfl ?_; refine TL.ns (T.seq ?_); refine T.av (fun w hw => hw.freezeS (i := 1) (j := 0) (by decide) rfl rfl) ?_; rintro F3 ⟨le2_3, hz3⟩; dsimp only [List.set, List.eraseIdx]; have hf3 := hz3.toF rfl GChoice.len; haveI := hf3.oneC; have hq := zah hk; clear hk; obtain ⟨r15, hr15, hk⟩ := hq; (try dsimp only at hk); refine T.region ?_; refine TL.e (Ew.aA 0 rfl rfl rfl rfl (fun w hw hF => zbL _ w hF )) ?_; rintro _ _ ⟨⟨v13_0_0, cs13_0_0, v13_0_1, v13_0_2, v13_0_3⟩, F4, le3_4, ⟨hf13_0_0, hf13_0_1, hf13_0_2, hf13_0_3⟩, rfl, rfl⟩; dsimp only at hf13_0_0 hf13_0_1 hf13_0_2 hf13_0_3 ⊢; haveI := hf13_0_0.1.oneC; haveI := hf13_0_1.oneC; haveI := hf13_0_2.oneC; haveI := hf13_0_3.oneC; refine TL.run 1 rfl ?_; refine TL.e (Ew.aA 0 rfl rfl rfl rfl (fun w hw hF => zc2 _ w hF (zaE) v13_0_0 cs13_0_0 hf13_0_0 v13_0_1 hf13_0_1 v13_0_2 hf13_0_2 v13_0_3 hf13_0_3 r9.1 v9_0_0 (SlC.mono hf3 le3_4) r15 hr15)) ?_; rintro _ _ ⟨v15_0_0, F5, le4_5, hf15_0_0, rfl, rfl⟩; have le3_5 := le3_4.trans le4_5; haveI := hf15_0_0.oneC; refine TL.run 5 rfl ?_; refine TL.ns (T.seq (T.seq ?_)); (try dsimp only at hk); have hq := zae hk; clear hk; obtain ⟨k2, hk2, hk⟩ := hq; (try dsimp only at hk); refine T.ae (ι := Bool × FzB w (fun _ => False) S0) (fun z => [(40, .bool z.1)]) (fun z => [.fr z.2]) (fun z => k2 z.1 = some r ∧ F5.toFrz.Le z.2.toFrz) ?_ ?_
  · refine T.region ?_; refine TL.run 3 rfl ?_; refine TL.gs rfl rfl rfl (fun h3 => ?_) (fun h3 => ?_)
    · have p3 := of_decide_eq_true h3; replace hk := zaa hk h3; refine TL.run 20 rfl ?_; refine TL.nil ?_; exact K.af (true, F5) ⟨hk, (Frz.Le.refl _)⟩ (.c .nil) (List.Sublist.refl _)
    · have p3 := of_decide_eq_false h3; replace hk := zab hk h3; refine TL.run 4 rfl ?_; refine TL.gs rfl rfl rfl (fun h4 => ?_) (fun h4 => ?_)
      · have p4 := of_decide_eq_true h4; replace hk := zaa hk h4; refine TL.run 16 rfl ?_; refine TL.nil ?_; exact K.af (true, F5) ⟨hk, (Frz.Le.refl _)⟩ (.c .nil) (List.Sublist.refl _)
      · have p4 := of_decide_eq_false h4; replace hk := zab hk h4; refine TL.run 1 rfl ?_; refine TL.e (Ew.aA 0 rfl rfl rfl rfl (fun w hw hF => zb7 _ w hF 14 14 14)) ?_; rintro _ _ ⟨v26_0_0, F7, le5_7, hf26_0_0, hq, rfl⟩; obtain rfl := hq.symm; have le3_7 := le3_5.trans le5_7; haveI := hf26_0_0.oneC; refine TL.e (Ew.ah rfl rfl rfl (fun w hw => zcl _ w (hw.fr (i := 0) rfl) r9.1 v9_0_0 (SlC.mono hf3 le3_7) (zaL 14 14 14) v26_0_0 hf26_0_0)) ?_; rintro _ _ ⟨rfl, rfl⟩; refine TL.run 3 rfl ?_; refine TL.gs rfl rfl rfl (fun h5 => ?_) (fun h5 => ?_)
        · replace hk := zaa hk h5; refine TL.run 10 rfl ?_; refine TL.nil ?_; exact K.af (true, F7) ⟨hk, le5_7⟩ (.c .nil) (List.Sublist.refl _)
        · replace hk := zab hk h5; refine TL.run 1 rfl ?_; have hq := zah hk; clear hk; obtain ⟨r32, hr32, hk⟩ := hq; refine TL.e (Ew.ah rfl rfl rfl (fun w hw => zcI _ w (hw.fr (i := 0) rfl) r9.1 v9_0_0 (SlC.mono hf3 le3_7) 3 r32 hr32)) ?_; rintro _ _ ⟨rfl, rfl⟩; refine TL.run 3 rfl ?_; refine TL.gs rfl rfl rfl (fun h6 => ?_) (fun h6 => ?_)
          · replace hk := zaa hk h6; refine TL.run 5 rfl ?_; refine TL.nil ?_; exact K.af (true, F7) ⟨hk, le5_7⟩ (.c .nil) (List.Sublist.refl _)
          · replace hk := zab hk h6; refine TL.run 1 rfl ?_; refine TL.e (Ew.buildSlice rfl rfl rfl (by decide)) ?_; rintro _ _ ⟨g37, rfl, rfl⟩; refine TL.av (fun w hw => hw.freezeR (i := 1) (j := 0) (by decide) rfl rfl) ?_; rintro F8 ⟨le7_8, hz8⟩; dsimp only [List.set, List.eraseIdx]; have le5_8 := le5_7.trans le7_8; have hf8 : SlC F8.toFrz (.slice (some ⟨g37, 0, none⟩) 3 3) 1 ([1, 2, 3].map eI) := (SlK.lit hz8 rfl (Nat.le_refl _) (by decide)).toF (xs := [1, 2, 3]) rfl (fun _ => rfl); refine TL.e (Ew.ah rfl rfl rfl (fun w hw => zc5 _ w (hw.fr (i := 0) rfl) r15.1 v15_0_0 (SlC.mono hf15_0_0 le5_8) [1, 2, 3] (.slice (some ⟨g37, 0, none⟩) 3 3) hf8)) ?_; rintro _ _ ⟨rfl, rfl⟩; refine TL.run 2 rfl ?_; refine TL.nil ?_; exact K.af (!(zbt r15.1 [1, 2, 3]), F8) ⟨hk, le5_8⟩ (.c .nil) (List.Sublist.refl _)
  · rintro ⟨x_1, F6⟩ ⟨hk, le5_6⟩; (try dsimp only at *); rw [← hk2] at hk; (try dsimp only at hk); refine T.cond rfl (fun h7 => ?_) (fun h7 => ?_)
    · replace hk := zaa hk h7; refine T.sr ?_; refine TL.run 1 rfl ?_; refine TL.ns (T.ret (K.ab ?_)); obtain rfl := Option.some.inj hk; exact K.ai rfl rfl (fun w' hw => ⟨rfl, hw.isBelow⟩)
    · replace hk := zab hk h7; refine T.skip (K.seq (T.seq ?_)); have hq := zah hk; clear hk; obtain ⟨r47, hr47, hk⟩ := hq; (try dsimp only at hk); refine T.region ?_; refine TL.e (Ew.aA 0 rfl rfl rfl rfl (fun w hw hF => zbL _ w hF )) ?_; rintro _ _ ⟨⟨v42_0_0, cs42_0_0, v42_0_1, v42_0_2, v42_0_3⟩, F9, le6_9, ⟨hf42_0_0, hf42_0_1, hf42_0_2, hf42_0_3⟩, rfl, rfl⟩; dsimp only at hf42_0_0 hf42_0_1 hf42_0_2 hf42_0_3 ⊢; haveI := hf42_0_0.1.oneC; haveI := hf42_0_1.oneC; haveI := hf42_0_2.oneC; haveI := hf42_0_3.oneC; refine TL.y (Yv.build rfl rfl) ?_; refine TL.y (Yv.build rfl rfl) ?_; refine TL.y (Yv.build rfl rfl) ?_; refine TL.e (Ew.buildSlice rfl rfl rfl (by decide)) ?_; rintro _ _ ⟨g46, rfl, rfl⟩; refine TL.av (fun w hw => hw.freezeR (i := 1) (j := 0) (by decide) rfl rfl) ?_; rintro F10 ⟨le9_10, hz10⟩; dsimp only [List.set, List.eraseIdx]; have hf10 : SlC F10.toFrz (.slice (some ⟨g46, 0, none⟩) 3 3) 2 ([(GChoice.mk 1 15), (GChoice.mk 2 16), (GChoice.mk 9 14)].map GChoice.enc) := (SlK.lit hz10 rfl (Nat.le_refl _) (by decide)).toF (xs := [(GChoice.mk 1 15), (GChoice.mk 2 16), (GChoice.mk 9 14)]) rfl GChoice.len; refine TL.e (Ew.ar [0] [] [] rfl rfl rfl rfl (by decide) (fun w hw hw2 hF => zcH _ w hF (zaE) v42_0_0 cs42_0_0 (SlD.mono (rep := GDomain.rep) (fun _ _ _ _ => GDomain.mono) hf42_0_0 le9_10) v42_0_1 (SlC.mono hf42_0_1 le9_10) v42_0_2 (SlC.mono hf42_0_2 le9_10) v42_0_3 (SlC.mono hf42_0_3 le9_10) [(GChoice.mk 1 15), (GChoice.mk 2 16), (GChoice.mk 9 14)] (.slice (some ⟨g46, 0, none⟩) 3 3) hf10 r47 hr47)) ?_; rintro _ _ ⟨v47_0_0, -, rfl, rfl⟩; dsimp only [List.cons_append, List.nil_append]; refine TL.aB 0 rfl ?_; intro iv47_0_0 hmv47_0_0; refine TL.run 5 rfl ?_; refine TL.ns (T.seq ?_); refine T.av (fun w hw => hw.freezeS (i := 1) (j := 0) (by decide) rfl rfl) ?_; rintro F11 ⟨le10_11, hz11⟩; dsimp only [List.set, List.eraseIdx]; have hf11 := hz11.toF rfl GChoice.len; haveI := hf11.oneC; have hq := zah hk; clear hk; obtain ⟨r53, hr53, hk⟩ := hq; (try dsimp only at hk); refine T.region ?_; refine TL.e (Ew.aA 0 rfl rfl rfl rfl (fun w hw hF => zbL _ w hF )) ?_; rintro _ _ ⟨⟨v51_0_0, cs51_0_0, v51_0_1, v51_0_2, v51_0_3⟩, F12, le11_12, ⟨hf51_0_0, hf51_0_1, hf51_0_2, hf51_0_3⟩, rfl, rfl⟩; dsimp only at hf51_0_0 hf51_0_1 hf51_0_2 hf51_0_3 ⊢; haveI := hf51_0_0.1.oneC; haveI := hf51_0_1.oneC; haveI := hf51_0_2.oneC; haveI := hf51_0_3.oneC; refine TL.run 1 rfl ?_; refine TL.e (Ew.aA 0 rfl rfl rfl rfl (fun w hw hF => zc2 _ w hF (zaE) v51_0_0 cs51_0_0 hf51_0_0 v51_0_1 hf51_0_1 v51_0_2 hf51_0_2 v51_0_3 hf51_0_3 r47.1 v47_0_0 (SlC.mono hf11 le11_12) r53 hr53)) ?_; rintro _ _ ⟨v53_0_0, F13, le12_13, hf53_0_0, rfl, rfl⟩; have le11_13 := le11_12.trans le12_13; haveI := hf53_0_0.oneC; refine TL.run 5 rfl ?_; refine TL.ns (T.seq (T.seq ?_)); (try dsimp only at hk); have hq := zae hk; clear hk; obtain ⟨k9, hk9, hk⟩ := hq; (try dsimp only at hk); refine T.ae (ι := Bool × FzB w (fun _ => False) S0) (fun z => [(78, .bool z.1)]) (fun z => [.fr z.2]) (fun z => k9 z.1 = some r ∧ F13.toFrz.Le z.2.toFrz) ?_ ?_
      · refine T.region ?_; refine TL.run 3 rfl ?_; refine TL.gs rfl rfl rfl (fun h10 => ?_) (fun h10 => ?_)
        · have p10 := of_decide_eq_true h10; replace hk := zaa hk h10; refine TL.run 20 rfl ?_; refine TL.nil ?_; exact K.af (true, F13) ⟨hk, (Frz.Le.refl _)⟩ (.c .nil) (List.Sublist.refl _)
        · have p10 := of_decide_eq_false h10; replace hk := zab hk h10; refine TL.run 4 rfl ?_; refine TL.gs rfl rfl rfl (fun h11 => ?_) (fun h11 => ?_)
          · have p11 := of_decide_eq_true h11; replace hk := zaa hk h11; refine TL.run 16 rfl ?_; refine TL.nil ?_; exact K.af (true, F13) ⟨hk, (Frz.Le.refl _)⟩ (.c .nil) (List.Sublist.refl _)
          · have p11 := of_decide_eq_false h11; replace hk := zab hk h11; refine TL.run 1 rfl ?_; refine TL.e (Ew.aA 0 rfl rfl rfl rfl (fun w hw hF => zb7 _ w hF 15 14 14)) ?_; rintro _ _ ⟨v64_0_0, F15, le13_15, hf64_0_0, hq, rfl⟩; obtain rfl := hq.symm; have le11_15 := le11_13.trans le13_15; haveI := hf64_0_0.oneC; refine TL.e (Ew.ah rfl rfl rfl (fun w hw => zcl _ w (hw.fr (i := 0) rfl) r47.1 v47_0_0 (SlC.mono hf11 le11_15) (zaL 15 14 14) v64_0_0 hf64_0_0)) ?_; rintro _ _ ⟨rfl, rfl⟩; refine TL.run 3 rfl ?_; refine TL.gs rfl rfl rfl (fun h12 => ?_) (fun h12 => ?_)
            · replace hk := zaa hk h12; refine TL.run 10 rfl ?_; refine TL.nil ?_; exact K.af (true, F15) ⟨hk, le13_15⟩ (.c .nil) (List.Sublist.refl _)
            · replace hk := zab hk h12; refine TL.run 1 rfl ?_; have hq := zah hk; clear hk; obtain ⟨r70, hr70, hk⟩ := hq; refine TL.e (Ew.ah rfl rfl rfl (fun w hw => zcI _ w (hw.fr (i := 0) rfl) r47.1 v47_0_0 (SlC.mono hf11 le11_15) 1 r70 hr70)) ?_; rintro _ _ ⟨rfl, rfl⟩; refine TL.run 3 rfl ?_; refine TL.gs rfl rfl rfl (fun h13 => ?_) (fun h13 => ?_)
              · replace hk := zaa hk h13; refine TL.run 5 rfl ?_; refine TL.nil ?_; exact K.af (true, F15) ⟨hk, le13_15⟩ (.c .nil) (List.Sublist.refl _)
              · replace hk := zab hk h13; refine TL.run 1 rfl ?_; refine TL.e (Ew.buildSlice rfl rfl rfl (by decide)) ?_; rintro _ _ ⟨g75, rfl, rfl⟩; refine TL.av (fun w hw => hw.freezeR (i := 1) (j := 0) (by decide) rfl rfl) ?_; rintro F16 ⟨le15_16, hz16⟩; dsimp only [List.set, List.eraseIdx]; have le13_16 := le13_15.trans le15_16; have hf16 : SlC F16.toFrz (.slice (some ⟨g75, 0, none⟩) 2 2) 1 ([2, 3].map eI) := (SlK.lit hz16 rfl (Nat.le_refl _) (by decide)).toF (xs := [2, 3]) rfl (fun _ => rfl); refine TL.e (Ew.ah rfl rfl rfl (fun w hw => zc5 _ w (hw.fr (i := 0) rfl) r53.1 v53_0_0 (SlC.mono hf53_0_0 le13_16) [2, 3] (.slice (some ⟨g75, 0, none⟩) 2 2) hf16)) ?_; rintro _ _ ⟨rfl, rfl⟩; refine TL.run 2 rfl ?_; refine TL.nil ?_; exact K.af (!(zbt r53.1 [2, 3]), F16) ⟨hk, le13_16⟩ (.c .nil) (List.Sublist.refl _)
      · rintro ⟨x_8, F14⟩ ⟨hk, le13_14⟩; (try dsimp only at *); rw [← hk9] at hk; (try dsimp only at hk); refine T.cond rfl (fun h14 => ?_) (fun h14 => ?_)
        · replace hk := zaa hk h14; refine T.sr ?_; refine TL.run 1 rfl ?_; refine TL.ns (T.ret (K.ab ?_)); obtain rfl := Option.some.inj hk; exact K.ai rfl rfl (fun w' hw => ⟨rfl, hw.isBelow⟩)
        · replace hk := zab hk h14; refine T.skip (K.seq (T.seq ?_)); have hq : (0 ≤ 2 ∧ 2 ≤ ((zaL 15 14 14).length : Int)) ∧ _ := zan hk; clear hk; obtain ⟨g82h, hk⟩ := hq; have hq := zah hk; clear hk; obtain ⟨r83, hr83, hk⟩ := hq; (try dsimp only at hk); refine T.region ?_; refine TL.e (Ew.aA 0 rfl rfl rfl rfl (fun w hw hF => zbL _ w hF )) ?_; rintro _ _ ⟨⟨v80_0_0, cs80_0_0, v80_0_1, v80_0_2, v80_0_3⟩, F17, le14_17, ⟨hf80_0_0, hf80_0_1, hf80_0_2, hf80_0_3⟩, rfl, rfl⟩; dsimp only at hf80_0_0 hf80_0_1 hf80_0_2 hf80_0_3 ⊢; haveI := hf80_0_0.1.oneC; haveI := hf80_0_1.oneC; haveI := hf80_0_2.oneC; haveI := hf80_0_3.oneC; refine TL.e (Ew.aA 0 rfl rfl rfl rfl (fun w hw hF => zb7 _ w hF 15 14 14)) ?_; rintro _ _ ⟨v81_0_0, F18, le17_18, hf81_0_0, hq, rfl⟩; obtain rfl := hq.symm; haveI := hf81_0_0.oneC; refine TL.y (Yv.bY (i := 2) rfl rfl rfl hf81_0_0 (List.length_map _) (show (2 : Int) = ((2 : Nat) : Int) from rfl) (by omega)) ?_; have hs82_ : SlC F18.toFrz (zd4 v81_0_0 0 2 2) 2 (((zaL 15 14 14).take 2).map GChoice.enc) := hf81_0_0.sliceh (i := 2) (by omega); haveI := hs82_.oneC; refine TL.e (Ew.aA 0 rfl rfl rfl rfl (fun w hw hF => zdT _ w hF (zaE) v80_0_0 cs80_0_0 (SlD.mono (rep := GDomain.rep) (fun _ _ _ _ => GDomain.mono) hf80_0_0 le17_18) v80_0_1 (SlC.mono hf80_0_1 le17_18) v80_0_2 (SlC.mono hf80_0_2 le17_18) v80_0_3 (SlC.mono hf80_0_3 le17_18) ((zaL 15 14 14).take 2) (zd4 v81_0_0 0 2 2) hs82_ 7 0 fuel r83 hr83)) ?_; rintro _ _ ⟨v83_0_0, F19, le18_19, hf83_0_0, rfl, rfl⟩; haveI := hf83_0_0.oneC; refine TL.run 9 rfl ?_; refine TL.ns (T.seq (T.seq ?_)); (try dsimp only at hk); have hq := zae hk; clear hk; obtain ⟨k16, hk16, hk⟩ := hq; (try dsimp only at hk); refine T.ae (ι := Bool × FzB w (fun _ => False) S0) (fun z => [(112, .bool z.1)]) (fun z => [.fr z.2]) (fun z => k16 z.1 = some r ∧ F19.toFrz.Le z.2.toFrz) ?_ ?_
          · refine T.region ?_; refine TL.run 3 rfl ?_; refine TL.gs rfl rfl rfl (fun h17 => ?_) (fun h17 => ?_)
            · have p17 := of_decide_eq_true h17; replace hk := zaa hk h17; refine TL.run 22 rfl ?_; refine TL.nil ?_; exact K.af (true, F19) ⟨hk, (Frz.Le.refl _)⟩ (.c .nil) (List.Sublist.refl _)
            · have p17 := of_decide_eq_false h17; replace hk := zab hk h17; refine TL.run 4 rfl ?_; refine TL.gs rfl rfl rfl (fun h18 => ?_) (fun h18 => ?_)
              · have p18 := of_decide_eq_true h18; replace hk := zaa hk h18; refine TL.run 18 rfl ?_; refine TL.nil ?_; exact K.af (true, F19) ⟨hk, (Frz.Le.refl _)⟩ (.c .nil) (List.Sublist.refl _)
              · have p18 := of_decide_eq_false h18; replace hk := zab hk h18; refine TL.run 3 rfl ?_; refine TL.gs rfl rfl rfl (fun h19 => ?_) (fun h19 => ?_)
                · replace hk := zaa hk h19; refine TL.run 15 rfl ?_; refine TL.nil ?_; exact K.af (true, F19) ⟨hk, (Frz.Le.refl _)⟩ (.c .nil) (List.Sublist.refl _)
                · replace hk := zab hk h19; refine TL.run 1 rfl ?_; refine TL.e (Ew.aA 0 rfl rfl rfl rfl (fun w hw hF => zb7 _ w hF 15 14 14)) ?_; rintro _ _ ⟨v99_0_0, F21, le19_21, hf99_0_0, hq, rfl⟩; obtain rfl := hq.symm; haveI := hf99_0_0.oneC; refine TL.e (Ew.ah rfl rfl rfl (fun w hw => zcl _ w (hw.fr (i := 0) rfl) r83.1 v83_0_0 (SlC.mono hf83_0_0 le19_21) (zaL 15 14 14) v99_0_0 hf99_0_0)) ?_; rintro _ _ ⟨rfl, rfl⟩; refine TL.run 3 rfl ?_; refine TL.gs rfl rfl rfl (fun h20 => ?_) (fun h20 => ?_)
                  · replace hk := zaa hk h20; refine TL.run 9 rfl ?_; refine TL.nil ?_; exact K.af (true, F21) ⟨hk, le19_21⟩ (.c .nil) (List.Sublist.refl _)
                  · replace hk := zab hk h20; refine TL.e (Ew.aA 0 rfl rfl rfl rfl (fun w hw hF => zb7 _ w hF 14 15 14)) ?_; rintro _ _ ⟨v104_0_0, F22, le21_22, hf104_0_0, hq, rfl⟩; obtain rfl := hq.symm; have le19_22 := le19_21.trans le21_22; haveI := hf104_0_0.oneC; have hq := zah hk; clear hk; obtain ⟨r105, hr105, hk⟩ := hq; refine TL.e (Ew.ah rfl rfl rfl (fun w hw => zcI _ w (hw.fr (i := 0) rfl) (zaL 14 15 14) v104_0_0 hf104_0_0 1 r105 hr105)) ?_; rintro _ _ ⟨rfl, rfl⟩; refine TL.run 3 rfl ?_; refine TL.gs rfl rfl rfl (fun h21 => ?_) (fun h21 => ?_)
                    · replace hk := zaa hk h21; refine TL.run 4 rfl ?_; refine TL.nil ?_; exact K.af (true, F22) ⟨hk, le19_22⟩ (.c .nil) (List.Sublist.refl _)
                    · replace hk := zab hk h21; refine TL.e (Ew.aA 0 rfl rfl rfl rfl (fun w hw hF => zb7 _ w hF 15 15 14)) ?_; rintro _ _ ⟨v109_0_0, F23, le22_23, hf109_0_0, hq, rfl⟩; obtain rfl := hq.symm; have le19_23 := le19_22.trans le22_23; haveI := hf109_0_0.oneC; have hq := zah hk; clear hk; obtain ⟨r110, hr110, hk⟩ := hq; refine TL.e (Ew.ah rfl rfl rfl (fun w hw => zcI _ w (hw.fr (i := 0) rfl) (zaL 15 15 14) v109_0_0 hf109_0_0 1 r110 hr110)) ?_; rintro _ _ ⟨rfl, rfl⟩; refine TL.run 2 rfl ?_; refine TL.nil ?_; exact K.af (!r110, F23) ⟨hk, le19_23⟩ (.c .nil) (List.Sublist.refl _)
          · rintro ⟨x_15, F20⟩ ⟨hk, le19_20⟩; (try dsimp only at *); rw [← hk16] at hk; (try dsimp only at hk); refine T.cond rfl (fun h22 => ?_) (fun h22 => ?_)
            · replace hk := zaa hk h22; refine T.sr ?_; refine TL.run 1 rfl ?_; refine TL.ns (T.ret (K.ab ?_)); obtain rfl := Option.some.inj hk; exact K.ai rfl rfl (fun w' hw => ⟨rfl, hw.isBelow⟩)
            · replace hk := zab hk h22; refine T.skip (K.seq (T.seq ?_)); have hq := zah hk; clear hk; obtain ⟨r115, hr115, hk⟩ := hq; (try dsimp only at hk); refine T.region ?_; refine TL.e (Ew.aA 0 rfl rfl rfl rfl (fun w hw hF => zbL _ w hF )) ?_; rintro _ _ ⟨⟨v114_0_0, cs114_0_0, v114_0_1, v114_0_2, v114_0_3⟩, F24, le20_24, ⟨hf114_0_0, hf114_0_1, hf114_0_2, hf114_0_3⟩, rfl, rfl⟩; dsimp only at hf114_0_0 hf114_0_1 hf114_0_2 hf114_0_3 ⊢; haveI := hf114_0_0.1.oneC; haveI := hf114_0_1.oneC; haveI := hf114_0_2.oneC; haveI := hf114_0_3.oneC; refine TL.e (Ew.aA 0 rfl rfl rfl rfl (fun w hw hF => zdT _ w hF (zaE) v114_0_0 cs114_0_0 hf114_0_0 v114_0_1 hf114_0_1 v114_0_2 hf114_0_2 v114_0_3 hf114_0_3 [] (.slice none 0 0) (SlC.nil _ 2) (-1) 100 fuel r115 hr115)) ?_; rintro _ _ ⟨v115_0_0, F25, le24_25, hf115_0_0, rfl, rfl⟩; haveI := hf115_0_0.oneC; refine TL.run 8 rfl ?_; refine TL.ns (T.seq ?_); refine T.ae (ι := Unit) (fun z => [(0, .bool (((decide (r115.2.2.2 = 0)) && (decide (r115.2.1 = 100))) && (!r115.2.2.1)))]) (fun z => [.fr F25]) (fun z => True) ?_ ?_
              · refine T.region ?_; refine TL.run 3 rfl ?_; refine TL.gs rfl rfl rfl (fun h23 => ?_) (fun h23 => ?_)
                · have p23 := of_decide_eq_true h23; refine TL.run 4 rfl ?_; refine TL.gs rfl rfl rfl (fun h24 => ?_) (fun h24 => ?_)
                  · have p24 := of_decide_eq_true h24; refine TL.run 4 rfl ?_; refine TL.nil ?_; exact K.af () trivial (.b (zc8 (zbp h23 h24)) .nil) (List.Sublist.refl _)
                  · have p24 := of_decide_eq_false h24; refine TL.run 4 rfl ?_; refine TL.nil ?_; exact K.af () trivial (.b (zaV (zbp h23 h24)).symm .nil) (List.Sublist.refl _)
                · have p23 := of_decide_eq_false h23; refine TL.run 8 rfl ?_; refine TL.nil ?_; exact K.af () trivial (.b (zaV (zaV h23)).symm .nil) (List.Sublist.refl _)
              · rintro _ _; refine T.ret ?_; obtain rfl := Option.some.inj hk; exact K.ai rfl rfl (fun w' hw => ⟨rfl, hw.isBelow⟩)
def zcG (fuel : Nat) (p : GProblem) : Option Bool :=
  (zcr fuel p 10 40).bind fun r4 =>
  some r4
theorem zeJ (F0 : Frz) (w : World) (hF0 : F0.At w) (p : GProblem) (vp_0 : Value) (cp_0 : List (List Value)) (hp_0 : SlD GDomain.rep F0 vp_0 2 cp_0 p.Domains) (vp_1 : Value) (hp_1 : SlC F0 vp_1 5 (p.Rules.Pairs.map GPair.enc)) (vp_2 : Value) (hp_2 : SlC F0 vp_2 5 (p.Rules.Loads.map GLoad.enc)) (vp_3 : Value) (hp_3 : SlC F0 vp_3 4 (p.Rules.Caps.map GCap.enc)) (fuel : Nat) (r : Bool) (hr : zcG fuel p = some r) : Calls Tryz.prog 7 #[.agg [vp_0, vp_1, vp_2, vp_3].toArray] w fun e w' => e = .returned (.bool r) ∧ Below w.heap.size w w' := by
  have hk := hr; unfold zcG at hk; haveI := hp_0.1.oneC; haveI := hp_1.oneC; haveI := hp_2.oneC; haveI := hp_3.oneC; obtain ⟨S0, F1, rfl, hS0, hp0⟩ := zak hF0; refine zap Tryz.func7 rfl rfl rfl hp0 ?_; refine T.sr ?_; refine TL.e (Ew.az rfl rfl) ?_; rintro _ _ ⟨g1, rfl, rfl⟩; refine TL.run 1 rfl ?_; refine TL.ns (T.seq ?_); have hq := zah hk; clear hk; obtain ⟨r4, hr4, hk⟩ := hq; (try dsimp only at hk); refine T.region ?_; refine TL.y (Yv.al 0 rfl rfl rfl rfl) ?_; refine TL.e (Ew.ah rfl rfl rfl (fun w hw => zeP _ w (hw.fr (i := 1) rfl) p vp_0 cp_0 hp_0 vp_1 hp_1 vp_2 hp_2 vp_3 hp_3 10 40 fuel r4 hr4)) ?_; rintro _ _ ⟨rfl, rfl⟩; refine TL.run 1 rfl ?_; refine TL.ns (T.ret ?_); obtain rfl := Option.some.inj hk; exact K.ai rfl rfl (fun w' hw => ⟨rfl, hw.isBelow⟩)
theorem zgk (b : Bool) : (bif b then true else false) = b := by cases b <;> rfl
theorem zgS {p : GProblem} {a b : Int} {fuel : Nat} (hf : 1000 ≤ fuel) : ∃ r, zcr fuel p a b = some r := by
  unfold zcr; simp only [zaH]; refine zfM (σ := Int) (I := fun i => 0 ≤ i ∧ i ≤ 600) (μ := fun i => (600 - i).toNat) (post := fun o => ∃ r, o = some r) ⟨by omega, by omega⟩ (by omega) ?_; intro i next hi hn; by_cases h1 : i < (p.Domains.length : Int) <;> by_cases h2 : i < 600
  · rw [decide_eq_true h1, decide_eq_true h2, Bool.and_true, cond_true, zbP ⟨hi.1, h1⟩]
    cases decide (60 < ((nth p.Domains i.toNat).Channels.length : Int))
    · exact hn _ ⟨by omega, by omega⟩ (by omega)
    · exact ⟨_, rfl⟩
  · rw [decide_eq_false h2, Bool.and_false, cond_false]; exact ⟨_, rfl⟩
  · rw [decide_eq_false h1, Bool.false_and, cond_false]; exact ⟨_, rfl⟩
  · rw [decide_eq_false h1, Bool.false_and, cond_false]; exact ⟨_, rfl⟩
theorem allEq {α : Type} [Inhabited α] [DecidableEq α] {a b : List α} (hl : a.length = b.length) : ((List.range a.length).all fun i => decide (nth a i = nth b i)) = decide (a = b) := by
  rw [Bool.eq_iff_iff, List.all_eq_true, decide_eq_true_eq]; constructor
  · intro h; refine List.ext_getElem hl fun i h1 h2 => ?_; have := of_decide_eq_true (h i (List.mem_range.2 h1))
    rwa [zaU h1, zaU h2] at this
  · rintro rfl i _; simp
theorem zhg {α : Type} [Inhabited α] [DecidableEq α] {a b : List α} {r : α → α → Bool} {k : Unit → Bool} (hr : ∀ x y, r x y = !decide (x = y)) (hl : a.length = b.length) : zai (fun (i : Nat) (next : Unit → Bool) (_ : Unit) => bif r (nth a i) (nth b i) then false else next ()) k (a.length - 0) 0 () = (decide (a = b) && k ()) := by
  rw [Nat.sub_zero, zeX (fun i => decide (nth a i = nth b i)) (fun i next hi => by rw [hr]; cases decide (nth a i = nth b i) <;> rfl), allEq hl]
theorem eqL_x {α : Type} [Inhabited α] [DecidableEq α] {a b : List α} {r : α → α → Bool} (hr : ∀ x y, r x y = !decide (x = y)) : (bif decide (¬ (a.length : Int) = (b.length : Int)) then false else zai (fun (i : Nat) (next : Unit → Bool) (_ : Unit) => bif r (nth a i) (nth b i) then false else next ()) (fun _ => true) (a.length - 0) 0 ()) = decide (a = b) := by
  by_cases hl : a.length = b.length
  · rw [decide_eq_false (by omega), cond_false, zhg hr hl, Bool.and_true]
  · rw [decide_eq_true (by omega), cond_true, decide_eq_false (fun e => hl (by rw [e]))]
theorem zfn (l : List GChoice) : zaC l = zbB l := by
  have e1 : zaC l = (List.range' 0 (l.length - 0)).all fun i => (zaf (nth l i).Station && zam (nth l i).Channel 2 51) && !(decide (0 < (i : Int)) && decide ((nth l i).Station ≤ (nth l (((i : Int) - 1).toNat)).Station)) := by
    refine (zbC (k := fun _ => true) (z := false) (fun i => (zaf (nth l i).Station && zam (nth l i).Channel 2 51) && !(decide (0 < (i : Int)) && decide ((nth l i).Station ≤ (nth l (((i : Int) - 1).toNat)).Station))) (fun i next h1 h2 => ?_)).trans ?_
    · cases zaf (nth l i).Station <;> cases zam (nth l i).Channel 2 51 <;> cases (decide (0 < (i : Int)) && decide ((nth l i).Station ≤ (nth l (((i : Int) - 1).toNat)).Station)) <;> rfl
    · exact zgk _
  rw [e1]; symm; refine (zbC (k := fun _ => true) (z := false) (fun i => (zaf (nth l i).Station && zam (nth l i).Channel 2 51) && !(decide (0 < (i : Int)) && decide ((nth l i).Station ≤ (nth l (((i : Int) - 1).toNat)).Station))) (fun i next h1 h2 => ?_)).trans ?_
  · rw [zcP (nth l i).Channel 2, zcP 51]; unfold zam
    show (bif (((!zaf (nth l i).Station || _) || _) || _) then _ else _) = _
    cases zaf (nth l i).Station <;> cases decide (2 ≤ (nth l i).Channel) <;> cases decide ((nth l i).Channel ≤ 51) <;> cases (decide (0 < (i : Int)) && decide ((nth l i).Station ≤ (nth l (((i : Int) - 1).toNat)).Station)) <;> rfl
  · exact zgk _
def onL : List GChoice → Int → Int
  | [], _ => 0
  | x :: r, n => bif decide (x.Station = n) then x.Channel else onL r n
theorem on_x (l : List GChoice) (n : Int) : zco l n = onL l n := by
  have key : ∀ m i, i + m = l.length → zai (fun (i : Nat) (next : Unit → Int) (_ : Unit) => bif decide ((nth l i).Station = n) then (nth l i).Channel else next ()) (fun _ => (0 : Int)) m i () = onL (l.drop i) n := by
    intro m
    induction m with
    | zero => intro i e; rw [List.drop_eq_nil_of_le (show l.length ≤ i by omega)]; rfl
    | succ m ih =>
      intro i e; have h2 := ih (i + 1) (by omega); rw [List.drop_eq_getElem_cons (show i < l.length by omega), ← zaU (show i < l.length by omega)]
      show (bif decide ((nth l i).Station = n) then (nth l i).Channel else _) = bif decide ((nth l i).Station = n) then (nth l i).Channel else _
      rw [← h2]
  have := key l.length 0 (by omega); rw [List.drop_zero] at this; exact this
theorem zgQ {x : GChoice} {n : Int} (h : x.Station ≠ n) : ∀ a, onL (a ++ [x]) n = onL a n
  | [] => by show (bif decide (x.Station = n) then x.Channel else 0) = 0; rw [decide_eq_false h]; rfl
  | y :: a => by
    show (bif decide (y.Station = n) then y.Channel else onL (a ++ [x]) n) = bif decide (y.Station = n) then y.Channel else onL a n
    rw [zgQ h a]
theorem zgR {x : GChoice} {n : Int} (h : x.Station = n) : ∀ a : List GChoice, (∀ y ∈ a, y.Station ≠ n) → onL (a ++ [x]) n = x.Channel
  | [], _ => by show (bif decide (x.Station = n) then x.Channel else 0) = _; rw [decide_eq_true h]; rfl
  | y :: a, ha => by
    show (bif decide (y.Station = n) then y.Channel else onL (a ++ [x]) n) = _
    rw [decide_eq_false (ha y (List.mem_cons_self ..)), cond_false]; exact zgR h a fun z hz => ha z (List.mem_cons_of_mem _ hz)
structure VL (l : List GChoice) : Prop where
  st : ∀ i, i < l.length → 0 ≤ (nth l i).Station ∧ (nth l i).Station ≤ 511
  ch : ∀ i, i < l.length → 2 ≤ (nth l i).Channel ∧ (nth l i).Channel ≤ 51
  lt : ∀ i j, i < j → j < l.length → (nth l i).Station < (nth l j).Station
theorem zf4 (l : List GChoice) : zaC l = (List.range' 0 (l.length - 0)).all fun i => (zaf (nth l i).Station && zam (nth l i).Channel 2 51) && !(decide (0 < (i : Int)) && decide ((nth l i).Station ≤ (nth l (((i : Int) - 1).toNat)).Station)) := by
  refine (zbC (k := fun _ => true) (z := false) (fun i => (zaf (nth l i).Station && zam (nth l i).Channel 2 51) && !(decide (0 < (i : Int)) && decide ((nth l i).Station ≤ (nth l (((i : Int) - 1).toNat)).Station))) (fun i next h1 h2 => ?_)).trans (zgk _)
  cases zaf (nth l i).Station <;> cases zam (nth l i).Channel 2 51 <;> cases (decide (0 < (i : Int)) && decide ((nth l i).Station ≤ (nth l (((i : Int) - 1).toNat)).Station)) <;> rfl
theorem vl_of {l : List GChoice} (h : zaC l = true) : VL l := by
  rw [zf4, List.all_eq_true] at h; have g : ∀ i, i < l.length → _ := fun i hi => h i (List.mem_range'_1.2 ⟨by omega, by omega⟩)
  have hlt : ∀ j, 0 < j → j < l.length → (nth l (j - 1)).Station < (nth l j).Station := fun j h0 hj => by
    have h1 := zdu (g j hj); rw [decide_eq_true (show 0 < (j : Int) by omega), Bool.true_and, Bool.not_eq_true', decide_eq_false_iff_not, show ((j : Int) - 1).toNat = j - 1 by omega] at h1; omega
  refine ⟨fun i hi => zd1 (zcm (zcm (g i hi))), fun i hi => ?_, fun i j hij hj => ?_⟩
  · have := zdu (zcm (g i hi)); unfold zam at this; rw [Bool.and_eq_true, decide_eq_true_eq, decide_eq_true_eq] at this; exact this
  · induction j with
    | zero => omega
    | succ j ih =>
      have h1 := hlt (j + 1) (by omega) hj; rw [show j + 1 - 1 = j from rfl] at h1; rcases Nat.lt_or_ge i j with h2 | h2
      · have := ih h2 (by omega); omega
      · rw [show i = j by omega]; exact h1
theorem ze5 {α : Type} [Inhabited α] {l : List α} {i : Nat} (hi : i < l.length) : l.take (i + 1) = l.take i ++ [nth l i] := by
  rw [List.take_add_one, List.getElem?_eq_getElem hi, zaU hi]; rfl
theorem zfQ {α : Type} [Inhabited α] {l : List α} {i : Nat} {y : α} (h : y ∈ l.take i) : ∃ j, j < i ∧ j < l.length ∧ nth l j = y := by
  obtain ⟨j, hj, rfl⟩ := List.mem_iff_getElem.1 h; (have h1 : j < i ∧ j < l.length := by rw [List.length_take] at hj; omega); exact ⟨j, h1.1, h1.2, by rw [zaU h1.2, List.getElem_take]⟩
theorem zgD {l : List GChoice} (h : VL l) {i : Nat} (hi : i < l.length) (n : Int) : onL (l.take (i + 1)) n = if n = (nth l i).Station then (nth l i).Channel else onL (l.take i) n := by
  rw [ze5 hi]; by_cases e : n = (nth l i).Station
  · rw [if_pos e]; refine zgR e.symm _ fun y hy => ?_; obtain ⟨j, h1, h2, rfl⟩ := zfQ hy; have := h.lt j i h1 hi; omega
  · rw [if_neg e]; exact zgQ (fun h => e h.symm) _
def TabC (l : List GChoice) (c : Vec 512 Int) : Prop := ∀ n, n < 512 → Vec.get c n = onL l (n : Int)
theorem TabC.get {l : List GChoice} {c : Vec 512 Int} (h : TabC l c) {i : Int} (hi : 0 ≤ i ∧ i < 512) : Vec.get c i.toNat = onL l i := by
  rw [h _ (by omega), show ((i.toNat : Nat) : Int) = i by omega]
theorem zgT (l : List Int) (v : Int) : decide (0 ≤ za7 l v) = l.any fun x => decide (x = v) := by
  have key : ∀ m i, i + m = l.length → decide (0 ≤ zai (fun (i : Nat) (next : Unit → Int) (_ : Unit) => bif decide (v = nth l i) then (i : Int) else next ()) (fun _ => (-1)) m i ()) = (l.drop i).any fun x => decide (x = v) := by
    intro m
    induction m with
    | zero => intro i e; rw [List.drop_eq_nil_of_le (show l.length ≤ i by omega)]; rfl
    | succ m ih =>
      intro i e; have h2 := ih (i + 1) (by omega); rw [List.drop_eq_getElem_cons (show i < l.length by omega), List.any_cons, ← zaU (show i < l.length by omega)]
      show decide (0 ≤ (bif decide (v = nth l i) then (i : Int) else _)) = _
      by_cases e2 : v = nth l i
      · rw [decide_eq_true e2, decide_eq_true e2.symm, cond_true, decide_eq_true (by omega)]; rfl
      · have e3 : ¬ nth l i = v := fun h => e2 h.symm; rw [decide_eq_false e3, Bool.false_or, ← h2]
        show decide (0 ≤ (bif decide (v = nth l i) then (i : Int) else _)) = _
        rw [decide_eq_false e2]; rfl
  have := key l.length 0 (by omega); rw [List.drop_zero] at this; exact this
theorem zgK (l : List Int) (v : Int) : zbK l v = l.any fun x => decide (x = v) := by
  have h := zgo (f := fun (i : Nat) (next : Unit → Bool) (_ : Unit) => bif decide (nth l i = v) then true else next ()) (k := fun _ => false) (n := l.length - 0) (fun i => decide (nth l i = v)) (fun i next hi => by cases decide (nth l i = v) <;> rfl); rw [Nat.sub_zero, zeV (q := fun x => decide (x = v)), Bool.or_false] at h; exact h
theorem zfO (l : List Int) (v : Int) : zau l v = zbK l v := by
  unfold zau; rw [zgT, zgK]
theorem zfC (a b : List GChoice) : zbk a b = decide (a = b) := eqL_x (r := fun x y : GChoice => !(decide (x.Station = y.Station) && decide (x.Channel = y.Channel))) fun x y => by
  have : (decide (x.Station = y.Station) && decide (x.Channel = y.Channel)) = decide (x = y) := by
    rw [Bool.eq_iff_iff]; cases x; cases y; simp
  rw [this]
theorem zf5 {α : Type} [Inhabited α] {lt : α → α → Bool} (ht : ∀ a b c, lt a b = true → lt b c = true → lt a c = true) {l : List α} : adjB lt l = true ↔ l.Pairwise (fun a b => lt a b = true) := by
  constructor
  · intro h; have h1 : ∀ i, i + 1 < l.length → lt (nth l i) (nth l (i + 1)) = true := fun i hi => List.all_eq_true.1 h (i + 1) (List.mem_range'_1.2 ⟨by omega, by omega⟩)
    have h2 : ∀ d i, i + d + 1 < l.length → lt (nth l i) (nth l (i + d + 1)) = true := by
      intro d
      induction d with
      | zero => intro i hi; exact h1 i hi
      | succ d ih => intro i hi; exact ht _ _ _ (ih i (by omega)) (h1 (i + d + 1) (by omega))
    refine List.pairwise_iff_getElem.2 fun i j hi hj hij => ?_; rw [← zaU hi, ← zaU hj]; have := h2 (j - i - 1) i (by omega)
    rwa [show i + (j - i - 1) + 1 = j by omega] at this
  · intro h; refine List.all_eq_true.2 fun i hi => ?_; have hi := List.mem_range'_1.1 hi; rw [zaU (show i - 1 < l.length by omega), zaU (show i < l.length by omega)]; exact List.pairwise_iff_getElem.1 h (i - 1) i _ _ (by omega)
theorem zfZ {a b : Int} {x y : List Int} : lexL (a :: x) (b :: y) = true ↔ a < b ∨ (a = b ∧ lexL x y = true) := by
  show (bif decide (a = b) then lexL x y else decide (a < b)) = true ↔ _
  by_cases h : a = b
  · rw [decide_eq_true h, cond_true]; exact ⟨fun h1 => .inr ⟨h, h1⟩, fun h1 => h1.elim (fun h2 => absurd h2 (by omega)) (·.2)⟩
  · rw [decide_eq_false h, cond_false, decide_eq_true_eq]; exact ⟨.inl, fun h1 => h1.elim id (fun h2 => absurd h2.1 h)⟩
theorem zeK : ∀ a b c : List Int, lexL a b = true → lexL b c = true → lexL a c = true
  | [], _, _, h, _ => by cases h
  | _ :: _, [], _, h, _ => by cases h
  | _ :: _, _ :: _, [], _, h => by cases h
  | a :: x, b :: y, c :: z, h1, h2 => by
    rw [zfZ] at h1 h2 ⊢; rcases h1 with h1 | ⟨h1, h3⟩ <;> rcases h2 with h2 | ⟨h2, h4⟩
    · left; omega
    · left; omega
    · left; omega
    · exact .inr ⟨by omega, zeK x y z h3 h4⟩
theorem zeL {α : Type} [Inhabited α] {lt : α → α → Bool} (ht : ∀ a b c, lt a b = true → lt b c = true → lt a c = true) {l l' : List α} (hs : l'.Sublist l) (h : adjB lt l = true) : adjB lt l' = true := (zf5 ht).2 (((zf5 ht).1 h).sublist hs)
theorem zfa {a b : Bool} (ha : a = true) (hb : b = true) : (a && b) = true := by rw [ha, hb]; rfl
structure RulesP (r : GRules) : Prop where
  g : RulesGood r
  ip : adjB (fun a b => lexL (zcD a) (zcD b)) r.Pairs = true
  il : adjB (fun a b => lexL (zcA a) (zcA b)) r.Loads = true
  ic : adjB (fun a b => lexL (capL a) (capL b)) r.Caps = true
theorem RulesP.b {r : GRules} (h : RulesP r) : zc4 r = true := by
  have a := h.g.np; have b := h.g.nl; have c := h.g.nc; exact zfa (decide_eq_true (by omega)) (zfa (List.all_eq_true.2 h.g.p) (zfa h.ip (zfa (decide_eq_true (by omega)) (zfa (List.all_eq_true.2 h.g.l) (zfa h.il (zfa (decide_eq_true (by omega)) (zfa (List.all_eq_true.2 h.g.c) h.ic)))))))
theorem zg3 (a b c : GPair) : lexL (zcD a) (zcD b) = true → lexL (zcD b) (zcD c) = true → lexL (zcD a) (zcD c) = true := zeK _ _ _
theorem zgW (a b c : GLoad) : lexL (zcA a) (zcA b) = true → lexL (zcA b) (zcA c) = true → lexL (zcA a) (zcA c) = true := zeK _ _ _
theorem zhd (a b c : GCap) : lexL (capL a) (capL b) = true → lexL (capL b) (capL c) = true → lexL (capL a) (capL c) = true := zeK _ _ _
theorem RulesP.sub {r r' : GRules} (h : RulesP r) (hp : r'.Pairs.Sublist r.Pairs) (hl : r'.Loads.Sublist r.Loads) (hc : r'.Caps.Sublist r.Caps) : RulesP r' := by
  refine ⟨⟨?_, ?_, ?_, fun x hx => h.g.p x (hp.subset hx), fun x hx => h.g.l x (hl.subset hx), fun x hx => h.g.c x (hc.subset hx)⟩, zeL zg3 hp h.ip, zeL zgW hl h.il, zeL zhd hc h.ic⟩
  · have := hp.length_le; have := h.g.np; omega
  · have := hl.length_le; have := h.g.nl; omega
  · have := hc.length_le; have := h.g.nc; omega
def zb0 (fuel : Nat) (p : GProblem) (hints : List GChoice) : Option Bool :=
  (zcG fuel p).bind fun r10 =>
  (bif ((!r10) || (decide (20 < (hints.length : Int)))) then
    (zbY fuel).bind fun r17 =>
    some r17
    else
    (zbG p hints).bind fun r21 =>
    (zcs p).bind fun r25 =>
    (bif ((!r25) || (!(zbB hints))) then
      zaH (fun (x_5 : Bool) =>
        some x_5)
      (fun k6 =>
        (bif decide ((r21.1.length : Int) = 0) then
          (bif decide (r21.2 = 2) then
            (zbY fuel).bind fun r40 =>
            k6 r40
            else
            k6 false)
          else
          k6 false))
      else
      (zcq p hints).bind fun r45 =>
      (bif !r45.2 then
        zaH (fun (x_10 : Bool) =>
          some x_10)
        (fun k11 =>
          (bif decide ((r21.1.length : Int) = 0) then
            (bif decide (r21.2 = 9) then
              (zbY fuel).bind fun r58 =>
              k11 r58
              else
              k11 false)
            else
            k11 false))
        else
        zaH (fun (x_14 : Bool) =>
          some x_14)
        (fun k15 =>
          (bif decide (r21.2 = 0) then
            (bif (zbk r21.1 r45.1) then
              (zbY fuel).bind fun r68 =>
              k15 r68
              else
              k15 false)
            else
            k15 false)))))
theorem zdC (F0 : Frz) (w : World) (hF0 : F0.At w) (p : GProblem) (vp_0 : Value) (cp_0 : List (List Value)) (hp_0 : SlD GDomain.rep F0 vp_0 2 cp_0 p.Domains) (vp_1 : Value) (hp_1 : SlC F0 vp_1 5 (p.Rules.Pairs.map GPair.enc)) (vp_2 : Value) (hp_2 : SlC F0 vp_2 5 (p.Rules.Loads.map GLoad.enc)) (vp_3 : Value) (hp_3 : SlC F0 vp_3 4 (p.Rules.Caps.map GCap.enc)) (hints : List GChoice) (vhints : Value) (hhints : SlC F0 vhints 2 (hints.map GChoice.enc)) (fuel : Nat) (r : Bool) (hr : zb0 fuel p hints = some r) : Calls Tryz.prog 4 #[.agg [vp_0, vp_1, vp_2, vp_3].toArray, vhints] w fun e w' => e = .returned (.bool r) ∧ Below w.heap.size w w' := by
  have hk := hr; unfold zb0 at hk; haveI := hp_0.1.oneC; haveI := hp_1.oneC; haveI := hp_2.oneC; haveI := hp_3.oneC; haveI := hhints.oneC; obtain ⟨S0, F1, rfl, hS0, hp0⟩ := zak hF0; refine zap Tryz.func4 rfl rfl rfl hp0 ?_; refine T.sr ?_; refine TL.e (Ew.az rfl rfl) ?_; rintro _ _ ⟨g2, rfl, rfl⟩; refine TL.run 1 rfl ?_; refine TL.ns (T.seq (T.seq ?_)); have hq := zah hk; clear hk; obtain ⟨r10, hr10, hk⟩ := hq; (try dsimp only at hk); refine T.ae (ι := Unit) (fun z => [(1, vhints), (2, .pointer (some ⟨g2, 0, none⟩)), (16, .bool ((!r10) || (decide (20 < (hints.length : Int)))))]) (fun z => [.row g2 29 [vp_0, vp_1, vp_2, vp_3], .fr F1]) (fun z => True) ?_ ?_
  · refine T.region ?_; refine TL.y (Yv.al 0 rfl rfl rfl rfl) ?_; refine TL.e (Ew.ah rfl rfl rfl (fun w hw => zeJ _ w (hw.fr (i := 1) rfl) p vp_0 cp_0 hp_0 vp_1 hp_1 vp_2 hp_2 vp_3 hp_3 fuel r10 hr10)) ?_; rintro _ _ ⟨rfl, rfl⟩; refine TL.run 2 rfl ?_; refine TL.gs rfl rfl rfl (fun h1 => ?_) (fun h1 => ?_)
    · refine TL.run 4 rfl ?_; refine TL.nil ?_; exact K.af () trivial (.c (.c (.b (zcy h1).symm .nil))) (List.Sublist.refl _)
    · refine TL.run 1 rfl ?_; refine TL.y (Yv.am rfl rfl hhints (List.length_map _)) ?_; have hm14 : hints.length ≤ 9223372036854775807 := (List.length_map _) ▸ hhints.max; refine TL.run 2 rfl ?_; refine TL.nil ?_; exact K.af () trivial (.c (.c (.b (or_f h1) .nil))) (List.Sublist.refl _)
  · rintro _ _; have hm14 : hints.length ≤ 9223372036854775807 := (List.length_map _) ▸ hhints.max; refine T.cond rfl (fun h2 => ?_) (fun h2 => ?_)
    · replace hk := zaa hk h2; refine T.seq ?_; have hq := zah hk; clear hk; obtain ⟨r17, hr17, hk⟩ := hq; (try dsimp only at hk); refine T.region ?_; refine TL.e (Ew.ah rfl rfl rfl (fun w hw => zcF _ w (hw.fr (i := 1) rfl)  fuel r17 hr17)) ?_; rintro _ _ ⟨rfl, rfl⟩; refine TL.run 1 rfl ?_; refine TL.ns (T.ret (K.ab ?_)); obtain rfl := Option.some.inj hk; exact K.ai rfl rfl (fun w' hw => ⟨rfl, hw.isBelow⟩)
    · have p2 := h2; (try simp only [nfB] at p2); replace hk := zab hk h2; refine T.skip (K.seq (T.seq ?_)); have hq := zah hk; clear hk; obtain ⟨r21, hr21, hk⟩ := hq; (try dsimp only at hk); refine T.region ?_; refine TL.y (Yv.al 0 rfl rfl rfl rfl) ?_; refine TL.run 1 rfl ?_; refine TL.e (Ew.ar [1, 0] [] [.row g2 29 [vp_0, vp_1, vp_2, vp_3]] rfl rfl rfl rfl (by decide) (fun w hw hw2 hF => zcH _ w hF p vp_0 cp_0 hp_0 vp_1 hp_1 vp_2 hp_2 vp_3 hp_3 hints vhints hhints r21 hr21)) ?_; rintro _ _ ⟨v21_0_0, -, rfl, rfl⟩; dsimp only [List.cons_append, List.nil_append]; refine TL.aB 0 rfl ?_; intro iv21_0_0 hmv21_0_0; refine TL.run 5 rfl ?_; refine TL.ns (T.seq (T.seq ?_)); have hq := zah hk; clear hk; obtain ⟨r25, hr25, hk⟩ := hq; (try dsimp only at hk); refine T.ae (ι := Unit) (fun z => [(1, vhints), (2, .pointer (some ⟨g2, 0, none⟩)), (5, v21_0_0), (6, .int .i64 r21.2), (31, .bool ((!r25) || (!(zbB hints))))]) (fun z => [.sl v21_0_0 60 2 r21.1.length (r21.1.flatMap GChoice.enc), .row g2 29 [vp_0, vp_1, vp_2, vp_3], .fr F1]) (fun z => True) ?_ ?_
      · refine T.region ?_; refine TL.y (Yv.al 2 rfl rfl rfl rfl) ?_; refine TL.e (Ew.ah rfl rfl rfl (fun w hw => zeH _ w (hw.fr (i := 1) rfl) p vp_0 cp_0 hp_0 vp_1 hp_1 vp_2 hp_2 vp_3 hp_3 r25 hr25)) ?_; rintro _ _ ⟨rfl, rfl⟩; refine TL.run 2 rfl ?_; refine TL.gs rfl rfl rfl (fun h3 => ?_) (fun h3 => ?_)
        · refine TL.run 4 rfl ?_; refine TL.nil ?_; refine K.pick [0, 2, 1] rfl (by decide) ?_; exact K.af () trivial (.c (.c (.c (.c (.b (zcy h3).symm .nil))))) (List.Sublist.refl _)
        · refine TL.run 1 rfl ?_; refine TL.e (Ew.ah rfl rfl rfl (fun w hw => zd3 _ w (hw.fr (i := 1) rfl) hints vhints hhints)) ?_; rintro _ _ ⟨rfl, rfl⟩; refine TL.run 2 rfl ?_; refine TL.nil ?_; refine K.pick [0, 2, 1] rfl (by decide) ?_; exact K.af () trivial (.c (.c (.c (.c (.b (or_f h3) .nil))))) (List.Sublist.refl _)
      · rintro _ _; refine T.cond rfl (fun h4 => ?_) (fun h4 => ?_)
        · replace hk := zaa hk h4; refine T.seq ?_; (try dsimp only at hk); have hq := zae hk; clear hk; obtain ⟨k6, hk6, hk⟩ := hq; (try dsimp only at hk); refine T.ae (ι := Bool) (fun z => [(4, .bool z)]) (fun z => [.fr F1]) (fun z => k6 z = some r) ?_ ?_
          · refine T.region ?_; refine TL.run 1 rfl ?_; refine TL.y (Yv.aS 0 rfl rfl rfl) ?_; refine TL.run 2 rfl ?_; refine TL.gs rfl rfl rfl (fun h7 => ?_) (fun h7 => ?_)
            · have p7 := of_decide_eq_true h7; replace hk := zaa hk h7; refine TL.run 4 rfl ?_; refine TL.gs rfl rfl rfl (fun h8 => ?_) (fun h8 => ?_)
              · have p8 := of_decide_eq_true h8; replace hk := zaa hk h8; have hq := zah hk; clear hk; obtain ⟨r40, hr40, hk⟩ := hq; refine TL.e (Ew.ah rfl rfl rfl (fun w hw => zcF _ w (hw.fr (i := 2) rfl)  fuel r40 hr40)) ?_; rintro _ _ ⟨rfl, rfl⟩; refine TL.run 2 rfl ?_; refine TL.nil ?_; refine K.pick [2] rfl (by decide) ?_; exact K.af r40 hk (.c .nil) (List.Sublist.refl _)
              · have p8 := of_decide_eq_false h8; replace hk := zab hk h8; refine TL.run 3 rfl ?_; refine TL.nil ?_; refine K.pick [2] rfl (by decide) ?_; exact K.af false hk (.c .nil) (List.Sublist.refl _)
            · have p7 := of_decide_eq_false h7; replace hk := zab hk h7; refine TL.run 7 rfl ?_; refine TL.nil ?_; refine K.pick [2] rfl (by decide) ?_; exact K.af false hk (.c .nil) (List.Sublist.refl _)
          · rintro x_5 hk; rw [← hk6] at hk; (try dsimp only at hk); refine T.ret (K.ab ?_); obtain rfl := Option.some.inj hk; exact K.ai rfl rfl (fun w' hw => ⟨rfl, hw.isBelow⟩)
        · replace hk := zab hk h4; refine T.skip (K.seq (T.seq ?_)); have hq := zah hk; clear hk; obtain ⟨r45, hr45, hk⟩ := hq; (try dsimp only at hk); refine T.region ?_; refine TL.y (Yv.al 1 rfl rfl rfl rfl) ?_; refine TL.run 1 rfl ?_; refine TL.e (Ew.aA 2 rfl rfl rfl rfl (fun w hw hF => zeC _ w hF p vp_0 cp_0 hp_0 vp_1 hp_1 vp_2 hp_2 vp_3 hp_3 hints vhints hhints r45 hr45)) ?_; rintro _ _ ⟨v45_0_0, F2, le1_2, hf45_0_0, rfl, rfl⟩; haveI := hf45_0_0.oneC; refine TL.run 5 rfl ?_; refine TL.ns (T.seq (T.sr ?_)); refine TL.run 2 rfl ?_; refine TL.ns ?_; refine T.cond rfl (fun h9 => ?_) (fun h9 => ?_)
          · replace hk := zaa hk h9; refine T.seq ?_; (try dsimp only at hk); have hq := zae hk; clear hk; obtain ⟨k11, hk11, hk⟩ := hq; (try dsimp only at hk); refine T.ae (ι := Bool) (fun z => [(4, .bool z)]) (fun z => [.fr F2]) (fun z => k11 z = some r) ?_ ?_
            · refine T.region ?_; refine TL.run 1 rfl ?_; refine TL.y (Yv.aS 0 rfl rfl rfl) ?_; refine TL.run 2 rfl ?_; refine TL.gs rfl rfl rfl (fun h12 => ?_) (fun h12 => ?_)
              · have p12 := of_decide_eq_true h12; replace hk := zaa hk h12; refine TL.run 4 rfl ?_; refine TL.gs rfl rfl rfl (fun h13 => ?_) (fun h13 => ?_)
                · have p13 := of_decide_eq_true h13; replace hk := zaa hk h13; have hq := zah hk; clear hk; obtain ⟨r58, hr58, hk⟩ := hq; refine TL.e (Ew.ah rfl rfl rfl (fun w hw => zcF _ w (hw.fr (i := 2) rfl)  fuel r58 hr58)) ?_; rintro _ _ ⟨rfl, rfl⟩; refine TL.run 2 rfl ?_; refine TL.nil ?_; refine K.pick [2] rfl (by decide) ?_; exact K.af r58 hk (.c .nil) (List.Sublist.refl _)
                · have p13 := of_decide_eq_false h13; replace hk := zab hk h13; refine TL.run 3 rfl ?_; refine TL.nil ?_; refine K.pick [2] rfl (by decide) ?_; exact K.af false hk (.c .nil) (List.Sublist.refl _)
              · have p12 := of_decide_eq_false h12; replace hk := zab hk h12; refine TL.run 7 rfl ?_; refine TL.nil ?_; refine K.pick [2] rfl (by decide) ?_; exact K.af false hk (.c .nil) (List.Sublist.refl _)
            · rintro x_10 hk; rw [← hk11] at hk; (try dsimp only at hk); refine T.ret (K.ab ?_); obtain rfl := Option.some.inj hk; exact K.ai rfl rfl (fun w' hw => ⟨rfl, hw.isBelow⟩)
          · replace hk := zab hk h9; refine T.skip (K.seq (T.seq ?_)); refine T.av (fun w hw => hw.freezeS (i := 2) (j := 0) (by decide) rfl rfl) ?_; rintro F3 ⟨le2_3, hz3⟩; dsimp only [List.set, List.eraseIdx]; have hf3 := hz3.toF rfl GChoice.len; haveI := hf3.oneC; (try dsimp only at hk); have hq := zae hk; clear hk; obtain ⟨k15, hk15, hk⟩ := hq; (try dsimp only at hk); refine T.ae (ι := Bool) (fun z => [(4, .bool z)]) (fun z => [.fr F3]) (fun z => k15 z = some r) ?_ ?_
            · refine T.region ?_; refine TL.run 3 rfl ?_; refine TL.gs rfl rfl rfl (fun h16 => ?_) (fun h16 => ?_)
              · have p16 := of_decide_eq_true h16; replace hk := zaa hk h16; refine TL.run 2 rfl ?_; refine TL.e (Ew.ah rfl rfl rfl (fun w hw => zcl _ w (hw.fr (i := 1) rfl) r21.1 v21_0_0 hf3 r45.1 v45_0_0 (SlC.mono hf45_0_0 le2_3))) ?_; rintro _ _ ⟨rfl, rfl⟩; refine TL.run 2 rfl ?_; refine TL.gs rfl rfl rfl (fun h17 => ?_) (fun h17 => ?_)
                · replace hk := zaa hk h17; have hq := zah hk; clear hk; obtain ⟨r68, hr68, hk⟩ := hq; refine TL.e (Ew.ah rfl rfl rfl (fun w hw => zcF _ w (hw.fr (i := 1) rfl)  fuel r68 hr68)) ?_; rintro _ _ ⟨rfl, rfl⟩; refine TL.run 2 rfl ?_; refine TL.nil ?_; refine K.pick [1] rfl (by decide) ?_; exact K.af r68 hk (.c .nil) (List.Sublist.refl _)
                · replace hk := zab hk h17; refine TL.run 3 rfl ?_; refine TL.nil ?_; refine K.pick [1] rfl (by decide) ?_; exact K.af false hk (.c .nil) (List.Sublist.refl _)
              · have p16 := of_decide_eq_false h16; replace hk := zab hk h16; refine TL.run 8 rfl ?_; refine TL.nil ?_; refine K.pick [1] rfl (by decide) ?_; exact K.af false hk (.c .nil) (List.Sublist.refl _)
            · rintro x_14 hk; rw [← hk15] at hk; (try dsimp only at hk); refine T.ret ?_; obtain rfl := Option.some.inj hk; exact K.ai rfl rfl (fun w' hw => ⟨rfl, hw.isBelow⟩)
theorem zf9 {n : Nat} (h : 100000 ≤ n) : zbY n = some true := by
  obtain ⟨m, rfl⟩ : ∃ m, n = m + 100000 := ⟨n - 100000, by omega⟩
  kernel_rfl
theorem zgI {ρ : Type} {hs : List GChoice} (h : VL hs) (K : (Int → Option Int) → Option ρ) : ∃ f : Int → Option Int, (∀ n, f n = none ∧ onL hs n = 0 ∨ f n = some (onL hs n)) ∧ zai (fun (i_14 : Nat) (next13 : (Int → Option Int) → Option ρ) (l_12 : (Int → Option Int)) => next13 (mput l_12 ((nth hs i_14).Station) ((nth hs i_14).Channel))) K (hs.length - 0) 0 (fun (_ : Int) => (none : Option Int)) = K f := by
  obtain ⟨h1, h2⟩ := zdB (k := K) (n := hs.length - 0) (s := fun (_ : Int) => (none : Option Int))
    (f := fun (i_14 : Nat) (next13 : (Int → Option Int) → Option ρ) (l_12 : (Int → Option Int)) => next13 (mput l_12 ((nth hs i_14).Station) ((nth hs i_14).Channel)))
    (fun i f => ∀ n, f n = none ∧ onL (hs.take i) n = 0 ∨ f n = some (onL (hs.take i) n))
    (fun i f => mput f ((nth hs i).Station) ((nth hs i).Channel))
    (fun n => .inl ⟨rfl, rfl⟩)
    (fun i f hi hf n => by
      rw [zgD h (by omega)]; by_cases e : n = (nth hs i).Station
      · rw [if_pos e, e, zdK]; exact .inr rfl
      · rw [if_neg e, zcL _ _ e]; exact hf n)
    (fun i next f hi hf => rfl)
  refine ⟨_, fun n => ?_, h1⟩; have := h2 n
  rwa [Nat.sub_zero, List.take_length] at this
def zcE (hs : List GChoice) (d : GDomain) : GChoice := ⟨d.Station, bif zbK d.Channels (onL hs d.Station) then onL hs d.Station else nth d.Channels 0⟩
def zcQ (d : GDomain) : Bool := decide ((d.Channels.length : Int) = 0)
theorem zgP {p : GProblem} {i : Nat} (hi : i < p.Domains.length) (h : zcQ (nth p.Domains i) = true) : p.Domains.any zcQ = true := List.any_eq_true.2 ⟨_, zcY hi, h⟩
theorem zfV {p : GProblem} (h : ∀ j, j < p.Domains.length → zcQ (nth p.Domains j) = false) : p.Domains.any zcQ = false := by
  rw [List.any_eq_false]; intro d hd; obtain ⟨j, hj, rfl⟩ := List.mem_iff_getElem.1 hd; rw [← zaU hj, h j hj]; simp
theorem zgy {ρ : Type} {p : GProblem} (z : Option ρ) (K : (Int → Option Bool) → Option ρ) (post : Option ρ → Prop) (h1 : p.Domains.any zcQ = true → post z)
    (h2 : p.Domains.any zcQ = false → ∀ f : Int → Option Bool, (∀ j, j < p.Domains.length → f (nth p.Domains j).Station = some true) → post (K f)) :
    post (zai (fun (i_7 : Nat) (next6 : (Int → Option Bool) → Option ρ) (l_5 : (Int → Option Bool)) => (bif decide ((((nth p.Domains i_7).Channels).length : Int) = 0) then z else next6 (mput l_5 ((nth p.Domains i_7).Station) true))) K (p.Domains.length - 0) 0 (fun (_ : Int) => (none : Option Bool))) := by
  refine zeg (fun i f => ∀ j, j < i → zcQ (nth p.Domains j) = false ∧ f (nth p.Domains j).Station = some true) post (fun j hj => absurd hj (Nat.not_lt_zero j)) (fun f hf => ?_) (fun i f next hi hf hn => ?_)
  · exact h2 (zfV fun j hj => (hf j (by omega)).1) f fun j hj => (hf j (by omega)).2
  · cases he : decide ((((nth p.Domains i).Channels).length : Int) = 0) with
    | true => exact h1 (zgP (by omega) he)
    | false =>
      refine hn _ fun j hj => ?_; by_cases e : (nth p.Domains j).Station = (nth p.Domains i).Station
      · rw [e, zdK]; refine ⟨?_, rfl⟩; rcases Nat.lt_or_ge j i with hlt | hge
        · exact (hf j hlt).1
        · (obtain rfl : j = i := by omega); exact he
      · have hlt : j < i := by
          rcases Nat.lt_or_ge j i with hlt | hge
          · exact hlt
          · (obtain rfl : j = i := by omega); exact absurd rfl e
        rw [zcL _ _ e]; exact hf j hlt
theorem zen {α : Type} [Inhabited α] {l : List α} {i j : Nat} {a : α} (hj : j < l.length) : nth (l.set i a) j = if i = j then a else nth l j := by
  rw [zaU (by rw [List.length_set]; exact hj), List.getElem_set, zaU hj]
theorem zg2 {α : Type} [Inhabited α] {a b : List α} (hl : a.length = b.length) (h : ∀ j, j < a.length → nth a j = nth b j) : a = b := by
  refine List.ext_getElem hl fun i h1 h2 => ?_; have := h i h1
  rwa [zaU h1, zaU h2] at this
theorem zhf {p : GProblem} (hp : okP p = true) {d : GDomain} (hd : d ∈ p.Domains) : zbK d.Channels 0 = false := by
  have h := List.all_eq_true.1 (zcm hp) d hd; have h2 := List.all_eq_true.1 (zcm (zdu h)); rw [zgK, List.any_eq_false]; intro x hx hc; have := zg4 (h2 x hx); have := of_decide_eq_true hc; omega
theorem zgZ {p : GProblem} {hs : List GChoice} : zbG p hs = some (bif okP p && zaC hs then (bif p.Domains.any zcQ then ([], 9) else (p.Domains.map (zcE hs), 0)) else ([], 2)) := by
  unfold zbG; simp only [zaH, zg6, Option.bind_some]
  cases hp : okP p
  · rfl
  cases hv : zaC hs
  · rfl
  simp only [Bool.not_true, Bool.or_false, cond_false, Bool.and_true, cond_true]; have hV := vl_of hv; refine zgy (post := fun r => r = some (bif p.Domains.any zcQ then ([], 9) else (p.Domains.map (zcE hs), 0))) _ _ (fun h => by rw [h]; rfl) (fun h f hf => ?_); rw [h]
  obtain ⟨g, hg, he⟩ := zgI hV (ρ := List GChoice × Int) (fun l_10 => grd (room p.Domains.length 16) <| zai (fun (i_20 : Nat) (next19 : List GChoice → Option (List GChoice × Int)) (l_18 : List GChoice) =>
            grd (0 ≤ 0 ∧ 0 < (((nth p.Domains i_20).Channels).length : Int)) <|
            grd (0 ≤ (i_20 : Int) ∧ (i_20 : Int) < (l_18.length : Int)) <|
            (bif ((((mkeep l_10 (fun k => (f k).getD false)) ((nth p.Domains i_20).Station)).isSome) && (zau ((nth p.Domains i_20).Channels) (((mkeep l_10 (fun k => (f k).getD false)) ((nth p.Domains i_20).Station)).getD 0))) then
              grd (0 ≤ (i_20 : Int) ∧ (i_20 : Int) < ((l_18.set i_20 (GChoice.mk ((nth p.Domains i_20).Station) (nth ((nth p.Domains i_20).Channels) 0))).length : Int)) <|
              next19 ((l_18.set i_20 (GChoice.mk ((nth p.Domains i_20).Station) (nth ((nth p.Domains i_20).Channels) 0))).set i_20 (GChoice.mk ((nth (l_18.set i_20 (GChoice.mk ((nth p.Domains i_20).Station) (nth ((nth p.Domains i_20).Channels) 0))) i_20).Station) (((mkeep l_10 (fun k => (f k).getD false)) ((nth p.Domains i_20).Station)).getD 0)))
              else
              next19 (l_18.set i_20 (GChoice.mk ((nth p.Domains i_20).Station) (nth ((nth p.Domains i_20).Channels) 0))))) (fun (l_18 : List GChoice) => some (l_18, 0)) (p.Domains.length - 0) 0 (List.replicate p.Domains.length (GChoice.mk 0 0)))
  refine Eq.trans he ?_; have hlen := zeF (zcm hp) (zcm (zdu (zdu hp))); rw [zbP (by unfold room; omega)]; refine zeg (fun i (l : List GChoice) => l.length = p.Domains.length ∧ ∀ j, j < i → nth l j = zcE hs (nth p.Domains j)) (fun r => r = some (p.Domains.map (zcE hs), 0)) ⟨by simp, fun j hj => absurd hj (Nat.not_lt_zero j)⟩ (fun l hl => ?_) (fun i l next hi hl hn => ?_)
  · refine congrArg (fun x => some (x, (0 : Int))) (zg2 (by rw [hl.1, List.length_map]) fun j hj => ?_); rw [hl.2 j (by omega), zeI (by omega)]
  · have hm := zcY (show i < p.Domains.length by omega)
    have hne : (0 : Int) < ((nth p.Domains i).Channels.length : Int) := by
      have h3 := List.any_eq_false.1 h _ hm; have h4 : ¬ ((nth p.Domains i).Channels.length : Int) = 0 := fun e => h3 (decide_eq_true e); omega
    rw [zbP ⟨by omega, hne⟩, zbP ⟨by omega, by omega⟩]
    have hk : mkeep g (fun k => (f k).getD false) (nth p.Domains i).Station = g (nth p.Domains i).Station := by
      show (bif (f (nth p.Domains i).Station).getD false then g (nth p.Domains i).Station else none) = g (nth p.Domains i).Station
      rw [hf i (by omega)]; rfl
    have step : ∀ a : GChoice, a = zcE hs (nth p.Domains i) → ∀ l' : List GChoice, l'.length = l.length → (∀ j, j < l.length → nth l' j = if i = j then a else nth l j) → next l' = some (p.Domains.map (zcE hs), 0) := fun a ha l' h5 h6 => by
      refine hn l' ⟨by omega, fun j hj => ?_⟩; rw [h6 j (by omega)]; by_cases e : i = j
      · rw [if_pos e, ha, e]
      · rw [if_neg e]; exact hl.2 j (by omega)
    rw [hk, zfO]; rcases hg (nth p.Domains i).Station with ⟨h3, h4⟩ | h3
    · rw [h3]; simp only [Option.isSome_none, Bool.false_and, cond_false]; refine step _ ?_ _ (List.length_set ..) (fun j hj => zen hj); unfold zcE; rw [h4, zhf hp hm]; rfl
    · rw [h3]; simp only [Option.isSome_some, Bool.true_and, Option.getD_some]
      cases hH : zbK (nth p.Domains i).Channels (onL hs (nth p.Domains i).Station) with
      | true =>
        rw [cond_true, zbP ⟨by omega, by rw [List.length_set]; omega⟩]; refine step ⟨(nth p.Domains i).Station, onL hs (nth p.Domains i).Station⟩ ?_ _ (by rw [List.length_set, List.length_set]) (fun j hj => ?_)
        · unfold zcE; rw [hH]; rfl
        · rw [zen (by rw [List.length_set]; exact hj), zen hj, zen (by omega), if_pos rfl]; by_cases e : i = j
          · rw [if_pos e, if_pos e]
          · rw [if_neg e, if_neg e, if_neg e]
      | false =>
        rw [cond_false]; refine step _ ?_ _ (List.length_set ..) (fun j hj => zen hj); unfold zcE; rw [hH]; rfl
theorem zfD {p : GProblem} {hs : List GChoice} (hp : okP p = true) : zcq p hs = some (bif p.Domains.any zcQ then ([], false) else (p.Domains.map (zcE hs), true)) := by
  unfold zcq; simp only [zaH]; have hlen := zeF (zcm hp) (zcm (zdu (zdu hp))); refine zeg (fun i (l : List GChoice) => (∀ j, j < i → zcQ (nth p.Domains j) = false) ∧ l = (p.Domains.take i).map (zcE hs)) (fun r => r = some (bif p.Domains.any zcQ then ([], false) else (p.Domains.map (zcE hs), true))) ⟨fun j hj => absurd hj (Nat.not_lt_zero j), rfl⟩ (fun l hl => ?_) (fun i l next hi hl hn => ?_)
  · rw [zfV fun j hj => hl.1 j (by omega), hl.2, Nat.sub_zero, List.take_length]; rfl
  · (have hi' : i < p.Domains.length := by omega)
    cases he : decide ((((nth p.Domains i).Channels).length : Int) = 0) with
    | true => rw [zgP hi' he]; rfl
    | false =>
      have h0 := of_decide_eq_false he
      have hr : ∀ a : GChoice, room (l ++ [a]).length 16 := fun a => by
        rw [hl.2, List.length_append, List.length_map, List.length_take]; unfold room; simp only [List.length_cons, List.length_nil]; omega
      have step : ∀ a, a = zcE hs (nth p.Domains i) → next (l ++ [a]) = some (bif p.Domains.any zcQ then ([], false) else (p.Domains.map (zcE hs), true)) := fun a ha => by
        refine hn _ ⟨fun j hj => ?_, ?_⟩
        · rcases Nat.lt_or_ge j i with hlt | hge
          · exact hl.1 j hlt
          · (obtain rfl : j = i := by omega); exact he
        · rw [ha, hl.2, ze5 hi', List.map_append]; rfl
      rw [cond_false, on_x]
      cases hH : zbK (nth p.Domains i).Channels (onL hs (nth p.Domains i).Station) with
      | true =>
        simp only [Bool.not_true, cond_false]; rw [zbP (hr _)]; exact step _ (by unfold zcE; rw [hH]; rfl)
      | false =>
        simp only [Bool.not_false, cond_true]; rw [zbP ⟨by omega, by omega⟩, zbP (hr _)]; exact step _ (by unfold zcE; rw [hH]; rfl)
theorem zeM {n : Nat} (h : 100000 ≤ n) (p : GProblem) (hs : List GChoice) : zb0 n p hs = some true := by
  unfold zb0 zcG; obtain ⟨a, ha⟩ := zgS (p := p) (a := 10) (b := 40) (fuel := n) (by omega); simp only [zaH, ha, Option.bind_some, zf9 h, zgZ, zfJ, ← zfn]
  cases (!a || decide (20 < (hs.length : Int)))
  · simp only [cond_false]
    cases hp : okP p
    · rfl
    cases hv : zaC hs
    · rfl
    simp only [Bool.not_true, Bool.or_false, cond_false, Bool.and_true, cond_true, zfD hp, Option.bind_some]
    cases p.Domains.any zcQ
    · simp only [cond_false, Bool.not_true, zfC, decide_true, cond_true]
    · rfl
  · rfl
end Go.Proofs.YtnhdlloidbomdaaGreat
namespace Go.Proofs.YtnhdlloidbomdaaGreat
open Go.RowKit Go.ChangeShapes Go.WideShapes Go.Deep
def Opens {H : Type} (enc : TypeId × Value → H) (w : World) (base : Nat) (spare : Nat → Bool) (held : Bool) (t : TypeId) {α : Type} (R : List Value → α → Prop) : Prop :=
  ∀ fuel cs y, DataW.trod enc Tryz.prog w base spare held fuel t cs = some y → ∃ x, R cs x
section
variable {H : Type} {enc : TypeId × Value → H} {w : World} {base : Nat} {spare : Nat → Bool} {held : Bool}
theorem Opens.int {t : TypeId} (ht : Tryz.prog.underlying t = some (.int .i64)) : Opens enc w base spare held t (fun cs (x : Int) => cs = [.int .i64 x]) := fun fuel cs y h => by
  obtain ⟨k, hk, _⟩ := DataW.trod_int ht h; exact ⟨k, hk⟩
theorem zg1 {a : Addr} {v : Value} (h : w.cell? a = some v) : Cb w a.block := by
  unfold World.cell? at h
  split at h
  all_goals (first | exact ⟨_, _, _, by assumption⟩ | simp at h | skip)
theorem Opens.any {t e : TypeId} {k : Nat} {α : Type} [Inhabited α] {R : List Value → α → Prop} (ht : Tryz.prog.underlying t = some (.slice e)) (hk : Tryz.prog.cellsOf e = k) (hpos : 0 < k) (ho : Opens enc w base spare held e R) :
    Opens enc w base spare held t (fun cs (l : List α) => ∃ v c, cs = [v] ∧ SlC (Frz.all w) v k c ∧ c.length = l.length ∧ ∀ i, i < l.length → R (nth c i) (nth l i)) := fun fuel cs y h => by
  rcases open_slice ht h with ⟨h0, _⟩ | ⟨a, len, cap, m, n, D, Pl, hcs, hb, hl, hm, hmm, _, hx⟩
  · exact ⟨[], _, [], h0, SlC.nil _ _, rfl, fun i hi => absurd hi (Nat.not_lt_zero i)⟩
  · subst hcs; (have hlm : len ≤ m := by rw [hmm]; split <;> omega)
    have each : ∀ i, i < m → ∃ x : List Value × α, x.1.length = k ∧ R x.1 x.2 ∧ ∀ j, j < k → w.cell? (a.add (i * k + j)) = x.1[j]? := fun i hi => by
      obtain ⟨cs', h1, h2⟩ := hx i hi; rw [hk] at h1; obtain ⟨_, hlen, hcell⟩ := World.cells?_some h1; obtain ⟨x, hR⟩ := ho _ _ _ h2; exact ⟨(cs', x), hlen, hR, fun j hj => by rw [← hcell j hj, add_add]⟩
    obtain ⟨X, hX⟩ := choose_lt each
    have hn : ∀ i, i < len → nth ((List.range len).map fun i => (X i).1) i = (X i).1 := fun i hi => by
      rw [zaU (by simpa using hi)]; simp
    have hn2 : ∀ i, i < len → nth ((List.range len).map fun i => (X i).2) i = (X i).2 := fun i hi => by
      rw [zaU (by simpa using hi)]; simp
    refine ⟨(List.range len).map fun i => (X i).2, _, (List.range len).map fun i => (X i).1, rfl, ⟨some a, cap, by simp, by simpa using hl, by unfold maxLen at hm; omega, fun c hc => ?_, fun hp => ?_⟩, by simp, fun i hi => ?_⟩
    · simp at hc; obtain ⟨i, hi, rfl⟩ := hc; exact (hX i (by omega)).1
    · (have hp' : 0 < len := by simpa using hp); have c0 := (hX 0 (by omega)).2.2 0 hpos; have hx0 := (hX 0 (by omega)).1; rw [List.getElem?_eq_getElem (by omega)] at c0; have hcb := zg1 c0; have hs := World.cell?_spot c0; simp [Addr.add] at hs hcb; obtain ⟨b, off, sp⟩ := a; simp at hs hcb; subst hs; refine ⟨b, off, rfl, hcb, fun i hi j hj => ?_⟩; simp at hi; rw [hn i hi] at hj ⊢; have hxi := hX i (by omega); have := hxi.2.2 j (by omega); refine Eq.trans ?_ this
      show w.cell? _ = _
      rw [zc1, Nat.add_assoc]
    · simp at hi; rw [hn i hi, hn2 i hi]; exact (hX i (by omega)).2.1
theorem Opens.slC {t e : TypeId} {k : Nat} {α : Type} [Inhabited α] {en : α → List Value} (ht : Tryz.prog.underlying t = some (.slice e)) (hk : Tryz.prog.cellsOf e = k) (hpos : 0 < k) (ho : Opens enc w base spare held e (fun cs (x : α) => cs = en x)) :
    Opens enc w base spare held t (fun cs (l : List α) => ∃ v, cs = [v] ∧ SlC (Frz.all w) v k (l.map en)) := fun fuel cs y h => by
  obtain ⟨l, v, c, h1, h2, h3, h4⟩ := Opens.any ht hk hpos ho _ _ _ h; refine ⟨l, v, h1, ?_⟩
  have : c = l.map en := by
    apply List.ext_getElem (by simpa using h3); intro i hi hi2; rw [← zaU hi, h4 i (by omega), List.getElem_map, zaU (by omega)]
  rw [← this]; exact h2
theorem Opens.bytes {t e : TypeId} (ht : Tryz.prog.underlying t = some (.slice e)) (he : Tryz.prog.underlying e = some (.int .u8)) (hk : Tryz.prog.cellsOf e = 1) :
    Opens enc w base spare held t (fun cs (l : List Int) => ∃ v, cs = [v] ∧ SlC (Frz.all w) v 1 (l.map (eK .u8)) ∧ ∀ x ∈ l, 0 ≤ x ∧ x ≤ 255) := fun fuel cs y h => by
  have ho : Opens enc w base spare held e (fun cs (x : Int) => cs = eK .u8 x ∧ (0 ≤ x ∧ x ≤ 255)) := fun fuel cs y h => by
    obtain ⟨k, h1, _, h2⟩ := DataW.trod_int he h; refine ⟨k, h1, ?_⟩; (have e1 : IntKind.u8.min = 0 := by decide); (have e2 : IntKind.u8.max = 255 := by decide); simp only [Lit.wf, e1, e2, Bool.and_eq_true, decide_eq_true_eq] at h2; exact h2
  obtain ⟨l, v, c, h1, h2, h3, h4⟩ := Opens.any ht hk (by decide) ho _ _ _ h; refine ⟨l, v, h1, ?_, fun x hx => ?_⟩
  · have : c = l.map (eK .u8) := by
      apply List.ext_getElem (by simpa using h3); intro i hi hi2; rw [← zaU hi, (h4 i (by omega)).1, List.getElem_map, zaU (by omega)]
    rw [← this]; exact h2
  · obtain ⟨i, hi, e⟩ := List.mem_iff_getElem.1 hx; have := (h4 i hi).2; rw [zaU hi, e] at this; exact this
theorem Opens.slD {t e : TypeId} {k : Nat} {α : Type} [Inhabited α] {rep : Frz → List Value → α → Prop} (ht : Tryz.prog.underlying t = some (.slice e)) (hk : Tryz.prog.cellsOf e = k) (hpos : 0 < k) (ho : Opens enc w base spare held e (rep (Frz.all w))) :
    Opens enc w base spare held t (fun cs (l : List α) => ∃ v c, cs = [v] ∧ SlD rep (Frz.all w) v k c l) := fun fuel cs y h => by
  obtain ⟨l, v, c, h1, h2, h3, h4⟩ := Opens.any ht hk hpos ho _ _ _ h; exact ⟨l, v, c, h1, h2, h3, h4⟩
end
end Go.Proofs.YtnhdlloidbomdaaGreat
