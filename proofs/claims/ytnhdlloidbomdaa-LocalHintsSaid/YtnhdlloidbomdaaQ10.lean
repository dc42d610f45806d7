/- Yz Ye Ys Ux Pu: shortened and put together by squeeze.py. -/
import Derived.Test.YtnhdlloidbomdaaQ09
set_option maxRecDepth 100000
set_option maxHeartbeats 4000000
set_option linter.unusedVariables false
set_option linter.unusedSectionVars false
set_option linter.unusedSimpArgs false
namespace Go.Proofs.Ytnhdlloidbomdaa
open Go.RowKit
def zaM  : GProblem :=
  (GProblem.mk [(GDomain.mk 1 [14, 15]), (GDomain.mk 2 [14, 15]), (GDomain.mk 3 [14])] (GRules.mk [(GPair.mk 1 2 0 14 51), (GPair.mk 2 3 0 14 51)] [(GLoad.mk 3 1 7 14 51)] [(GCap.mk 3 5 14 51)]))
theorem zbX (F0 : Frz) (w : World) (hF0 : F0.At w)  : Calls Try.prog 16 #[] w fun e w' => ∃ (y : Value × List (List Value) × Value × Value × Value) (G : Frz), (SlD GDomain.rep G y.1 2 y.2.1 ((zaM).Domains) ∧ SlC G y.2.2.1 5 (((zaM).Rules.Pairs).map GPair.enc) ∧ SlC G y.2.2.2.1 5 (((zaM).Rules.Loads).map GLoad.enc) ∧ SlC G y.2.2.2.2 4 (((zaM).Rules.Caps).map GCap.enc)) ∧ e = .returned (.agg [y.1, y.2.2.1, y.2.2.2.1, y.2.2.2.2].toArray) ∧ Fx F0 w G w' := by
  obtain ⟨r, hk⟩ : ∃ r, zaM = r := ⟨_, rfl⟩; rw [hk]; unfold zaM at hk; obtain ⟨S0, F1, rfl, hS0, hp0⟩ := zao hF0; refine zar Try.func16 rfl rfl rfl hp0 ?_; refine T.sr ?_; refine TL.e (Ew.alloc rfl) ?_; rintro _ _ ⟨g0, rfl, rfl⟩; refine TL.nx ?_; refine TL.e (Ew.buildSlice rfl rfl rfl (by decide)) ?_; rintro _ _ ⟨g1, rfl, rfl⟩; refine TL.av (fun w hw => hw.freezeR (i := 2) (j := 0) (by decide) rfl rfl) ?_; rintro F2 ⟨le1_2, hz2⟩; dsimp only [List.set, List.eraseIdx]; have hf2 : SlC F2.toFrz (.slice (some ⟨g1, 0, none⟩) 2 2) 1 ([14, 15].map eI) := (SlK.lit hz2 rfl (Nat.le_refl _) (by decide)).toF (xs := [14, 15]) rfl (fun _ => rfl); refine TL.y (Yv.build rfl rfl) ?_; refine TL.e (Ew.buildSlice rfl rfl rfl (by decide)) ?_; rintro _ _ ⟨g3, rfl, rfl⟩; refine TL.av (fun w hw => hw.freezeR (i := 2) (j := 0) (by decide) rfl rfl) ?_; rintro F3 ⟨le2_3, hz3⟩; dsimp only [List.set, List.eraseIdx]; have le1_3 := le1_2.trans le2_3; have hf3 : SlC F3.toFrz (.slice (some ⟨g3, 0, none⟩) 2 2) 1 ([14, 15].map eI) := (SlK.lit hz3 rfl (Nat.le_refl _) (by decide)).toF (xs := [14, 15]) rfl (fun _ => rfl); refine TL.y (Yv.build rfl rfl) ?_; refine TL.e (Ew.buildSlice rfl rfl rfl (by decide)) ?_; rintro _ _ ⟨g5, rfl, rfl⟩; refine TL.av (fun w hw => hw.freezeR (i := 2) (j := 0) (by decide) rfl rfl) ?_; rintro F4 ⟨le3_4, hz4⟩; dsimp only [List.set, List.eraseIdx]; have le1_4 := le1_3.trans le3_4; have le2_4 := le2_3.trans le3_4; have hf4 : SlC F4.toFrz (.slice (some ⟨g5, 0, none⟩) 1 1) 1 ([14].map eI) := (SlK.lit hz4 rfl (Nat.le_refl _) (by decide)).toF (xs := [14]) rfl (fun _ => rfl); refine TL.y (Yv.build rfl rfl) ?_; refine TL.e (Ew.buildSlice rfl rfl rfl (by decide)) ?_; rintro _ _ ⟨g7, rfl, rfl⟩; have hl7 : OwnD GDomain.rep F4.toFrz 2 [[.int .i64 1, (.slice (some ⟨g1, 0, none⟩) 2 2)], [.int .i64 2, (.slice (some ⟨g3, 0, none⟩) 2 2)], [.int .i64 3, (.slice (some ⟨g5, 0, none⟩) 1 1)]] [(GDomain.mk 1 [14, 15]), (GDomain.mk 2 [14, 15]), (GDomain.mk 3 [14])] := (OwnD.snoc (OwnD.snoc (OwnD.snoc (OwnD.nil _ _ 2) ⟨_, rfl, (SlC.mono hf2 le2_4)⟩ rfl) ⟨_, rfl, (SlC.mono hf3 le3_4)⟩ rfl) ⟨_, rfl, hf4⟩ rfl); refine TL.y (Yv.build rfl rfl) ?_; refine TL.y (Yv.build rfl rfl) ?_; refine TL.e (Ew.buildSlice rfl rfl rfl (by decide)) ?_; rintro _ _ ⟨g10, rfl, rfl⟩; refine TL.y (Yv.build rfl rfl) ?_; refine TL.e (Ew.buildSlice rfl rfl rfl (by decide)) ?_; rintro _ _ ⟨g12, rfl, rfl⟩; refine TL.y (Yv.build rfl rfl) ?_; refine TL.e (Ew.buildSlice rfl rfl rfl (by decide)) ?_; rintro _ _ ⟨g14, rfl, rfl⟩; refine TL.y (Yv.build rfl rfl) ?_; refine TL.y (Yv.build rfl rfl) ?_; refine TL.e0 (Ew.al 4 rfl rfl rfl rfl rfl rfl) ?_; rintro _ _ ⟨rfl, rfl⟩; refine TL.ns (T.ret ?_); refine K.av (fun w hw => hw.freezeR (i := 5) (j := 3) (by decide) rfl rfl) ?_; rintro F5 ⟨le4_5, hz5⟩; dsimp only [List.set, List.eraseIdx]; have le1_5 := le1_4.trans le4_5; have hf5 : SlD GDomain.rep F5.toFrz (.slice (some ⟨g7, 0, none⟩) 3 3) 2 [[.int .i64 1, (.slice (some ⟨g1, 0, none⟩) 2 2)], [.int .i64 2, (.slice (some ⟨g3, 0, none⟩) 2 2)], [.int .i64 3, (.slice (some ⟨g5, 0, none⟩) 1 1)]] [(GDomain.mk 1 [14, 15]), (GDomain.mk 2 [14, 15]), (GDomain.mk 3 [14])] := (SlK.lit hz5 rfl (Nat.le_refl _) (by decide)).toD (OwnD.mono (rep := GDomain.rep) (fun _ _ _ _ => GDomain.mono) hl7 le4_5) rfl; refine K.av (fun w hw => hw.freezeR (i := 4) (j := 2) (by decide) rfl rfl) ?_; rintro F6 ⟨le5_6, hz6⟩; dsimp only [List.set, List.eraseIdx]; have le1_6 := le1_5.trans le5_6; have hf6 : SlC F6.toFrz (.slice (some ⟨g10, 0, none⟩) 2 2) 5 ([(GPair.mk 1 2 0 14 51), (GPair.mk 2 3 0 14 51)].map GPair.enc) := (SlK.lit hz6 rfl (Nat.le_refl _) (by decide)).toF (xs := [(GPair.mk 1 2 0 14 51), (GPair.mk 2 3 0 14 51)]) rfl GPair.len; refine K.av (fun w hw => hw.freezeR (i := 3) (j := 1) (by decide) rfl rfl) ?_; rintro F7 ⟨le6_7, hz7⟩; dsimp only [List.set, List.eraseIdx]; have le1_7 := le1_6.trans le6_7; have le5_7 := le5_6.trans le6_7; have hf7 : SlC F7.toFrz (.slice (some ⟨g12, 0, none⟩) 1 1) 5 ([(GLoad.mk 3 1 7 14 51)].map GLoad.enc) := (SlK.lit hz7 rfl (Nat.le_refl _) (by decide)).toF (xs := [(GLoad.mk 3 1 7 14 51)]) rfl GLoad.len; refine K.av (fun w hw => hw.freezeR (i := 2) (j := 0) (by decide) rfl rfl) ?_; rintro F8 ⟨le7_8, hz8⟩; dsimp only [List.set, List.eraseIdx]; have le1_8 := le1_7.trans le7_8; have le5_8 := le5_7.trans le7_8; have le6_8 := le6_7.trans le7_8; have hf8 : SlC F8.toFrz (.slice (some ⟨g14, 0, none⟩) 1 1) 4 ([(GCap.mk 3 5 14 51)].map GCap.enc) := (SlK.lit hz8 rfl (Nat.le_refl _) (by decide)).toF (xs := [(GCap.mk 3 5 14 51)]) rfl GCap.len; subst hk; exact K.bF 0 rfl rfl rfl rfl (fun w' hw => ⟨((.slice (some ⟨g7, 0, none⟩) 3 3), [[.int .i64 1, (.slice (some ⟨g1, 0, none⟩) 2 2)], [.int .i64 2, (.slice (some ⟨g3, 0, none⟩) 2 2)], [.int .i64 3, (.slice (some ⟨g5, 0, none⟩) 1 1)]], (.slice (some ⟨g10, 0, none⟩) 2 2), (.slice (some ⟨g12, 0, none⟩) 1 1), (.slice (some ⟨g14, 0, none⟩) 1 1)), F8.toFrz, ⟨(SlD.mono (rep := GDomain.rep) (fun _ _ _ _ => GDomain.mono) hf5 le5_8), (SlC.mono hf6 le6_8), (SlC.mono hf7 le7_8), hf8⟩, rfl, Fx.of hw (i := 1) rfl hS0 le1_8⟩)
def za2 (a : Int) (b : Int) (c : Int) : List GChoice :=
  [(GChoice.mk 1 a), (GChoice.mk 2 b), (GChoice.mk 3 c)]
theorem zcn (F0 : Frz) (w : World) (hF0 : F0.At w) (a : Int) (b : Int) (c : Int) : Calls Try.prog 18 #[.int .i64 a, .int .i64 b, .int .i64 c] w fun e w' => ∃ (y : Value) (G : Frz), (SlC G y 2 ((za2 a b c).map GChoice.enc)) ∧ e = .returned (y) ∧ Fx F0 w G w' := by
  obtain ⟨r, hk⟩ : ∃ r, za2 a b c = r := ⟨_, rfl⟩; rw [hk]; unfold za2 at hk; obtain ⟨S0, F1, rfl, hS0, hp0⟩ := zao hF0; refine zar Try.func18 rfl rfl rfl hp0 ?_; refine T.sr ?_; refine TL.run 1 rfl ?_; refine TL.nx ?_; refine TL.run 1 rfl ?_; refine TL.y (Yv.build rfl rfl) ?_; refine TL.run 1 rfl ?_; refine TL.y (Yv.build rfl rfl) ?_; refine TL.run 1 rfl ?_; refine TL.y (Yv.build rfl rfl) ?_; refine TL.e (Ew.buildSlice rfl rfl rfl (by decide)) ?_; rintro _ _ ⟨g13, rfl, rfl⟩; refine TL.run 1 rfl ?_; refine TL.ns (T.ret ?_); refine K.av (fun w hw => hw.freezeR (i := 1) (j := 0) (by decide) rfl rfl) ?_; rintro F2 ⟨le1_2, hz2⟩; dsimp only [List.set, List.eraseIdx]; have hf2 : SlC F2.toFrz (.slice (some ⟨g13, 0, none⟩) 3 3) 2 ([(GChoice.mk 1 a), (GChoice.mk 2 b), (GChoice.mk 3 c)].map GChoice.enc) := (SlK.lit hz2 rfl (Nat.le_refl _) (by decide)).toF (xs := [(GChoice.mk 1 a), (GChoice.mk 2 b), (GChoice.mk 3 c)]) rfl GChoice.len; subst hk; exact K.ai rfl rfl (fun w' hw => ⟨(.slice (some ⟨g13, 0, none⟩) 3 3), F2.toFrz, hf2, rfl, Fx.of hw (i := 0) rfl hS0 le1_2⟩)
def zcq (l : List GChoice) (want : Int) : Option Bool :=
  (zdL (zaM) l).bind fun r10 =>
  some ((decide (r10.2 = 0)) && (decide (r10.1 = want)))
theorem zcY (F0 : Frz) (w : World) (hF0 : F0.At w) (l : List GChoice) (vl : Value) (hl : SlC F0 vl 2 (l.map GChoice.enc)) (want : Int) (r : Bool) (hr : zcq l want = some r) : Calls Try.prog 19 #[vl, .int .i64 want] w fun e w' => e = .returned (.bool r) ∧ Below w.heap.size w w' := by
  have hk := hr; unfold zcq at hk; haveI := hl.oneC; obtain ⟨S0, F1, rfl, hS0, hp0⟩ := zao hF0; refine zar Try.func19 rfl rfl rfl hp0 ?_; refine T.sr ?_; refine TL.run 1 rfl ?_; refine TL.ns (T.seq ?_); have hq := zak hk; clear hk; obtain ⟨r10, hr10, hk⟩ := hq; (try dsimp only at hk); refine T.region ?_; refine TL.e (Ew.aA 0 rfl rfl rfl rfl (fun w hw hF => zbX _ w hF )) ?_; rintro _ _ ⟨⟨v8_0_0, cs8_0_0, v8_0_1, v8_0_2, v8_0_3⟩, F2, le1_2, ⟨hf8_0_0, hf8_0_1, hf8_0_2, hf8_0_3⟩, rfl, rfl⟩; dsimp only at hf8_0_0 hf8_0_1 hf8_0_2 hf8_0_3 ⊢; haveI := hf8_0_0.1.oneC; haveI := hf8_0_1.oneC; haveI := hf8_0_2.oneC; haveI := hf8_0_3.oneC; refine TL.run 1 rfl ?_; refine TL.e (Ew.ag rfl rfl rfl (fun w hw => zf2 _ w (hw.fr (i := 0) rfl) (zaM) v8_0_0 cs8_0_0 hf8_0_0 v8_0_1 hf8_0_1 v8_0_2 hf8_0_2 v8_0_3 hf8_0_3 l vl (SlC.mono hl le1_2) r10 hr10)) ?_; rintro _ _ ⟨rfl, rfl⟩; refine TL.run 5 rfl ?_; refine TL.ns (T.seq ?_); refine T.ae (ι := Unit) (fun z => [(4, .bool ((decide (r10.2 = 0)) && (decide (r10.1 = want))))]) (fun z => [.fr F2]) (fun z => True) ?_ ?_
  · refine T.region ?_; refine TL.run 3 rfl ?_; refine TL.gs rfl rfl rfl (fun h1 => ?_) (fun h1 => ?_)
    · have p1 := of_decide_eq_true h1; refine TL.run 5 rfl ?_; refine TL.nil ?_; exact K.af () trivial (.b (zdy h1) .nil) (List.Sublist.refl _)
    · have p1 := of_decide_eq_false h1; refine TL.run 5 rfl ?_; refine TL.nil ?_; exact K.af () trivial (.b (za9 h1).symm .nil) (List.Sublist.refl _)
  · rintro _ _; refine T.ret ?_; obtain rfl := Option.some.inj hk; exact K.ai rfl rfl (fun w' hw => ⟨rfl, hw.isBelow⟩)
def zco (fuel : Nat)  : Option Bool :=
  (zcd (zaM) []).bind fun r9 =>
  (zcz (zaM) r9.1).bind fun r15 =>
  zaK (fun (x_1 : Bool) =>
    (bif x_1 then
      some false
      else
      (zcd (zaM) [(GChoice.mk 1 15), (GChoice.mk 2 16), (GChoice.mk 9 14)]).bind fun r47 =>
      (zcz (zaM) r47.1).bind fun r53 =>
      zaK (fun (x_8 : Bool) =>
        (bif x_8 then
          some false
          else
          grd (0 ≤ 2 ∧ 2 ≤ ((za2 15 14 14).length : Int)) <|
          (zbr fuel (zaM) ((za2 15 14 14).take 2) 7 0).bind fun r83 =>
          zaK (fun (x_15 : Bool) =>
            (bif x_15 then
              some false
              else
              (zbr fuel (zaM) [] (-1) 100).bind fun r115 =>
              some (((decide (r115.2.2.2 = 0)) && (decide (r115.2.1 = 100))) && (!r115.2.2.1))))
          (fun k16 =>
            (bif decide (¬ r83.2.2.2 = 0) then
              k16 true
              else
              (bif decide (¬ r83.2.1 = 0) then
                k16 true
                else
                (bif r83.2.2.1 then
                  k16 true
                  else
                  (bif !(zbd r83.1 (za2 15 14 14)) then
                    k16 true
                    else
                    (zcq (za2 14 15 14) 1).bind fun r105 =>
                    (bif !r105 then
                      k16 true
                      else
                      (zcq (za2 15 15 14) 1).bind fun r110 =>
                      k16 (!r110)))))))))
      (fun k9 =>
        (bif decide (¬ r47.2 = 0) then
          k9 true
          else
          (bif decide (¬ r53.2 = 0) then
            k9 true
            else
            (bif !(zbd r47.1 (za2 15 14 14)) then
              k9 true
              else
              (zcq r47.1 1).bind fun r70 =>
              (bif !r70 then
                k9 true
                else
                k9 (!(zbB r53.1 [2, 3])))))))))
  (fun k2 =>
    (bif decide (¬ r9.2 = 0) then
      k2 true
      else
      (bif decide (¬ r15.2 = 0) then
        k2 true
        else
        (bif !(zbd r9.1 (za2 14 14 14)) then
          k2 true
          else
          (zcq r9.1 3).bind fun r32 =>
          (bif !r32 then
            k2 true
            else
            k2 (!(zbB r15.1 [1, 2, 3])))))))
theorem zds (F0 : Frz) (w : World) (hF0 : F0.At w)  (fuel : Nat) (r : Bool) (hr : zco fuel = some r) : Calls Try.prog 7 #[] w fun e w' => e = .returned (.bool r) ∧ Below w.heap.size w w' := by
  have hk := hr; unfold zco at hk; obtain ⟨S0, F1, rfl, hS0, hp0⟩ := zao hF0; refine zar Try.func7 rfl rfl rfl hp0 ?_; refine T.sr ?_; refine TL.run 1 rfl ?_; refine TL.ns (T.seq ?_); have hq := zak hk; clear hk; obtain ⟨r9, hr9, hk⟩ := hq; (try dsimp only at hk); refine T.region ?_; refine TL.e (Ew.aA 0 rfl rfl rfl rfl (fun w hw hF => zbX _ w hF )) ?_; rintro _ _ ⟨⟨v8_0_0, cs8_0_0, v8_0_1, v8_0_2, v8_0_3⟩, F2, le1_2, ⟨hf8_0_0, hf8_0_1, hf8_0_2, hf8_0_3⟩, rfl, rfl⟩; dsimp only at hf8_0_0 hf8_0_1 hf8_0_2 hf8_0_3 ⊢; haveI := hf8_0_0.1.oneC; haveI := hf8_0_1.oneC; haveI := hf8_0_2.oneC; haveI := hf8_0_3.oneC; refine TL.e (Ew.as [0] [] [] rfl rfl rfl rfl (by decide) (fun w hw hw2 hF => zdr _ w hF (zaM) v8_0_0 cs8_0_0 hf8_0_0 v8_0_1 hf8_0_1 v8_0_2 hf8_0_2 v8_0_3 hf8_0_3 [] (.slice none 0 0) (SlC.nil _ 2) r9 hr9)) ?_; rintro _ _ ⟨v9_0_0, -, rfl, rfl⟩; dsimp only [List.cons_append, List.nil_append]; refine TL.aC 0 rfl ?_; intro iv9_0_0 hmv9_0_0; refine TL.run 5 rfl ?_; refine TL.ns (T.seq ?_); refine T.av (fun w hw => hw.freezeS (i := 1) (j := 0) (by decide) rfl rfl) ?_; rintro F3 ⟨le2_3, hz3⟩; dsimp only [List.set, List.eraseIdx]; have hf3 := hz3.toF rfl GChoice.len; haveI := hf3.oneC; have hq := zak hk; clear hk; obtain ⟨r15, hr15, hk⟩ := hq; (try dsimp only at hk); refine T.region ?_; refine TL.e (Ew.aA 0 rfl rfl rfl rfl (fun w hw hF => zbX _ w hF )) ?_; rintro _ _ ⟨⟨v13_0_0, cs13_0_0, v13_0_1, v13_0_2, v13_0_3⟩, F4, le3_4, ⟨hf13_0_0, hf13_0_1, hf13_0_2, hf13_0_3⟩, rfl, rfl⟩; dsimp only at hf13_0_0 hf13_0_1 hf13_0_2 hf13_0_3 ⊢; haveI := hf13_0_0.1.oneC; haveI := hf13_0_1.oneC; haveI := hf13_0_2.oneC; haveI := hf13_0_3.oneC; refine TL.run 1 rfl ?_; refine TL.e (Ew.aA 0 rfl rfl rfl rfl (fun w hw hF => zdu _ w hF (zaM) v13_0_0 cs13_0_0 hf13_0_0 v13_0_1 hf13_0_1 v13_0_2 hf13_0_2 v13_0_3 hf13_0_3 r9.1 v9_0_0 (SlC.mono hf3 le3_4) r15 hr15)) ?_; rintro _ _ ⟨v15_0_0, F5, le4_5, hf15_0_0, rfl, rfl⟩; have le3_5 := le3_4.trans le4_5; haveI := hf15_0_0.oneC; refine TL.run 5 rfl ?_; refine TL.ns (T.seq (T.seq ?_)); (try dsimp only at hk); have hq := zae hk; clear hk; obtain ⟨k2, hk2, hk⟩ := hq; (try dsimp only at hk); refine T.ae (ι := Bool × FzB w (fun _ => False) S0) (fun z => [(40, .bool z.1)]) (fun z => [.fr z.2]) (fun z => k2 z.1 = some r ∧ F5.toFrz.Le z.2.toFrz) ?_ ?_
  · refine T.region ?_; refine TL.run 3 rfl ?_; refine TL.gs rfl rfl rfl (fun h3 => ?_) (fun h3 => ?_)
    · have p3 := of_decide_eq_true h3; replace hk := zab hk h3; refine TL.run 20 rfl ?_; refine TL.nil ?_; exact K.af (true, F5) ⟨hk, (Frz.Le.refl _)⟩ (.c .nil) (List.Sublist.refl _)
    · have p3 := of_decide_eq_false h3; replace hk := zaa hk h3; refine TL.run 4 rfl ?_; refine TL.gs rfl rfl rfl (fun h4 => ?_) (fun h4 => ?_)
      · have p4 := of_decide_eq_true h4; replace hk := zab hk h4; refine TL.run 16 rfl ?_; refine TL.nil ?_; exact K.af (true, F5) ⟨hk, (Frz.Le.refl _)⟩ (.c .nil) (List.Sublist.refl _)
      · have p4 := of_decide_eq_false h4; replace hk := zaa hk h4; refine TL.run 1 rfl ?_; refine TL.e (Ew.aA 0 rfl rfl rfl rfl (fun w hw hF => zcn _ w hF 14 14 14)) ?_; rintro _ _ ⟨v26_0_0, F7, le5_7, hf26_0_0, hq, rfl⟩; obtain rfl := hq.symm; have le3_7 := le3_5.trans le5_7; haveI := hf26_0_0.oneC; refine TL.e (Ew.ag rfl rfl rfl (fun w hw => zce _ w (hw.fr (i := 0) rfl) r9.1 v9_0_0 (SlC.mono hf3 le3_7) (za2 14 14 14) v26_0_0 hf26_0_0)) ?_; rintro _ _ ⟨rfl, rfl⟩; refine TL.run 3 rfl ?_; refine TL.gs rfl rfl rfl (fun h5 => ?_) (fun h5 => ?_)
        · replace hk := zab hk h5; refine TL.run 10 rfl ?_; refine TL.nil ?_; exact K.af (true, F7) ⟨hk, le5_7⟩ (.c .nil) (List.Sublist.refl _)
        · replace hk := zaa hk h5; refine TL.run 1 rfl ?_; have hq := zak hk; clear hk; obtain ⟨r32, hr32, hk⟩ := hq; refine TL.e (Ew.ag rfl rfl rfl (fun w hw => zcY _ w (hw.fr (i := 0) rfl) r9.1 v9_0_0 (SlC.mono hf3 le3_7) 3 r32 hr32)) ?_; rintro _ _ ⟨rfl, rfl⟩; refine TL.run 3 rfl ?_; refine TL.gs rfl rfl rfl (fun h6 => ?_) (fun h6 => ?_)
          · replace hk := zab hk h6; refine TL.run 5 rfl ?_; refine TL.nil ?_; exact K.af (true, F7) ⟨hk, le5_7⟩ (.c .nil) (List.Sublist.refl _)
          · replace hk := zaa hk h6; refine TL.run 1 rfl ?_; refine TL.e (Ew.buildSlice rfl rfl rfl (by decide)) ?_; rintro _ _ ⟨g37, rfl, rfl⟩; refine TL.av (fun w hw => hw.freezeR (i := 1) (j := 0) (by decide) rfl rfl) ?_; rintro F8 ⟨le7_8, hz8⟩; dsimp only [List.set, List.eraseIdx]; have le5_8 := le5_7.trans le7_8; have hf8 : SlC F8.toFrz (.slice (some ⟨g37, 0, none⟩) 3 3) 1 ([1, 2, 3].map eI) := (SlK.lit hz8 rfl (Nat.le_refl _) (by decide)).toF (xs := [1, 2, 3]) rfl (fun _ => rfl); refine TL.e (Ew.ag rfl rfl rfl (fun w hw => zdv _ w (hw.fr (i := 0) rfl) r15.1 v15_0_0 (SlC.mono hf15_0_0 le5_8) [1, 2, 3] (.slice (some ⟨g37, 0, none⟩) 3 3) hf8)) ?_; rintro _ _ ⟨rfl, rfl⟩; refine TL.run 2 rfl ?_; refine TL.nil ?_; exact K.af (!(zbB r15.1 [1, 2, 3]), F8) ⟨hk, le5_8⟩ (.c .nil) (List.Sublist.refl _)
  · rintro ⟨x_1, F6⟩ ⟨hk, le5_6⟩; (try dsimp only at *); rw [← hk2] at hk; (try dsimp only at hk); refine T.cond rfl (fun h7 => ?_) (fun h7 => ?_)
    · replace hk := zab hk h7; refine T.sr ?_; refine TL.run 1 rfl ?_; refine TL.ns (T.ret (K.ab ?_)); obtain rfl := Option.some.inj hk; exact K.ai rfl rfl (fun w' hw => ⟨rfl, hw.isBelow⟩)
    · replace hk := zaa hk h7; refine T.skip (K.seq (T.seq ?_)); have hq := zak hk; clear hk; obtain ⟨r47, hr47, hk⟩ := hq; (try dsimp only at hk); refine T.region ?_; refine TL.e (Ew.aA 0 rfl rfl rfl rfl (fun w hw hF => zbX _ w hF )) ?_; rintro _ _ ⟨⟨v42_0_0, cs42_0_0, v42_0_1, v42_0_2, v42_0_3⟩, F9, le6_9, ⟨hf42_0_0, hf42_0_1, hf42_0_2, hf42_0_3⟩, rfl, rfl⟩; dsimp only at hf42_0_0 hf42_0_1 hf42_0_2 hf42_0_3 ⊢; haveI := hf42_0_0.1.oneC; haveI := hf42_0_1.oneC; haveI := hf42_0_2.oneC; haveI := hf42_0_3.oneC; refine TL.y (Yv.build rfl rfl) ?_; refine TL.y (Yv.build rfl rfl) ?_; refine TL.y (Yv.build rfl rfl) ?_; refine TL.e (Ew.buildSlice rfl rfl rfl (by decide)) ?_; rintro _ _ ⟨g46, rfl, rfl⟩; refine TL.av (fun w hw => hw.freezeR (i := 1) (j := 0) (by decide) rfl rfl) ?_; rintro F10 ⟨le9_10, hz10⟩; dsimp only [List.set, List.eraseIdx]; have hf10 : SlC F10.toFrz (.slice (some ⟨g46, 0, none⟩) 3 3) 2 ([(GChoice.mk 1 15), (GChoice.mk 2 16), (GChoice.mk 9 14)].map GChoice.enc) := (SlK.lit hz10 rfl (Nat.le_refl _) (by decide)).toF (xs := [(GChoice.mk 1 15), (GChoice.mk 2 16), (GChoice.mk 9 14)]) rfl GChoice.len; refine TL.e (Ew.as [0] [] [] rfl rfl rfl rfl (by decide) (fun w hw hw2 hF => zdr _ w hF (zaM) v42_0_0 cs42_0_0 (SlD.mono (rep := GDomain.rep) (fun _ _ _ _ => GDomain.mono) hf42_0_0 le9_10) v42_0_1 (SlC.mono hf42_0_1 le9_10) v42_0_2 (SlC.mono hf42_0_2 le9_10) v42_0_3 (SlC.mono hf42_0_3 le9_10) [(GChoice.mk 1 15), (GChoice.mk 2 16), (GChoice.mk 9 14)] (.slice (some ⟨g46, 0, none⟩) 3 3) hf10 r47 hr47)) ?_; rintro _ _ ⟨v47_0_0, -, rfl, rfl⟩; dsimp only [List.cons_append, List.nil_append]; refine TL.aC 0 rfl ?_; intro iv47_0_0 hmv47_0_0; refine TL.run 5 rfl ?_; refine TL.ns (T.seq ?_); refine T.av (fun w hw => hw.freezeS (i := 1) (j := 0) (by decide) rfl rfl) ?_; rintro F11 ⟨le10_11, hz11⟩; dsimp only [List.set, List.eraseIdx]; have hf11 := hz11.toF rfl GChoice.len; haveI := hf11.oneC; have hq := zak hk; clear hk; obtain ⟨r53, hr53, hk⟩ := hq; (try dsimp only at hk); refine T.region ?_; refine TL.e (Ew.aA 0 rfl rfl rfl rfl (fun w hw hF => zbX _ w hF )) ?_; rintro _ _ ⟨⟨v51_0_0, cs51_0_0, v51_0_1, v51_0_2, v51_0_3⟩, F12, le11_12, ⟨hf51_0_0, hf51_0_1, hf51_0_2, hf51_0_3⟩, rfl, rfl⟩; dsimp only at hf51_0_0 hf51_0_1 hf51_0_2 hf51_0_3 ⊢; haveI := hf51_0_0.1.oneC; haveI := hf51_0_1.oneC; haveI := hf51_0_2.oneC; haveI := hf51_0_3.oneC; refine TL.run 1 rfl ?_; refine TL.e (Ew.aA 0 rfl rfl rfl rfl (fun w hw hF => zdu _ w hF (zaM) v51_0_0 cs51_0_0 hf51_0_0 v51_0_1 hf51_0_1 v51_0_2 hf51_0_2 v51_0_3 hf51_0_3 r47.1 v47_0_0 (SlC.mono hf11 le11_12) r53 hr53)) ?_; rintro _ _ ⟨v53_0_0, F13, le12_13, hf53_0_0, rfl, rfl⟩; have le11_13 := le11_12.trans le12_13; haveI := hf53_0_0.oneC; refine TL.run 5 rfl ?_; refine TL.ns (T.seq (T.seq ?_)); (try dsimp only at hk); have hq := zae hk; clear hk; obtain ⟨k9, hk9, hk⟩ := hq; (try dsimp only at hk); refine T.ae (ι := Bool × FzB w (fun _ => False) S0) (fun z => [(78, .bool z.1)]) (fun z => [.fr z.2]) (fun z => k9 z.1 = some r ∧ F13.toFrz.Le z.2.toFrz) ?_ ?_
      · refine T.region ?_; refine TL.run 3 rfl ?_; refine TL.gs rfl rfl rfl (fun h10 => ?_) (fun h10 => ?_)
        · have p10 := of_decide_eq_true h10; replace hk := zab hk h10; refine TL.run 20 rfl ?_; refine TL.nil ?_; exact K.af (true, F13) ⟨hk, (Frz.Le.refl _)⟩ (.c .nil) (List.Sublist.refl _)
        · have p10 := of_decide_eq_false h10; replace hk := zaa hk h10; refine TL.run 4 rfl ?_; refine TL.gs rfl rfl rfl (fun h11 => ?_) (fun h11 => ?_)
          · have p11 := of_decide_eq_true h11; replace hk := zab hk h11; refine TL.run 16 rfl ?_; refine TL.nil ?_; exact K.af (true, F13) ⟨hk, (Frz.Le.refl _)⟩ (.c .nil) (List.Sublist.refl _)
          · have p11 := of_decide_eq_false h11; replace hk := zaa hk h11; refine TL.run 1 rfl ?_; refine TL.e (Ew.aA 0 rfl rfl rfl rfl (fun w hw hF => zcn _ w hF 15 14 14)) ?_; rintro _ _ ⟨v64_0_0, F15, le13_15, hf64_0_0, hq, rfl⟩; obtain rfl := hq.symm; have le11_15 := le11_13.trans le13_15; haveI := hf64_0_0.oneC; refine TL.e (Ew.ag rfl rfl rfl (fun w hw => zce _ w (hw.fr (i := 0) rfl) r47.1 v47_0_0 (SlC.mono hf11 le11_15) (za2 15 14 14) v64_0_0 hf64_0_0)) ?_; rintro _ _ ⟨rfl, rfl⟩; refine TL.run 3 rfl ?_; refine TL.gs rfl rfl rfl (fun h12 => ?_) (fun h12 => ?_)
            · replace hk := zab hk h12; refine TL.run 10 rfl ?_; refine TL.nil ?_; exact K.af (true, F15) ⟨hk, le13_15⟩ (.c .nil) (List.Sublist.refl _)
            · replace hk := zaa hk h12; refine TL.run 1 rfl ?_; have hq := zak hk; clear hk; obtain ⟨r70, hr70, hk⟩ := hq; refine TL.e (Ew.ag rfl rfl rfl (fun w hw => zcY _ w (hw.fr (i := 0) rfl) r47.1 v47_0_0 (SlC.mono hf11 le11_15) 1 r70 hr70)) ?_; rintro _ _ ⟨rfl, rfl⟩; refine TL.run 3 rfl ?_; refine TL.gs rfl rfl rfl (fun h13 => ?_) (fun h13 => ?_)
              · replace hk := zab hk h13; refine TL.run 5 rfl ?_; refine TL.nil ?_; exact K.af (true, F15) ⟨hk, le13_15⟩ (.c .nil) (List.Sublist.refl _)
              · replace hk := zaa hk h13; refine TL.run 1 rfl ?_; refine TL.e (Ew.buildSlice rfl rfl rfl (by decide)) ?_; rintro _ _ ⟨g75, rfl, rfl⟩; refine TL.av (fun w hw => hw.freezeR (i := 1) (j := 0) (by decide) rfl rfl) ?_; rintro F16 ⟨le15_16, hz16⟩; dsimp only [List.set, List.eraseIdx]; have le13_16 := le13_15.trans le15_16; have hf16 : SlC F16.toFrz (.slice (some ⟨g75, 0, none⟩) 2 2) 1 ([2, 3].map eI) := (SlK.lit hz16 rfl (Nat.le_refl _) (by decide)).toF (xs := [2, 3]) rfl (fun _ => rfl); refine TL.e (Ew.ag rfl rfl rfl (fun w hw => zdv _ w (hw.fr (i := 0) rfl) r53.1 v53_0_0 (SlC.mono hf53_0_0 le13_16) [2, 3] (.slice (some ⟨g75, 0, none⟩) 2 2) hf16)) ?_; rintro _ _ ⟨rfl, rfl⟩; refine TL.run 2 rfl ?_; refine TL.nil ?_; exact K.af (!(zbB r53.1 [2, 3]), F16) ⟨hk, le13_16⟩ (.c .nil) (List.Sublist.refl _)
      · rintro ⟨x_8, F14⟩ ⟨hk, le13_14⟩; (try dsimp only at *); rw [← hk9] at hk; (try dsimp only at hk); refine T.cond rfl (fun h14 => ?_) (fun h14 => ?_)
        · replace hk := zab hk h14; refine T.sr ?_; refine TL.run 1 rfl ?_; refine TL.ns (T.ret (K.ab ?_)); obtain rfl := Option.some.inj hk; exact K.ai rfl rfl (fun w' hw => ⟨rfl, hw.isBelow⟩)
        · replace hk := zaa hk h14; refine T.skip (K.seq (T.seq ?_)); have hq : (0 ≤ 2 ∧ 2 ≤ ((za2 15 14 14).length : Int)) ∧ _ := zap hk; clear hk; obtain ⟨g82h, hk⟩ := hq; have hq := zak hk; clear hk; obtain ⟨r83, hr83, hk⟩ := hq; (try dsimp only at hk); refine T.region ?_; refine TL.e (Ew.aA 0 rfl rfl rfl rfl (fun w hw hF => zbX _ w hF )) ?_; rintro _ _ ⟨⟨v80_0_0, cs80_0_0, v80_0_1, v80_0_2, v80_0_3⟩, F17, le14_17, ⟨hf80_0_0, hf80_0_1, hf80_0_2, hf80_0_3⟩, rfl, rfl⟩; dsimp only at hf80_0_0 hf80_0_1 hf80_0_2 hf80_0_3 ⊢; haveI := hf80_0_0.1.oneC; haveI := hf80_0_1.oneC; haveI := hf80_0_2.oneC; haveI := hf80_0_3.oneC; refine TL.e (Ew.aA 0 rfl rfl rfl rfl (fun w hw hF => zcn _ w hF 15 14 14)) ?_; rintro _ _ ⟨v81_0_0, F18, le17_18, hf81_0_0, hq, rfl⟩; obtain rfl := hq.symm; haveI := hf81_0_0.oneC; refine TL.y (Yv.bY (i := 2) rfl rfl rfl hf81_0_0 (List.length_map _) (show (2 : Int) = ((2 : Nat) : Int) from rfl) (by omega)) ?_; have hs82_ : SlC F18.toFrz (zeL v81_0_0 0 2 2) 2 (((za2 15 14 14).take 2).map GChoice.enc) := hf81_0_0.sliceh (i := 2) (by omega); haveI := hs82_.oneC; refine TL.e (Ew.aA 0 rfl rfl rfl rfl (fun w hw hF => zcK _ w hF (zaM) v80_0_0 cs80_0_0 (SlD.mono (rep := GDomain.rep) (fun _ _ _ _ => GDomain.mono) hf80_0_0 le17_18) v80_0_1 (SlC.mono hf80_0_1 le17_18) v80_0_2 (SlC.mono hf80_0_2 le17_18) v80_0_3 (SlC.mono hf80_0_3 le17_18) ((za2 15 14 14).take 2) (zeL v81_0_0 0 2 2) hs82_ 7 0 fuel r83 hr83)) ?_; rintro _ _ ⟨v83_0_0, F19, le18_19, hf83_0_0, rfl, rfl⟩; haveI := hf83_0_0.oneC; refine TL.run 9 rfl ?_; refine TL.ns (T.seq (T.seq ?_)); (try dsimp only at hk); have hq := zae hk; clear hk; obtain ⟨k16, hk16, hk⟩ := hq; (try dsimp only at hk); refine T.ae (ι := Bool × FzB w (fun _ => False) S0) (fun z => [(112, .bool z.1)]) (fun z => [.fr z.2]) (fun z => k16 z.1 = some r ∧ F19.toFrz.Le z.2.toFrz) ?_ ?_
          · refine T.region ?_; refine TL.run 3 rfl ?_; refine TL.gs rfl rfl rfl (fun h17 => ?_) (fun h17 => ?_)
            · have p17 := of_decide_eq_true h17; replace hk := zab hk h17; refine TL.run 22 rfl ?_; refine TL.nil ?_; exact K.af (true, F19) ⟨hk, (Frz.Le.refl _)⟩ (.c .nil) (List.Sublist.refl _)
            · have p17 := of_decide_eq_false h17; replace hk := zaa hk h17; refine TL.run 4 rfl ?_; refine TL.gs rfl rfl rfl (fun h18 => ?_) (fun h18 => ?_)
              · have p18 := of_decide_eq_true h18; replace hk := zab hk h18; refine TL.run 18 rfl ?_; refine TL.nil ?_; exact K.af (true, F19) ⟨hk, (Frz.Le.refl _)⟩ (.c .nil) (List.Sublist.refl _)
              · have p18 := of_decide_eq_false h18; replace hk := zaa hk h18; refine TL.run 3 rfl ?_; refine TL.gs rfl rfl rfl (fun h19 => ?_) (fun h19 => ?_)
                · replace hk := zab hk h19; refine TL.run 15 rfl ?_; refine TL.nil ?_; exact K.af (true, F19) ⟨hk, (Frz.Le.refl _)⟩ (.c .nil) (List.Sublist.refl _)
                · replace hk := zaa hk h19; refine TL.run 1 rfl ?_; refine TL.e (Ew.aA 0 rfl rfl rfl rfl (fun w hw hF => zcn _ w hF 15 14 14)) ?_; rintro _ _ ⟨v99_0_0, F21, le19_21, hf99_0_0, hq, rfl⟩; obtain rfl := hq.symm; haveI := hf99_0_0.oneC; refine TL.e (Ew.ag rfl rfl rfl (fun w hw => zce _ w (hw.fr (i := 0) rfl) r83.1 v83_0_0 (SlC.mono hf83_0_0 le19_21) (za2 15 14 14) v99_0_0 hf99_0_0)) ?_; rintro _ _ ⟨rfl, rfl⟩; refine TL.run 3 rfl ?_; refine TL.gs rfl rfl rfl (fun h20 => ?_) (fun h20 => ?_)
                  · replace hk := zab hk h20; refine TL.run 9 rfl ?_; refine TL.nil ?_; exact K.af (true, F21) ⟨hk, le19_21⟩ (.c .nil) (List.Sublist.refl _)
                  · replace hk := zaa hk h20; refine TL.e (Ew.aA 0 rfl rfl rfl rfl (fun w hw hF => zcn _ w hF 14 15 14)) ?_; rintro _ _ ⟨v104_0_0, F22, le21_22, hf104_0_0, hq, rfl⟩; obtain rfl := hq.symm; have le19_22 := le19_21.trans le21_22; haveI := hf104_0_0.oneC; have hq := zak hk; clear hk; obtain ⟨r105, hr105, hk⟩ := hq; refine TL.e (Ew.ag rfl rfl rfl (fun w hw => zcY _ w (hw.fr (i := 0) rfl) (za2 14 15 14) v104_0_0 hf104_0_0 1 r105 hr105)) ?_; rintro _ _ ⟨rfl, rfl⟩; refine TL.run 3 rfl ?_; refine TL.gs rfl rfl rfl (fun h21 => ?_) (fun h21 => ?_)
                    · replace hk := zab hk h21; refine TL.run 4 rfl ?_; refine TL.nil ?_; exact K.af (true, F22) ⟨hk, le19_22⟩ (.c .nil) (List.Sublist.refl _)
                    · replace hk := zaa hk h21; refine TL.e (Ew.aA 0 rfl rfl rfl rfl (fun w hw hF => zcn _ w hF 15 15 14)) ?_; rintro _ _ ⟨v109_0_0, F23, le22_23, hf109_0_0, hq, rfl⟩; obtain rfl := hq.symm; have le19_23 := le19_22.trans le22_23; haveI := hf109_0_0.oneC; have hq := zak hk; clear hk; obtain ⟨r110, hr110, hk⟩ := hq; refine TL.e (Ew.ag rfl rfl rfl (fun w hw => zcY _ w (hw.fr (i := 0) rfl) (za2 15 15 14) v109_0_0 hf109_0_0 1 r110 hr110)) ?_; rintro _ _ ⟨rfl, rfl⟩; refine TL.run 2 rfl ?_; refine TL.nil ?_; exact K.af (!r110, F23) ⟨hk, le19_23⟩ (.c .nil) (List.Sublist.refl _)
          · rintro ⟨x_15, F20⟩ ⟨hk, le19_20⟩; (try dsimp only at *); rw [← hk16] at hk; (try dsimp only at hk); refine T.cond rfl (fun h22 => ?_) (fun h22 => ?_)
            · replace hk := zab hk h22; refine T.sr ?_; refine TL.run 1 rfl ?_; refine TL.ns (T.ret (K.ab ?_)); obtain rfl := Option.some.inj hk; exact K.ai rfl rfl (fun w' hw => ⟨rfl, hw.isBelow⟩)
            · replace hk := zaa hk h22; refine T.skip (K.seq (T.seq ?_)); have hq := zak hk; clear hk; obtain ⟨r115, hr115, hk⟩ := hq; (try dsimp only at hk); refine T.region ?_; refine TL.e (Ew.aA 0 rfl rfl rfl rfl (fun w hw hF => zbX _ w hF )) ?_; rintro _ _ ⟨⟨v114_0_0, cs114_0_0, v114_0_1, v114_0_2, v114_0_3⟩, F24, le20_24, ⟨hf114_0_0, hf114_0_1, hf114_0_2, hf114_0_3⟩, rfl, rfl⟩; dsimp only at hf114_0_0 hf114_0_1 hf114_0_2 hf114_0_3 ⊢; haveI := hf114_0_0.1.oneC; haveI := hf114_0_1.oneC; haveI := hf114_0_2.oneC; haveI := hf114_0_3.oneC; refine TL.e (Ew.aA 0 rfl rfl rfl rfl (fun w hw hF => zcK _ w hF (zaM) v114_0_0 cs114_0_0 hf114_0_0 v114_0_1 hf114_0_1 v114_0_2 hf114_0_2 v114_0_3 hf114_0_3 [] (.slice none 0 0) (SlC.nil _ 2) (-1) 100 fuel r115 hr115)) ?_; rintro _ _ ⟨v115_0_0, F25, le24_25, hf115_0_0, rfl, rfl⟩; haveI := hf115_0_0.oneC; refine TL.run 8 rfl ?_; refine TL.ns (T.seq ?_); refine T.ae (ι := Unit) (fun z => [(0, .bool (((decide (r115.2.2.2 = 0)) && (decide (r115.2.1 = 100))) && (!r115.2.2.1)))]) (fun z => [.fr F25]) (fun z => True) ?_ ?_
              · refine T.region ?_; refine TL.run 3 rfl ?_; refine TL.gs rfl rfl rfl (fun h23 => ?_) (fun h23 => ?_)
                · have p23 := of_decide_eq_true h23; refine TL.run 4 rfl ?_; refine TL.gs rfl rfl rfl (fun h24 => ?_) (fun h24 => ?_)
                  · have p24 := of_decide_eq_true h24; refine TL.run 4 rfl ?_; refine TL.nil ?_; exact K.af () trivial (.b (zdy (zby h23 h24)) .nil) (List.Sublist.refl _)
                  · have p24 := of_decide_eq_false h24; refine TL.run 4 rfl ?_; refine TL.nil ?_; exact K.af () trivial (.b (za9 (zby h23 h24)).symm .nil) (List.Sublist.refl _)
                · have p23 := of_decide_eq_false h23; refine TL.run 8 rfl ?_; refine TL.nil ?_; exact K.af () trivial (.b (za9 (za9 h23)).symm .nil) (List.Sublist.refl _)
              · rintro _ _; refine T.ret ?_; obtain rfl := Option.some.inj hk; exact K.ai rfl rfl (fun w' hw => ⟨rfl, hw.isBelow⟩)
def zcX (fuel : Nat) (p : GProblem) : Option Bool :=
  (zcI fuel p 10 40).bind fun r4 =>
  some r4
theorem zfz (F0 : Frz) (w : World) (hF0 : F0.At w) (p : GProblem) (vp_0 : Value) (cp_0 : List (List Value)) (hp_0 : SlD GDomain.rep F0 vp_0 2 cp_0 p.Domains) (vp_1 : Value) (hp_1 : SlC F0 vp_1 5 (p.Rules.Pairs.map GPair.enc)) (vp_2 : Value) (hp_2 : SlC F0 vp_2 5 (p.Rules.Loads.map GLoad.enc)) (vp_3 : Value) (hp_3 : SlC F0 vp_3 4 (p.Rules.Caps.map GCap.enc)) (fuel : Nat) (r : Bool) (hr : zcX fuel p = some r) : Calls Try.prog 4 #[.agg [vp_0, vp_1, vp_2, vp_3].toArray] w fun e w' => e = .returned (.bool r) ∧ Below w.heap.size w w' := by
  have hk := hr; unfold zcX at hk; haveI := hp_0.1.oneC; haveI := hp_1.oneC; haveI := hp_2.oneC; haveI := hp_3.oneC; obtain ⟨S0, F1, rfl, hS0, hp0⟩ := zao hF0; refine zar Try.func4 rfl rfl rfl hp0 ?_; refine T.sr ?_; refine TL.e (Ew.az rfl rfl) ?_; rintro _ _ ⟨g1, rfl, rfl⟩; refine TL.run 1 rfl ?_; refine TL.ns (T.seq ?_); have hq := zak hk; clear hk; obtain ⟨r4, hr4, hk⟩ := hq; (try dsimp only at hk); refine T.region ?_; refine TL.y (Yv.ak 0 rfl rfl rfl rfl) ?_; refine TL.e (Ew.ag rfl rfl rfl (fun w hw => zfs _ w (hw.fr (i := 1) rfl) p vp_0 cp_0 hp_0 vp_1 hp_1 vp_2 hp_2 vp_3 hp_3 10 40 fuel r4 hr4)) ?_; rintro _ _ ⟨rfl, rfl⟩; refine TL.run 1 rfl ?_; refine TL.ns (T.ret ?_); obtain rfl := Option.some.inj hk; exact K.ai rfl rfl (fun w' hw => ⟨rfl, hw.isBelow⟩)
def zci (fuel : Nat) (p : GProblem) (hints : List GChoice) (seed : Int) : Option Bool :=
  (zcX fuel p).bind fun r23 =>
  zaK (fun (x_1 : Bool) =>
    (bif x_1 then
      (zco fuel).bind fun r40 =>
      some r40
      else
      zaK (fun (fit_7 : List GChoice) =>
        (zbr fuel p hints seed 10).bind fun r81 =>
        (zbr fuel p fit_7 seed 10).bind fun r90 =>
        (bif ((((decide (¬ r81.2.2.2 = r90.2.2.2)) || (decide (¬ r81.2.1 = r90.2.1))) || (!(r81.2.2.1 == r90.2.2.1))) || (!(zbd r81.1 r90.1))) then
          some false
          else
          (bif decide (¬ r81.2.2.2 = 0) then
            (zco fuel).bind fun r116 =>
            some r116
            else
            (zbr fuel p r81.1 seed 0).bind fun r121 =>
            zaK (fun (x_22 : Bool) =>
              some x_22)
            (fun k23 =>
              (bif decide (r121.2.2.2 = 0) then
                (bif decide (r121.2.1 = 0) then
                  (bif (r121.2.2.1 == r81.2.2.1) then
                    (bif (zbd r121.1 r81.1) then
                      (zco fuel).bind fun r143 =>
                      k23 r143
                      else
                      k23 false)
                    else
                    k23 false)
                  else
                  k23 false)
                else
                k23 false)))))
      (fun k8 =>
        zaj (fun (i_11 : Nat) (next10 : List GChoice → Option Bool) (fit_9 : List GChoice) =>
          zaK (fun (x_13 : Bool) =>
            (bif x_13 then
              grd (room (fit_9 ++ [(nth hints i_11)]).length 16) <|
              next10 (fit_9 ++ [(nth hints i_11)])
              else
              next10 fit_9))
          (fun k14 =>
            (bif decide (0 ≤ (zas p ((nth hints i_11).Station))) then
              grd (0 ≤ (zas p ((nth hints i_11).Station)) ∧ (zas p ((nth hints i_11).Station)) < (p.Domains.length : Int)) <|
              k14 (za5 ((nth p.Domains ((zas p ((nth hints i_11).Station)).toNat)).Channels) ((nth hints i_11).Channel))
              else
              k14 false)))
        (fun (fit_9 : List GChoice) =>
          k8 fit_9) (hints.length - 0) 0 [])))
  (fun k2 =>
    (bif !r23 then
      k2 true
      else
      (bif decide (20 < (hints.length : Int)) then
        k2 true
        else
        (zcJ p).bind fun r32 =>
        (bif !r32 then
          k2 true
          else
          k2 (!(zbN hints))))))
theorem zed (F0 : Frz) (w : World) (hF0 : F0.At w) (p : GProblem) (vp_0 : Value) (cp_0 : List (List Value)) (hp_0 : SlD GDomain.rep F0 vp_0 2 cp_0 p.Domains) (vp_1 : Value) (hp_1 : SlC F0 vp_1 5 (p.Rules.Pairs.map GPair.enc)) (vp_2 : Value) (hp_2 : SlC F0 vp_2 5 (p.Rules.Loads.map GLoad.enc)) (vp_3 : Value) (hp_3 : SlC F0 vp_3 4 (p.Rules.Caps.map GCap.enc)) (hints : List GChoice) (vhints : Value) (hhints : SlC F0 vhints 2 (hints.map GChoice.enc)) (seed : Int) (fuel : Nat) (r : Bool) (hr : zci fuel p hints seed = some r) : Calls Try.prog 3 #[.agg [vp_0, vp_1, vp_2, vp_3].toArray, vhints, .int .i64 seed] w fun e w' => e = .returned (.bool r) ∧ Below w.heap.size w w' := by
  have hk := hr; unfold zci at hk; haveI := hp_0.1.oneC; haveI := hp_1.oneC; haveI := hp_2.oneC; haveI := hp_3.oneC; haveI := hhints.oneC; obtain ⟨S0, F1, rfl, hS0, hp0⟩ := zao hF0; refine zar Try.func3 rfl rfl rfl hp0 ?_; refine T.sr ?_; refine TL.e (Ew.az rfl rfl) ?_; rintro _ _ ⟨g3, rfl, rfl⟩; refine TL.run 1 rfl ?_; refine TL.ns (T.seq (T.seq ?_)); have hq := zak hk; clear hk; obtain ⟨r23, hr23, hk⟩ := hq; (try dsimp only at hk); have hq := zae hk; clear hk; obtain ⟨k2, hk2, hk⟩ := hq; (try dsimp only at hk); refine T.ae (ι := Bool) (fun z => [(1, vhints), (2, .int .i64 seed), (3, .pointer (some ⟨g3, 0, none⟩)), (39, .bool z)]) (fun z => [.row g3 29 [vp_0, vp_1, vp_2, vp_3], .fr F1]) (fun z => k2 z = some r) ?_ ?_
  · refine T.region ?_; refine TL.y (Yv.ak 0 rfl rfl rfl rfl) ?_; refine TL.e (Ew.ag rfl rfl rfl (fun w hw => zfz _ w (hw.fr (i := 1) rfl) p vp_0 cp_0 hp_0 vp_1 hp_1 vp_2 hp_2 vp_3 hp_3 fuel r23 hr23)) ?_; rintro _ _ ⟨rfl, rfl⟩; refine TL.run 2 rfl ?_; refine TL.gs rfl rfl rfl (fun h3 => ?_) (fun h3 => ?_)
    · replace hk := zab hk h3; refine TL.run 14 rfl ?_; refine TL.nil ?_; exact K.af true hk (.c (.c (.c (.c .nil)))) (List.Sublist.refl _)
    · replace hk := zaa hk h3; refine TL.run 1 rfl ?_; refine TL.y (Yv.an rfl rfl hhints (List.length_map _)) ?_; have hm27 : hints.length ≤ 9223372036854775807 := (List.length_map _) ▸ hhints.max; refine TL.run 3 rfl ?_; refine TL.gs rfl rfl rfl (fun h4 => ?_) (fun h4 => ?_)
      · have p4 := of_decide_eq_true h4; replace hk := zab hk h4; refine TL.run 9 rfl ?_; refine TL.nil ?_; exact K.af true hk (.c (.c (.c (.c .nil)))) (List.Sublist.refl _)
      · have p4 := of_decide_eq_false h4; replace hk := zaa hk h4; refine TL.y (Yv.ak 0 rfl rfl rfl rfl) ?_; have hq := zak hk; clear hk; obtain ⟨r32, hr32, hk⟩ := hq; refine TL.e (Ew.ag rfl rfl rfl (fun w hw => zfw _ w (hw.fr (i := 1) rfl) p vp_0 cp_0 hp_0 vp_1 hp_1 vp_2 hp_2 vp_3 hp_3 r32 hr32)) ?_; rintro _ _ ⟨rfl, rfl⟩; refine TL.run 3 rfl ?_; refine TL.gs rfl rfl rfl (fun h5 => ?_) (fun h5 => ?_)
        · replace hk := zab hk h5; refine TL.run 4 rfl ?_; refine TL.nil ?_; exact K.af true hk (.c (.c (.c (.c .nil)))) (List.Sublist.refl _)
        · replace hk := zaa hk h5; refine TL.run 1 rfl ?_; refine TL.e (Ew.ag rfl rfl rfl (fun w hw => zev _ w (hw.fr (i := 1) rfl) hints vhints hhints)) ?_; rintro _ _ ⟨rfl, rfl⟩; refine TL.run 2 rfl ?_; refine TL.nil ?_; exact K.af (!(zbN hints)) hk (.c (.c (.c (.c .nil)))) (List.Sublist.refl _)
  · rintro x_1 hk; rw [← hk2] at hk; (try dsimp only at hk); refine T.cond rfl (fun h6 => ?_) (fun h6 => ?_)
    · replace hk := zab hk h6; refine T.seq ?_; have hq := zak hk; clear hk; obtain ⟨r40, hr40, hk⟩ := hq; (try dsimp only at hk); refine T.region ?_; refine TL.e (Ew.ag rfl rfl rfl (fun w hw => zds _ w (hw.fr (i := 1) rfl)  fuel r40 hr40)) ?_; rintro _ _ ⟨rfl, rfl⟩; refine TL.run 1 rfl ?_; refine TL.ns (T.ret (K.ab ?_)); obtain rfl := Option.some.inj hk; exact K.ai rfl rfl (fun w' hw => ⟨rfl, hw.isBelow⟩)
    · replace hk := zaa hk h6; refine T.skip (K.seq (T.sr ?_)); refine TL.run 1 rfl ?_; refine TL.slNil 36 2 ?_; refine TL.ns (T.seq (T.sr ?_)); refine TL.run 1 rfl ?_; refine TL.ns ?_; have hq := zae hk; clear hk; obtain ⟨k8, hk8, hk⟩ := hq; (try dsimp only at hk); refine T.ae (ι := List GChoice × Value) (fun z => [(1, vhints), (2, .int .i64 seed), (3, .pointer (some ⟨g3, 0, none⟩)), (7, z.2)]) (fun z => [.sl z.2 36 2 z.1.length (z.1.flatMap GChoice.enc), .row g3 29 [vp_0, vp_1, vp_2, vp_3], .fr F1]) (fun z => k8 z.1 = some r ∧ OneC z.2) ?_ ?_
      · have hq := zal hk; clear hk; obtain ⟨f10, kk10, hf10, hkk10, hk⟩ := hq; refine T.block ?_; refine T.loop (ι := Nat × List GChoice × Value) (fun z => [(1, vhints), (2, .int .i64 seed), (3, .pointer (some ⟨g3, 0, none⟩)), (7, z.2.2), (8, .int .i64 (z.1 : Int))]) (fun z => [.sl z.2.2 36 2 z.2.1.length (z.2.1.flatMap GChoice.enc), .row g3 29 [vp_0, vp_1, vp_2, vp_3], .fr F1]) (fun z => zaj f10 kk10 (hints.length - z.1) z.1 z.2.1 = some r ∧ OneC z.2.2) (fun z => hints.length - z.1) (0, [], (.slice none 0 0)) ?_ ?_ ?_ ?_
        · exact ⟨hk, inferInstance⟩
        · exact (.c (.c (.c (.c (.c .nil)))))
        · exact List.Sublist.refl _
        · rintro ⟨i_11, fit_9, vfit_9⟩ ⟨hk, ofit_9⟩; (try dsimp only at *); refine T.seq (T.sr ?_); refine TL.run 2 rfl ?_; refine TL.y (Yv.an rfl rfl hhints (List.length_map _)) ?_; have hm43 : hints.length ≤ 9223372036854775807 := (List.length_map _) ▸ hhints.max; refine TL.run 1 rfl ?_; refine TL.ns ?_; refine T.cond rfl (fun h12 => ?_) (fun h12 => ?_)
          · have p12 := of_decide_eq_true h12; rw [zat (by omega)] at hk; generalize hn10 : zaj f10 kk10 (hints.length - (i_11 + 1)) (i_11 + 1) = next10 at hk; rw [← hf10] at hk; (try dsimp only at hk); refine T.skip (K.seq (T.seq (T.block (T.seq ?_)))); refine T.ax (.still 0 (.still 1 (.still 2 (.still 3 (.still 4 (.still 5 (.eff 6 (.still 7 .done)))))))) _ (by kernel_rfl) (List.Sublist.refl _) ?_; refine TS.y rfl (Yv.ak 1 rfl rfl rfl rfl) ?_; refine TS.run 2 rfl ?_; refine TS.y rfl (Yv.am (i := i_11) rfl rfl rfl hhints (List.length_map _) rfl (by omega)) ?_; refine TS.y rfl (Yv.aI rfl rfl hhints (List.length_map _) (by omega)) ?_; refine TS.y rfl (Yv.au 2 (i := i_11) (j := 0) rfl rfl rfl hhints (by omega) rfl rfl) ?_; refine TS.eff ?_; refine TSo.ar rfl (Wt.none rfl) rfl rfl (Ew.ag rfl rfl rfl (fun w hw => zcE _ w (hw.fr (i := 2) rfl) p vp_0 cp_0 hp_0 vp_1 hp_1 vp_2 hp_2 vp_3 hp_3 ((nth hints i_11).Station))) ?_; rintro _ _ ⟨rfl, rfl⟩; refine ⟨(fun w hw => hw.sub Sx), ?_⟩; refine TS.run 1 rfl ?_; refine TS.done ?_; refine K.seq (T.seq ?_); (try dsimp only at hk); have hq := zae hk; clear hk; obtain ⟨k14, hk14, hk⟩ := hq; (try dsimp only at hk); refine T.ae (ι := Bool) (fun z => [(1, vhints), (2, .int .i64 seed), (3, .pointer (some ⟨g3, 0, none⟩)), (7, vfit_9), (8, .int .i64 (i_11 : Int)), (69, .bool z)]) (fun z => [.sl vfit_9 36 2 fit_9.length (fit_9.flatMap GChoice.enc), .row g3 29 [vp_0, vp_1, vp_2, vp_3], .fr F1]) (fun z => k14 z = some r) ?_ ?_
            · refine T.ax (.still 0 (.still 1 (.still 2 (.still 3 (.still 4 (.still 5 (.still 6 (.still 7 (.still 8 (.still 9 (.still 10 (.still 11 (.still 12 (.still 13 (.eff 14 (.still 15 .done)))))))))))))))) _ (by kernel_rfl) (List.Sublist.refl _) ?_; refine TS.run 3 rfl ?_; refine TS.gs rfl rfl rfl rfl (fun h15 => ?_) (fun h15 => ?_)
              · have p15 := of_decide_eq_true h15; replace hk := zab hk h15; refine TS.y rfl (Yv.fieldAddr rfl rfl) ?_; refine TS.y rfl (Yv.a 1 rfl rfl rfl rfl) ?_; refine TS.run 1 rfl ?_; have hq : (0 ≤ (zas p ((nth hints i_11).Station)) ∧ (zas p ((nth hints i_11).Station)) < (p.Domains.length : Int)) ∧ _ := zap hk; clear hk; obtain ⟨g60, hk⟩ := hq; refine TS.y rfl (Yv.am (i := (zas p ((nth hints i_11).Station)).toNat) rfl rfl rfl hp_0.1 hp_0.2.1 (by omega) (by omega)) ?_; refine TS.y rfl (Yv.aI rfl rfl hp_0.1 hp_0.2.1 (by omega)) ?_; refine TS.y rfl (Yv.aS 2 (i := (zas p ((nth hints i_11).Station)).toNat) (j := 1) rfl rfl rfl hp_0.1 hp_0.2.1 (by omega) rfl (GDomain.c1 (hp_0.2.2 ((zas p ((nth hints i_11).Station)).toNat) (by omega))).1) ?_; have hd62_1 := (GDomain.c1 (hp_0.2.2 ((zas p ((nth hints i_11).Station)).toNat) (by omega))).2; haveI := hd62_1.oneC; refine TS.run 2 rfl ?_; refine TS.y rfl (Yv.am (i := i_11) rfl rfl rfl hhints (List.length_map _) rfl (by omega)) ?_; refine TS.y rfl (Yv.aI rfl rfl hhints (List.length_map _) (by omega)) ?_; refine TS.y rfl (Yv.au 2 (i := i_11) (j := 1) rfl rfl rfl hhints (by omega) rfl rfl) ?_; refine TS.eff ?_; refine TSo.ar rfl (Wt.some rfl rfl rfl rfl) rfl rfl (Ew.ag rfl rfl rfl (fun w hw => zgl _ w (hw.fr (i := 2) rfl) ((nth p.Domains ((zas p ((nth hints i_11).Station)).toNat)).Channels) (nth (nth cp_0 ((zas p ((nth hints i_11).Station)).toNat)) 1) hd62_1 ((nth hints i_11).Channel))) ?_; rintro _ _ ⟨rfl, rfl⟩; refine ⟨(fun w hw => hw.sub Sx), ?_⟩; refine TS.run 1 rfl ?_; refine TS.done ?_; exact K.af (za5 ((nth p.Domains ((zas p ((nth hints i_11).Station)).toNat)).Channels) ((nth hints i_11).Channel)) hk (.c (.c (.c (.c (.c (.c .nil)))))) (List.Sublist.refl _)
              · have p15 := of_decide_eq_false h15; replace hk := zaa hk h15; refine TS.run 11 rfl ?_; refine TS.eff ?_; refine TSo.off rfl (Wt.not rfl rfl rfl rfl) rfl rfl ?_; refine TS.run 1 rfl ?_; refine TS.done ?_; exact K.af false hk (.c (.c (.c (.c (.c (.c .nil)))))) (List.Sublist.refl _)
            · rintro x_13 hk; rw [← hk14] at hk; (try dsimp only at hk); refine T.cond rfl (fun h16 => ?_) (fun h16 => ?_)
              · replace hk := zab hk h16; have hq : (room (fit_9 ++ [(nth hints i_11)]).length 16) ∧ _ := zap hk; clear hk; obtain ⟨g76, hk⟩ := hq; (try dsimp only at hk); refine T.region ?_; refine TL.run 3 rfl ?_; refine TL.y (Yv.am (i := i_11) rfl rfl rfl hhints (List.length_map _) rfl (by omega)) ?_; refine TL.y (Yv.aq 2 (i := i_11) rfl rfl rfl hhints (by omega) rfl rfl rfl) ?_; refine TL.e (Ew.buildSlice rfl rfl rfl (by decide)) ?_; rintro _ _ ⟨g75, rfl, rfl⟩; refine TL.e (Ew.aw 1 0 rfl rfl rfl rfl rfl rfl (zbE (ys := [(nth hints i_11)]) rfl) (zbk (enc := GChoice.enc) (xs := fit_9) (ys := [(nth hints i_11)])) g76 (by decide)) ?_; rintro v76 _ ⟨hv76, rfl⟩; refine TL.run 1 rfl ?_; refine TL.nil (K.ac (K.seq (T.region ?_))); refine TL.run 1 rfl ?_; refine TL.y (Yv.ao rfl rfl rfl (by omega)) ?_; refine TL.run 1 rfl ?_; refine TL.nil ?_; rw [← hn10] at hk; refine K.pick [1, 2, 3] rfl (by decide) ?_; exact K.next ((i_11 + 1), (fit_9 ++ [(nth hints i_11)]), v76) ⟨hk, inferInstance⟩ (by dsimp only; omega) (.c (.c (.c (.c (.c .nil))))) (List.Sublist.refl _)
              · replace hk := zaa hk h16; refine T.skip (K.ac (K.seq (T.region ?_))); refine TL.run 1 rfl ?_; refine TL.y (Yv.ao rfl rfl rfl (by omega)) ?_; refine TL.run 1 rfl ?_; refine TL.nil ?_; rw [← hn10] at hk; exact K.next ((i_11 + 1), fit_9, vfit_9) ⟨hk, inferInstance⟩ (by dsimp only; omega) (.c (.c (.c (.c (.c .nil))))) (List.Sublist.refl _)
          · have p12 := of_decide_eq_false h12; rw [zau (by omega), ← hkk10] at hk; (try dsimp only at hk); refine T.exit (K.aa (K.aa (K.ad ?_))); exact K.af (fit_9, vfit_9) ⟨hk, inferInstance⟩ (.c (.c (.c (.c .nil)))) (List.Sublist.refl _)
      · rintro ⟨fit_7, vfit_7⟩ ⟨hk, ofit_7⟩; (try dsimp only at *); rw [← hk8] at hk; (try dsimp only at hk); refine T.seq ?_; have hq := zak hk; clear hk; obtain ⟨r81, hr81, hk⟩ := hq; (try dsimp only at hk); refine T.region ?_; refine TL.y (Yv.ak 1 rfl rfl rfl rfl) ?_; refine TL.run 2 rfl ?_; refine TL.e (Ew.aA 2 rfl rfl rfl rfl (fun w hw hF => zcK _ w hF p vp_0 cp_0 hp_0 vp_1 hp_1 vp_2 hp_2 vp_3 hp_3 hints vhints hhints seed 10 fuel r81 hr81)) ?_; rintro _ _ ⟨v81_0_0, F2, le1_2, hf81_0_0, rfl, rfl⟩; haveI := hf81_0_0.oneC; refine TL.run 9 rfl ?_; refine TL.ns (T.seq ?_); refine T.av (fun w hw => hw.freezeS (i := 2) (j := 0) (by decide) rfl rfl) ?_; rintro F3 ⟨le2_3, hz3⟩; dsimp only [List.set, List.eraseIdx]; have le1_3 := le1_2.trans le2_3; have hf3 := hz3.toF rfl GChoice.len; haveI := hf3.oneC; have hq := zak hk; clear hk; obtain ⟨r90, hr90, hk⟩ := hq; (try dsimp only at hk); refine T.region ?_; refine TL.y (Yv.ak 0 rfl rfl rfl rfl) ?_; refine TL.run 2 rfl ?_; refine TL.e (Ew.aA 1 rfl rfl rfl rfl (fun w hw hF => zcK _ w hF p vp_0 cp_0 (SlD.mono (rep := GDomain.rep) (fun _ _ _ _ => GDomain.mono) hp_0 le1_3) vp_1 (SlC.mono hp_1 le1_3) vp_2 (SlC.mono hp_2 le1_3) vp_3 (SlC.mono hp_3 le1_3) fit_7 vfit_7 hf3 seed 10 fuel r90 hr90)) ?_; rintro _ _ ⟨v90_0_0, F4, le3_4, hf90_0_0, rfl, rfl⟩; have le1_4 := le1_3.trans le3_4; have le2_4 := le2_3.trans le3_4; haveI := hf90_0_0.oneC; refine TL.run 9 rfl ?_; refine TL.ns (T.seq (T.seq ?_)); refine T.ae (ι := Unit) (fun z => [(2, .int .i64 seed), (3, .pointer (some ⟨g3, 0, none⟩)), (10, v81_0_0), (12, .bool r81.2.2.1), (13, .int .i64 r81.2.2.2), (113, .bool ((((decide (¬ r81.2.2.2 = r90.2.2.2)) || (decide (¬ r81.2.1 = r90.2.1))) || (!(r81.2.2.1 == r90.2.2.1))) || (!(zbd r81.1 r90.1))))]) (fun z => [.row g3 29 [vp_0, vp_1, vp_2, vp_3], .fr F4]) (fun z => True) ?_ ?_
        · refine T.region ?_; refine TL.run 4 rfl ?_; refine TL.gs rfl rfl rfl (fun h17 => ?_) (fun h17 => ?_)
          · have p17 := of_decide_eq_true h17; refine TL.run 15 rfl ?_; refine TL.nil ?_; exact K.af () trivial (.c (.c (.c (.c (.c (.b (zcF (zcF (zcF h17))).symm .nil)))))) (List.Sublist.refl _)
          · have p17 := of_decide_eq_false h17; refine TL.run 5 rfl ?_; refine TL.gs rfl rfl rfl (fun h18 => ?_) (fun h18 => ?_)
            · have p18 := of_decide_eq_true h18; refine TL.run 10 rfl ?_; refine TL.nil ?_; exact K.af () trivial (.c (.c (.c (.c (.c (.b (zcF (zcF (zc8 h17 h18))).symm .nil)))))) (List.Sublist.refl _)
            · have p18 := of_decide_eq_false h18; refine TL.run 2 rfl ?_; refine TL.y (Yv.ce (by kernel_rfl) rfl rfl rfl) ?_; refine TL.run 2 rfl ?_; refine TL.gs rfl rfl rfl (fun h19 => ?_) (fun h19 => ?_)
              · refine TL.run 5 rfl ?_; refine TL.nil ?_; exact K.af () trivial (.c (.c (.c (.c (.c (.b (zcF (zc8 (zc8 h17 h18) h19)).symm .nil)))))) (List.Sublist.refl _)
              · refine TL.run 2 rfl ?_; refine TL.e (Ew.ag rfl rfl rfl (fun w hw => zce _ w (hw.fr (i := 1) rfl) r81.1 v81_0_0 (SlC.mono hf81_0_0 le2_4) r90.1 v90_0_0 hf90_0_0)) ?_; rintro _ _ ⟨rfl, rfl⟩; refine TL.run 2 rfl ?_; refine TL.nil ?_; exact K.af () trivial (.c (.c (.c (.c (.c (.b (or_f (zc8 (zc8 h17 h18) h19)) .nil)))))) (List.Sublist.refl _)
        · rintro _ _; refine T.cond rfl (fun h20 => ?_) (fun h20 => ?_)
          · replace hk := zab hk h20; refine T.sr ?_; refine TL.run 1 rfl ?_; refine TL.ns (T.ret (K.ab ?_)); obtain rfl := Option.some.inj hk; exact K.ai rfl rfl (fun w' hw => ⟨rfl, hw.isBelow⟩)
          · have p20 := h20; (try simp only [nfB] at p20); replace hk := zaa hk h20; refine T.skip (K.seq (T.seq (T.sr ?_))); refine TL.run 2 rfl ?_; refine TL.ns ?_; refine T.cond rfl (fun h21 => ?_) (fun h21 => ?_)
            · have p21 := of_decide_eq_true h21; replace hk := zab hk h21; refine T.seq ?_; have hq := zak hk; clear hk; obtain ⟨r116, hr116, hk⟩ := hq; (try dsimp only at hk); refine T.region ?_; refine TL.e (Ew.ag rfl rfl rfl (fun w hw => zds _ w (hw.fr (i := 1) rfl)  fuel r116 hr116)) ?_; rintro _ _ ⟨rfl, rfl⟩; refine TL.run 1 rfl ?_; refine TL.ns (T.ret (K.ab ?_)); obtain rfl := Option.some.inj hk; exact K.ai rfl rfl (fun w' hw => ⟨rfl, hw.isBelow⟩)
            · have p21 := of_decide_eq_false h21; replace hk := zaa hk h21; refine T.skip (K.seq (T.seq ?_)); have hq := zak hk; clear hk; obtain ⟨r121, hr121, hk⟩ := hq; (try dsimp only at hk); refine T.region ?_; refine TL.y (Yv.ak 0 rfl rfl rfl rfl) ?_; refine TL.run 2 rfl ?_; refine TL.e (Ew.aA 1 rfl rfl rfl rfl (fun w hw hF => zcK _ w hF p vp_0 cp_0 (SlD.mono (rep := GDomain.rep) (fun _ _ _ _ => GDomain.mono) hp_0 le1_4) vp_1 (SlC.mono hp_1 le1_4) vp_2 (SlC.mono hp_2 le1_4) vp_3 (SlC.mono hp_3 le1_4) r81.1 v81_0_0 (SlC.mono hf81_0_0 le2_4) seed 0 fuel r121 hr121)) ?_; rintro _ _ ⟨v121_0_0, F5, le4_5, hf121_0_0, rfl, rfl⟩; have le2_5 := le2_4.trans le4_5; haveI := hf121_0_0.oneC; refine TL.run 9 rfl ?_; refine TL.ns (T.seq ?_); (try dsimp only at hk); have hq := zae hk; clear hk; obtain ⟨k23, hk23, hk⟩ := hq; (try dsimp only at hk); refine T.ae (ι := Bool) (fun z => [(6, .bool z)]) (fun z => [.fr F5]) (fun z => k23 z = some r) ?_ ?_
              · refine T.region ?_; refine TL.run 3 rfl ?_; refine TL.gs rfl rfl rfl (fun h24 => ?_) (fun h24 => ?_)
                · have p24 := of_decide_eq_true h24; replace hk := zab hk h24; refine TL.run 4 rfl ?_; refine TL.gs rfl rfl rfl (fun h25 => ?_) (fun h25 => ?_)
                  · have p25 := of_decide_eq_true h25; replace hk := zab hk h25; refine TL.run 2 rfl ?_; refine TL.y (Yv.cd (by kernel_rfl) rfl rfl rfl) ?_; refine TL.run 2 rfl ?_; refine TL.gs rfl rfl rfl (fun h26 => ?_) (fun h26 => ?_)
                    · replace hk := zab hk h26; refine TL.run 2 rfl ?_; refine TL.e (Ew.ag rfl rfl rfl (fun w hw => zce _ w (hw.fr (i := 1) rfl) r121.1 v121_0_0 hf121_0_0 r81.1 v81_0_0 (SlC.mono hf81_0_0 le2_5))) ?_; rintro _ _ ⟨rfl, rfl⟩; refine TL.run 2 rfl ?_; refine TL.gs rfl rfl rfl (fun h27 => ?_) (fun h27 => ?_)
                      · replace hk := zab hk h27; have hq := zak hk; clear hk; obtain ⟨r143, hr143, hk⟩ := hq; refine TL.e (Ew.ag rfl rfl rfl (fun w hw => zds _ w (hw.fr (i := 1) rfl)  fuel r143 hr143)) ?_; rintro _ _ ⟨rfl, rfl⟩; refine TL.run 2 rfl ?_; refine TL.nil ?_; refine K.pick [1] rfl (by decide) ?_; exact K.af r143 hk (.c .nil) (List.Sublist.refl _)
                      · replace hk := zaa hk h27; refine TL.run 3 rfl ?_; refine TL.nil ?_; refine K.pick [1] rfl (by decide) ?_; exact K.af false hk (.c .nil) (List.Sublist.refl _)
                    · replace hk := zaa hk h26; refine TL.run 8 rfl ?_; refine TL.nil ?_; refine K.pick [1] rfl (by decide) ?_; exact K.af false hk (.c .nil) (List.Sublist.refl _)
                  · have p25 := of_decide_eq_false h25; replace hk := zaa hk h25; refine TL.run 13 rfl ?_; refine TL.nil ?_; refine K.pick [1] rfl (by decide) ?_; exact K.af false hk (.c .nil) (List.Sublist.refl _)
                · have p24 := of_decide_eq_false h24; replace hk := zaa hk h24; refine TL.run 17 rfl ?_; refine TL.nil ?_; refine K.pick [1] rfl (by decide) ?_; exact K.af false hk (.c .nil) (List.Sublist.refl _)
              · rintro x_22 hk; rw [← hk23] at hk; (try dsimp only at hk); refine T.ret ?_; obtain rfl := Option.some.inj hk; exact K.ai rfl rfl (fun w' hw => ⟨rfl, hw.isBelow⟩)
def zbS (l : List GChoice) (n : Int) : Int :=
  zaK (fun (_ : Unit) =>
    0)
  (fun k1 =>
    zaj (fun (i_3 : Nat) (next2 : Unit → Int) (_ : Unit) =>
      (bif decide ((nth l i_3).Station = n) then
        ((nth l i_3).Channel)
        else
        next2 ()))
    (fun (_ : Unit) =>
      k1 ()) (l.length - 0) 0 ())
def zah (x_ : GPair) (l : List GChoice) : Bool :=
  (((((decide (¬ (zbS l x_.A) = 0)) && (decide (¬ (zbS l x_.B) = 0))) && (decide (x_.Low ≤ (zbS l x_.A)))) && (decide ((zbS l x_.A) ≤ x_.High))) && (decide ((zbS l x_.B) = wI ((zbS l x_.A) + x_.Offset))))
def zeH (p : GProblem) (n : Int) (channel : Int) (l : List GChoice) : Int :=
  zaK (fun (sum_1 : Int) =>
    sum_1)
  (fun k2 =>
    zaj (fun (i_5 : Nat) (next4 : Int → Int) (sum_3 : Int) =>
      (bif ((((decide ((nth p.Rules.Loads i_5).To = n)) && (decide ((zbS l ((nth p.Rules.Loads i_5).From)) = channel))) && (decide ((nth p.Rules.Loads i_5).Low ≤ channel))) && (decide (channel ≤ (nth p.Rules.Loads i_5).High))) then
        next4 (wI (sum_3 + ((nth p.Rules.Loads i_5).Weight)))
        else
        next4 sum_3))
    (fun (sum_3 : Int) =>
      k2 sum_3) (p.Rules.Loads.length - 0) 0 0)
def zaf (p : GProblem) (x_ : GCap) (l : List GChoice) : Bool :=
  ((((decide (¬ (zbS l x_.Station) = 0)) && (decide (x_.Low ≤ (zbS l x_.Station)))) && (decide ((zbS l x_.Station) ≤ x_.High))) && (decide (x_.Max < (zeH p x_.Station (zbS l x_.Station) l))))
def zeG (state : BitVec 64) : BitVec 64 × BitVec 64 :=
  ((state + (11400714819323198485#64)), ((((((state + (11400714819323198485#64)) ^^^ ((state + (11400714819323198485#64)) >>> 30)) * (13787848793156543929#64)) ^^^ ((((state + (11400714819323198485#64)) ^^^ ((state + (11400714819323198485#64)) >>> 30)) * (13787848793156543929#64)) >>> 27)) * (10723151780598845931#64)) ^^^ ((((((state + (11400714819323198485#64)) ^^^ ((state + (11400714819323198485#64)) >>> 30)) * (13787848793156543929#64)) ^^^ ((((state + (11400714819323198485#64)) ^^^ ((state + (11400714819323198485#64)) >>> 30)) * (13787848793156543929#64)) >>> 27)) * (10723151780598845931#64)) >>> 31)))
theorem zhM (b : Bool) : (bif b then true else false) = b := by cases b <;> rfl
theorem zi4 {p : GProblem} {a b : Int} {fuel : Nat} (hf : 1000 ≤ fuel) : ∃ r, zcI fuel p a b = some r := by
  unfold zcI; simp only [zaK]; refine zg0 (σ := Int) (I := fun i => 0 ≤ i ∧ i ≤ 600) (μ := fun i => (600 - i).toNat) (post := fun o => ∃ r, o = some r) ⟨by omega, by omega⟩ (by omega) ?_; intro i next hi hn; by_cases h1 : i < (p.Domains.length : Int) <;> by_cases h2 : i < 600
  · rw [decide_eq_true h1, decide_eq_true h2, Bool.and_true, cond_true, zaR ⟨hi.1, h1⟩]
    cases decide (60 < ((nth p.Domains i.toNat).Channels.length : Int))
    · exact hn _ ⟨by omega, by omega⟩ (by omega)
    · exact ⟨_, rfl⟩
  · rw [decide_eq_false h2, Bool.and_false, cond_false]; exact ⟨_, rfl⟩
  · rw [decide_eq_false h1, Bool.false_and, cond_false]; exact ⟨_, rfl⟩
  · rw [decide_eq_false h1, Bool.false_and, cond_false]; exact ⟨_, rfl⟩
theorem allEq {α : Type} [Inhabited α] [DecidableEq α] {a b : List α} (hl : a.length = b.length) : ((List.range a.length).all fun i => decide (nth a i = nth b i)) = decide (a = b) := by
  rw [Bool.eq_iff_iff, List.all_eq_true, decide_eq_true_eq]; constructor
  · intro h; refine List.ext_getElem hl fun i h1 h2 => ?_; have := of_decide_eq_true (h i (List.mem_range.2 h1))
    rwa [zaN h1, zaN h2] at this
  · rintro rfl i _; simp
theorem zja {α : Type} [Inhabited α] [DecidableEq α] {a b : List α} {r : α → α → Bool} {k : Unit → Bool} (hr : ∀ x y, r x y = !decide (x = y)) (hl : a.length = b.length) : zaj (fun (i : Nat) (next : Unit → Bool) (_ : Unit) => bif r (nth a i) (nth b i) then false else next ()) k (a.length - 0) 0 () = (decide (a = b) && k ()) := by
  rw [Nat.sub_zero, zfU (fun i => decide (nth a i = nth b i)) (fun i next hi => by rw [hr]; cases decide (nth a i = nth b i) <;> rfl), allEq hl]
theorem eqL_x {α : Type} [Inhabited α] [DecidableEq α] {a b : List α} {r : α → α → Bool} (hr : ∀ x y, r x y = !decide (x = y)) : (bif decide (¬ (a.length : Int) = (b.length : Int)) then false else zaj (fun (i : Nat) (next : Unit → Bool) (_ : Unit) => bif r (nth a i) (nth b i) then false else next ()) (fun _ => true) (a.length - 0) 0 ()) = decide (a = b) := by
  by_cases hl : a.length = b.length
  · rw [decide_eq_false (by omega), cond_false, zja hr hl, Bool.and_true]
  · rw [decide_eq_true (by omega), cond_true, decide_eq_false (fun e => hl (by rw [e]))]
theorem zgj (l : List GChoice) : zax l = zbN l := by
  have e1 : zax l = (List.range' 0 (l.length - 0)).all fun i => (zag (nth l i).Station && zan (nth l i).Channel 2 51) && !(decide (0 < (i : Int)) && decide ((nth l i).Station ≤ (nth l (((i : Int) - 1).toNat)).Station)) := by
    refine (zbM (k := fun _ => true) (z := false) (fun i => (zag (nth l i).Station && zan (nth l i).Channel 2 51) && !(decide (0 < (i : Int)) && decide ((nth l i).Station ≤ (nth l (((i : Int) - 1).toNat)).Station))) (fun i next h1 h2 => ?_)).trans ?_
    · cases zag (nth l i).Station <;> cases zan (nth l i).Channel 2 51 <;> cases (decide (0 < (i : Int)) && decide ((nth l i).Station ≤ (nth l (((i : Int) - 1).toNat)).Station)) <;> rfl
    · exact zhM _
  rw [e1]; symm; refine (zbM (k := fun _ => true) (z := false) (fun i => (zag (nth l i).Station && zan (nth l i).Channel 2 51) && !(decide (0 < (i : Int)) && decide ((nth l i).Station ≤ (nth l (((i : Int) - 1).toNat)).Station))) (fun i next h1 h2 => ?_)).trans ?_
  · rw [zc9 (nth l i).Channel 2, zc9 51]; unfold zan
    show (bif (((!zag (nth l i).Station || _) || _) || _) then _ else _) = _
    cases zag (nth l i).Station <;> cases decide (2 ≤ (nth l i).Channel) <;> cases decide ((nth l i).Channel ≤ 51) <;> cases (decide (0 < (i : Int)) && decide ((nth l i).Station ≤ (nth l (((i : Int) - 1).toNat)).Station)) <;> rfl
  · exact zhM _
def onL : List GChoice → Int → Int
  | [], _ => 0
  | x :: r, n => bif decide (x.Station = n) then x.Channel else onL r n
theorem on_x (l : List GChoice) (n : Int) : zbS l n = onL l n := by
  have key : ∀ m i, i + m = l.length → zaj (fun (i : Nat) (next : Unit → Int) (_ : Unit) => bif decide ((nth l i).Station = n) then (nth l i).Channel else next ()) (fun _ => (0 : Int)) m i () = onL (l.drop i) n := by
    intro m
    induction m with
    | zero => intro i e; rw [List.drop_eq_nil_of_le (show l.length ≤ i by omega)]; rfl
    | succ m ih =>
      intro i e; have h2 := ih (i + 1) (by omega); rw [List.drop_eq_getElem_cons (show i < l.length by omega), ← zaN (show i < l.length by omega)]
      show (bif decide ((nth l i).Station = n) then (nth l i).Channel else _) = bif decide ((nth l i).Station = n) then (nth l i).Channel else _
      rw [← h2]
  have := key l.length 0 (by omega); rw [List.drop_zero] at this; exact this
theorem ziG {x : GChoice} {n : Int} (h : x.Station ≠ n) : ∀ a, onL (a ++ [x]) n = onL a n
  | [] => by show (bif decide (x.Station = n) then x.Channel else 0) = 0; rw [decide_eq_false h]; rfl
  | y :: a => by
    show (bif decide (y.Station = n) then y.Channel else onL (a ++ [x]) n) = bif decide (y.Station = n) then y.Channel else onL a n
    rw [ziG h a]
theorem ziD {x : GChoice} {n : Int} (h : x.Station = n) : ∀ a : List GChoice, (∀ y ∈ a, y.Station ≠ n) → onL (a ++ [x]) n = x.Channel
  | [], _ => by show (bif decide (x.Station = n) then x.Channel else 0) = _; rw [decide_eq_true h]; rfl
  | y :: a, ha => by
    show (bif decide (y.Station = n) then y.Channel else onL (a ++ [x]) n) = _
    rw [decide_eq_false (ha y (List.mem_cons_self ..)), cond_false]; exact ziD h a fun z hz => ha z (List.mem_cons_of_mem _ hz)
structure VL (l : List GChoice) : Prop where
  st : ∀ i, i < l.length → 0 ≤ (nth l i).Station ∧ (nth l i).Station ≤ 511
  ch : ∀ i, i < l.length → 2 ≤ (nth l i).Channel ∧ (nth l i).Channel ≤ 51
  lt : ∀ i j, i < j → j < l.length → (nth l i).Station < (nth l j).Station
theorem zfP (l : List GChoice) : zax l = (List.range' 0 (l.length - 0)).all fun i => (zag (nth l i).Station && zan (nth l i).Channel 2 51) && !(decide (0 < (i : Int)) && decide ((nth l i).Station ≤ (nth l (((i : Int) - 1).toNat)).Station)) := by
  refine (zbM (k := fun _ => true) (z := false) (fun i => (zag (nth l i).Station && zan (nth l i).Channel 2 51) && !(decide (0 < (i : Int)) && decide ((nth l i).Station ≤ (nth l (((i : Int) - 1).toNat)).Station))) (fun i next h1 h2 => ?_)).trans (zhM _)
  cases zag (nth l i).Station <;> cases zan (nth l i).Channel 2 51 <;> cases (decide (0 < (i : Int)) && decide ((nth l i).Station ≤ (nth l (((i : Int) - 1).toNat)).Station)) <;> rfl
theorem zjk {l : List GChoice} (h : zax l = true) : VL l := by
  rw [zfP, List.all_eq_true] at h; have g : ∀ i, i < l.length → _ := fun i hi => h i (List.mem_range'_1.2 ⟨by omega, by omega⟩)
  have hlt : ∀ j, 0 < j → j < l.length → (nth l (j - 1)).Station < (nth l j).Station := fun j h0 hj => by
    have h1 := zbH (g j hj); rw [decide_eq_true (show 0 < (j : Int) by omega), Bool.true_and, Bool.not_eq_true', decide_eq_false_iff_not, show ((j : Int) - 1).toNat = j - 1 by omega] at h1; omega
  refine ⟨fun i hi => zbu (zbv (zbv (g i hi))), fun i hi => ?_, fun i j hij hj => ?_⟩
  · have := zbH (zbv (g i hi)); unfold zan at this; rw [Bool.and_eq_true, decide_eq_true_eq, decide_eq_true_eq] at this; exact this
  · induction j with
    | zero => omega
    | succ j ih =>
      have h1 := hlt (j + 1) (by omega) hj; rw [show j + 1 - 1 = j from rfl] at h1; rcases Nat.lt_or_ge i j with h2 | h2
      · have := ih h2 (by omega); omega
      · rw [show i = j by omega]; exact h1
theorem zd9 {α : Type} [Inhabited α] {l : List α} {i : Nat} (hi : i < l.length) : l.take (i + 1) = l.take i ++ [nth l i] := by
  rw [List.take_add_one, List.getElem?_eq_getElem hi, zaN hi]; rfl
theorem zhs {α : Type} [Inhabited α] {l : List α} {i : Nat} {y : α} (h : y ∈ l.take i) : ∃ j, j < i ∧ j < l.length ∧ nth l j = y := by
  obtain ⟨j, hj, rfl⟩ := List.mem_iff_getElem.1 h; (have h1 : j < i ∧ j < l.length := by rw [List.length_take] at hj; omega); exact ⟨j, h1.1, h1.2, by rw [zaN h1.2, List.getElem_take]⟩
theorem zeS {l : List GChoice} (h : VL l) {i : Nat} (hi : i < l.length) (n : Int) : onL (l.take (i + 1)) n = if n = (nth l i).Station then (nth l i).Channel else onL (l.take i) n := by
  rw [zd9 hi]; by_cases e : n = (nth l i).Station
  · rw [if_pos e]; refine ziD e.symm _ fun y hy => ?_; obtain ⟨j, h1, h2, rfl⟩ := zhs hy; have := h.lt j i h1 hi; omega
  · rw [if_neg e]; exact ziG (fun h => e h.symm) _
def TabC (l : List GChoice) (c : Vec 512 Int) : Prop := ∀ n, n < 512 → Vec.get c n = onL l (n : Int)
theorem TabC.get {l : List GChoice} {c : Vec 512 Int} (h : TabC l c) {i : Int} (hi : 0 ≤ i ∧ i < 512) : Vec.get c i.toNat = onL l i := by
  rw [h _ (by omega), show ((i.toNat : Nat) : Int) = i by omega]
def zfr (l : List GChoice) (n : Int) (s : Int) (x : GLoad) : Int := bif (((decide (x.To = n)) && (decide (onL l x.From = onL l n))) && (decide (x.Low ≤ onL l n))) && (decide (onL l n ≤ x.High)) then wI (s + x.Weight) else s
theorem zi7 (p : GProblem) (l : List GChoice) (n : Int) : zeH p n (onL l n) l = p.Rules.Loads.foldl (zfr l n) 0 := by
  rw [← zck]; refine (zcR (k := fun s : Int => s) (n := p.Rules.Loads.length - 0) (s := 0) (fun i s => zfr l n s (nth p.Rules.Loads i)) (fun i next s hi => ?_)); rw [on_x]; unfold zfr
  cases (((decide ((nth p.Rules.Loads i).To = n)) && (decide (onL l (nth p.Rules.Loads i).From = onL l n))) && (decide ((nth p.Rules.Loads i).Low ≤ onL l n))) && (decide (onL l n ≤ (nth p.Rules.Loads i).High)) <;> rfl
theorem zi3 (l : List Int) (v : Int) : decide (0 ≤ zbi l v) = l.any fun x => decide (x = v) := by
  have key : ∀ m i, i + m = l.length → decide (0 ≤ zaj (fun (i : Nat) (next : Unit → Int) (_ : Unit) => bif decide (v = nth l i) then (i : Int) else next ()) (fun _ => (-1)) m i ()) = (l.drop i).any fun x => decide (x = v) := by
    intro m
    induction m with
    | zero => intro i e; rw [List.drop_eq_nil_of_le (show l.length ≤ i by omega)]; rfl
    | succ m ih =>
      intro i e; have h2 := ih (i + 1) (by omega); rw [List.drop_eq_getElem_cons (show i < l.length by omega), List.any_cons, ← zaN (show i < l.length by omega)]
      show decide (0 ≤ (bif decide (v = nth l i) then (i : Int) else _)) = _
      by_cases e2 : v = nth l i
      · rw [decide_eq_true e2, decide_eq_true e2.symm, cond_true, decide_eq_true (by omega)]; rfl
      · have e3 : ¬ nth l i = v := fun h => e2 h.symm; rw [decide_eq_false e3, Bool.false_or, ← h2]
        show decide (0 ≤ (bif decide (v = nth l i) then (i : Int) else _)) = _
        rw [decide_eq_false e2]; rfl
  have := key l.length 0 (by omega); rw [List.drop_zero] at this; exact this
theorem ze8 (l : List Int) (v : Int) : za5 l v = l.any fun x => decide (x = v) := by
  have h := zhJ (f := fun (i : Nat) (next : Unit → Bool) (_ : Unit) => bif decide (nth l i = v) then true else next ()) (k := fun _ => false) (n := l.length - 0) (fun i => decide (nth l i = v)) (fun i next hi => by cases decide (nth l i = v) <;> rfl); rw [Nat.sub_zero, zfJ (q := fun x => decide (x = v)), Bool.or_false] at h; exact h
theorem zg1 (l : List Int) (v : Int) : zaz l v = za5 l v := by
  unfold zaz; rw [zi3, ze8]
theorem ziJ {ρ : Type} {l : List GChoice} (h : VL l) (K : Vec 512 Int → Option ρ) : ∃ c, TabC l c ∧ zaj (fun (i_5 : Nat) (next4 : Vec 512 Int → Option ρ) (c_3 : Vec 512 Int) => grd (0 ≤ (nth l i_5).Station ∧ (nth l i_5).Station < (512 : Int)) <| next4 (Vec.put c_3 (((nth l i_5).Station).toNat) ((nth l i_5).Channel))) K (l.length - 0) 0 (Vec.fill 512 0) = K c := by
  obtain ⟨h1, h2⟩ := zcc (k := K) (n := l.length - 0) (s := Vec.fill 512 (0 : Int))
    (f := fun (i_5 : Nat) (next4 : Vec 512 Int → Option ρ) (c_3 : Vec 512 Int) => grd (0 ≤ (nth l i_5).Station ∧ (nth l i_5).Station < (512 : Int)) <| next4 (Vec.put c_3 (((nth l i_5).Station).toNat) ((nth l i_5).Channel)))
    (fun i c => ∀ n, n < 512 → Vec.get c n = onL (l.take i) (n : Int))
    (fun i c => Vec.put c (((nth l i).Station).toNat) ((nth l i).Channel))
    (fun n hn => Vec.get_fill hn)
    (fun i c hi hc n hn => by
      have h3 := h.st i (by omega); rw [zeS h (by omega), Vec.get_put (by omega), hc n hn]; by_cases e : (n : Int) = (nth l i).Station
      · rw [if_pos e, if_pos (by omega)]
      · rw [if_neg e, if_neg (by omega)])
    (fun i next c hi hc => by
      have h3 := h.st i (by omega)
      rw [zaR ⟨h3.1, by omega⟩])
  refine ⟨_, fun n hn => ?_, h1⟩; have := h2 n hn
  rwa [Nat.sub_zero, List.take_length] at this
theorem zjl {a b : Int} (h : zbb a b = true) : 2 ≤ a ∧ a ≤ b ∧ b ≤ 51 :=
  ⟨of_decide_eq_true (zbv (zbv h)), of_decide_eq_true (zbH (zbv h)), of_decide_eq_true (zbH h)⟩
theorem zgS (a b : List GChoice) : zbd a b = decide (a = b) := eqL_x (r := fun x y : GChoice => !(decide (x.Station = y.Station) && decide (x.Channel = y.Channel))) fun x y => by
  have : (decide (x.Station = y.Station) && decide (x.Channel = y.Channel)) = decide (x = y) := by
    rw [Bool.eq_iff_iff]; cases x; cases y; simp
  rw [this]
theorem zgB {α : Type} [Inhabited α] {lt : α → α → Bool} (ht : ∀ a b c, lt a b = true → lt b c = true → lt a c = true) {l : List α} : adjB lt l = true ↔ l.Pairwise (fun a b => lt a b = true) := by
  constructor
  · intro h; have h1 : ∀ i, i + 1 < l.length → lt (nth l i) (nth l (i + 1)) = true := fun i hi => List.all_eq_true.1 h (i + 1) (List.mem_range'_1.2 ⟨by omega, by omega⟩)
    have h2 : ∀ d i, i + d + 1 < l.length → lt (nth l i) (nth l (i + d + 1)) = true := by
      intro d
      induction d with
      | zero => intro i hi; exact h1 i hi
      | succ d ih => intro i hi; exact ht _ _ _ (ih i (by omega)) (h1 (i + d + 1) (by omega))
    refine List.pairwise_iff_getElem.2 fun i j hi hj hij => ?_; rw [← zaN hi, ← zaN hj]; have := h2 (j - i - 1) i (by omega)
    rwa [show i + (j - i - 1) + 1 = j by omega] at this
  · intro h; refine List.all_eq_true.2 fun i hi => ?_; have hi := List.mem_range'_1.1 hi; rw [zaN (show i - 1 < l.length by omega), zaN (show i < l.length by omega)]; exact List.pairwise_iff_getElem.1 h (i - 1) i _ _ (by omega)
theorem lexL_cons {a b : Int} {x y : List Int} : lexL (a :: x) (b :: y) = true ↔ a < b ∨ (a = b ∧ lexL x y = true) := by
  show (bif decide (a = b) then lexL x y else decide (a < b)) = true ↔ _
  by_cases h : a = b
  · rw [decide_eq_true h, cond_true]; exact ⟨fun h1 => .inr ⟨h, h1⟩, fun h1 => h1.elim (fun h2 => absurd h2 (by omega)) (·.2)⟩
  · rw [decide_eq_false h, cond_false, decide_eq_true_eq]; exact ⟨.inl, fun h1 => h1.elim id (fun h2 => absurd h2.1 h)⟩
theorem zfu : ∀ a b c : List Int, lexL a b = true → lexL b c = true → lexL a c = true
  | [], _, _, h, _ => by cases h
  | _ :: _, [], _, h, _ => by cases h
  | _ :: _, _ :: _, [], _, h => by cases h
  | a :: x, b :: y, c :: z, h1, h2 => by
    rw [lexL_cons] at h1 h2 ⊢; rcases h1 with h1 | ⟨h1, h3⟩ <;> rcases h2 with h2 | ⟨h2, h4⟩
    · left; omega
    · left; omega
    · left; omega
    · exact .inr ⟨by omega, zfu x y z h3 h4⟩
theorem zfF {α : Type} [Inhabited α] {lt : α → α → Bool} (ht : ∀ a b c, lt a b = true → lt b c = true → lt a c = true) {l l' : List α} (hs : l'.Sublist l) (h : adjB lt l = true) : adjB lt l' = true := (zgB ht).2 (((zgB ht).1 h).sublist hs)
theorem zeM {a b : Bool} (ha : a = true) (hb : b = true) : (a && b) = true := by rw [ha, hb]; rfl
structure RulesP (r : GRules) : Prop where
  g : RulesGood r
  ip : adjB (fun a b => lexL (zcT a) (zcT b)) r.Pairs = true
  il : adjB (fun a b => lexL (zcP a) (zcP b)) r.Loads = true
  ic : adjB (fun a b => lexL (capL a) (capL b)) r.Caps = true
theorem zhb {r : GRules} (h : zc2 r = true) : RulesP r := by
  have hg := zbD h; unfold zc2 at h; have h1 := zbH h; have h2 := zbH h1; have h3 := zbH h2; have h4 := zbH h3; have h5 := zbH h4; have h6 := zbH h5; have h7 := zbH h6; exact ⟨hg, zbv h2, zbv h5, zbH h7⟩
theorem RulesP.b {r : GRules} (h : RulesP r) : zc2 r = true := by
  have a := h.g.np; have b := h.g.nl; have c := h.g.nc; exact zeM (decide_eq_true (by omega)) (zeM (List.all_eq_true.2 h.g.p) (zeM h.ip (zeM (decide_eq_true (by omega)) (zeM (List.all_eq_true.2 h.g.l) (zeM h.il (zeM (decide_eq_true (by omega)) (zeM (List.all_eq_true.2 h.g.c) h.ic)))))))
theorem ziP (a b c : GPair) : lexL (zcT a) (zcT b) = true → lexL (zcT b) (zcT c) = true → lexL (zcT a) (zcT c) = true := zfu _ _ _
theorem zhx (a b c : GLoad) : lexL (zcP a) (zcP b) = true → lexL (zcP b) (zcP c) = true → lexL (zcP a) (zcP c) = true := zfu _ _ _
theorem zjm (a b c : GCap) : lexL (capL a) (capL b) = true → lexL (capL b) (capL c) = true → lexL (capL a) (capL c) = true := zfu _ _ _
theorem RulesP.sub {r r' : GRules} (h : RulesP r) (hp : r'.Pairs.Sublist r.Pairs) (hl : r'.Loads.Sublist r.Loads) (hc : r'.Caps.Sublist r.Caps) : RulesP r' := by
  refine ⟨⟨?_, ?_, ?_, fun x hx => h.g.p x (hp.subset hx), fun x hx => h.g.l x (hl.subset hx), fun x hx => h.g.c x (hc.subset hx)⟩, zfF ziP hp h.ip, zfF zhx hl h.il, zfF zjm hc h.ic⟩
  · have := hp.length_le; have := h.g.np; omega
  · have := hl.length_le; have := h.g.nl; omega
  · have := hc.length_le; have := h.g.nc; omega
theorem zhC {l : List GChoice} (h : VL l) : zax l = true := by
  rw [zfP]; refine List.all_eq_true.2 fun i hi => ?_; have hi := List.mem_range'_1.1 hi; have a := h.st i (by omega); have b := h.ch i (by omega); refine zeM (zeM (zeM (decide_eq_true a.1) (decide_eq_true a.2)) (zeM (decide_eq_true b.1) (decide_eq_true b.2))) ?_; rw [Bool.not_eq_true', Bool.and_eq_false_iff, decide_eq_false_iff_not, decide_eq_false_iff_not]; rcases Nat.eq_zero_or_pos i with h0 | h0
  · left; omega
  · right; have := h.lt (i - 1) i (by omega) (by omega); rw [show ((i : Int) - 1).toNat = i - 1 by omega]; omega
theorem ziy {l l' : List GChoice} (h : VL l) (hs : l'.Sublist l) : VL l' := by
  have hm : ∀ x ∈ l, ∃ i, i < l.length ∧ nth l i = x := fun x hx => by
    obtain ⟨i, hi, e⟩ := List.mem_iff_getElem.1 hx; exact ⟨i, hi, by rw [zaN hi, e]⟩
  have hp : l.Pairwise fun a b => a.Station < b.Station := List.pairwise_iff_getElem.2 fun i j hi hj hij => by
    have := h.lt i j hij hj
    rwa [zaN hi, zaN hj] at this
  have hp' := hp.sublist hs; refine ⟨fun i hi => ?_, fun i hi => ?_, fun i j hij hj => ?_⟩
  · obtain ⟨k, hk, e⟩ := hm _ (hs.subset (zaB hi)); rw [← e]; exact h.st k hk
  · obtain ⟨k, hk, e⟩ := hm _ (hs.subset (zaB hi)); rw [← e]; exact h.ch k hk
  · rw [zaN (show i < l'.length by omega), zaN hj]; exact List.pairwise_iff_getElem.1 hp' i j _ _ hij
theorem zd7 (p : GProblem) (c : GCap) (l : List GChoice) (h : 2 ≤ c.Low) : zaf p c l = ((zan (onL l c.Station) c.Low c.High) && decide (c.Max < p.Rules.Loads.foldl (zfr l c.Station) 0)) := by
  unfold zaf zan; rw [on_x, zi7]; by_cases h0 : c.Low ≤ onL l c.Station
  · rw [decide_eq_true h0, decide_eq_true (show ¬ onL l c.Station = 0 by omega)]; rfl
  · rw [decide_eq_false h0]; simp
theorem zdP (c : GPair) (l : List GChoice) : zah c l = true ↔ onL l c.A ≠ 0 ∧ onL l c.B ≠ 0 ∧ c.Low ≤ onL l c.A ∧ onL l c.A ≤ c.High ∧ onL l c.B = wI (onL l c.A + c.Offset) := by
  unfold zah; rw [on_x, on_x]; simp only [Bool.and_eq_true, decide_eq_true_eq, and_assoc, ne_eq]
theorem zeX {c : GCap} (h : zaY c = true) : 2 ≤ c.Low := (zjl (zbH h)).1
theorem zeu : ∀ {a b : List Int}, a.Pairwise (· < ·) → b.Pairwise (· < ·) → (∀ x, x ∈ a ↔ x ∈ b) → a = b
  | [], [], _, _, _ => rfl
  | [], y :: b, _, _, h => absurd ((h y).2 (List.mem_cons_self ..)) (by simp)
  | x :: a, [], _, _, h => absurd ((h x).1 (List.mem_cons_self ..)) (by simp)
  | x :: a, y :: b, ha, hb, h => by
    have h1 := List.pairwise_cons.1 ha; have h2 := List.pairwise_cons.1 hb
    have e : x = y := by
      rcases List.mem_cons.1 ((h x).1 (List.mem_cons_self ..)) with e | hx
      · exact e
      · rcases List.mem_cons.1 ((h y).2 (List.mem_cons_self ..)) with e | hy
        · exact e.symm
        · have := h1.1 y hy; have := h2.1 x hx; omega
    subst e; rw [zeu h1.2 h2.2 fun z => ?_]; constructor
    · intro hz; rcases List.mem_cons.1 ((h z).1 (List.mem_cons_of_mem _ hz)) with e | h3
      · have := h1.1 z hz; omega
      · exact h3
    · intro hz; rcases List.mem_cons.1 ((h z).2 (List.mem_cons_of_mem _ hz)) with e | h3
      · have := h2.1 z hz; omega
      · exact h3
theorem zix {α : Type} [Inhabited α] {l : List α} {f : α → Int} (h : adjB (fun a b => decide (f a < f b)) l = true) : (l.map f).Pairwise (· < ·) := by
  have h1 : ∀ i, i + 1 < l.length → f (nth l i) < f (nth l (i + 1)) := fun i hi => by
    have := of_decide_eq_true (List.all_eq_true.1 h (i + 1) (List.mem_range'_1.2 ⟨by omega, by omega⟩))
    rwa [show i + 1 - 1 = i from rfl] at this
  have h2 : ∀ d i, i + d + 1 < l.length → f (nth l i) < f (nth l (i + d + 1)) := by
    intro d
    induction d with
    | zero => intro i hi; exact h1 i hi
    | succ d ih => intro i hi; have := ih i (by omega); have := h1 (i + d + 1) (by omega); rw [show i + (d + 1) + 1 = i + d + 1 + 1 by omega]; omega
  refine List.pairwise_iff_getElem.2 fun i j hi hj hij => ?_; rw [List.length_map] at hi hj; rw [List.getElem_map, List.getElem_map, ← zaN hi, ← zaN hj]; have := h2 (j - i - 1) i (by omega)
  rwa [show i + (j - i - 1) + 1 = j by omega] at this
theorem zcC {p : GProblem} (h : incD p = true) : (p.Domains.map (·.Station)).Pairwise (· < ·) := zix h
theorem zek {p : GProblem} (h : p.Domains.all okD = true) (i : Int) : hasD p i = anyD p i := by
  unfold hasD anyD; by_cases hi : 0 ≤ i ∧ i < 512
  · rw [decide_eq_true hi.1, decide_eq_true hi.2]; rfl
  · have e : (decide (0 ≤ i) && decide (i < 512)) = false := by
      rw [Bool.and_eq_false_iff, decide_eq_false_iff_not, decide_eq_false_iff_not]; omega
    rw [e, Bool.false_and]
    symm
    rw [List.any_eq_false]; intro d hd hx; have := zdg h hd; have := of_decide_eq_true hx; omega
theorem anyD_mem {p : GProblem} {i : Int} : anyD p i = true ↔ i ∈ p.Domains.map (·.Station) := by
  unfold anyD; rw [List.any_eq_true, List.mem_map]; constructor
  · rintro ⟨d, h1, h2⟩; exact ⟨d, h1, of_decide_eq_true h2⟩
  · rintro ⟨d, h1, rfl⟩; exact ⟨d, h1, decide_eq_true rfl⟩
structure OkP (p : GProblem) : Prop where
  d : p.Domains.all okD = true
  r : zc2 p.Rules = true
  i : incD p = true
  l : zfW p = true
theorem zbq {p : GProblem} (h : okP p = true) : OkP p := ⟨zbv h, zbv (zbH h), zbv (zbH (zbH h)), zbH (zbH (zbH h))⟩
theorem OkP.len {p : GProblem} (h : OkP p) : p.Domains.length ≤ 512 := zfG h.d h.i
theorem zfa {l : List Int} (h : l.Pairwise (· ≤ ·)) : (Lib.compact l).Pairwise (· < ·) ∧ ∀ x, x ∈ Lib.compact l ↔ x ∈ l := by
  have hD : ∀ i j, i ≤ j → j < l.length → l.toArray[i]! ≤ l.toArray[j]! := fun i j hij hj => by
    rcases Nat.lt_or_ge i j with h1 | h1
    · have := List.pairwise_iff_getElem.1 h i j (by omega) hj h1; simpa [show i < l.length by omega, hj] using this
    · (obtain rfl : i = j := by omega); exact Int.le_refl _
  have key : ∀ m, m ≤ l.length → (Lib.compactUpTo l.toArray m).Pairwise (· < ·) ∧ ∀ x, x ∈ Lib.compactUpTo l.toArray m ↔ ∃ j, j < m ∧ l.toArray[j]! = x := by
    intro m
    induction m with
    | zero => intro _; exact ⟨by simp [Lib.compactUpTo], fun x => by simp [Lib.compactUpTo]⟩
    | succ m ih =>
      intro hm; obtain ⟨h1, h2⟩ := ih (by omega); rw [Lib.compactUpTo_succ]
      cases hk : Lib.keeps l.toArray m with
      | true =>
        rw [if_pos rfl]; have hk' := of_decide_eq_true hk; refine ⟨List.pairwise_append.2 ⟨h1, List.pairwise_singleton _ _, fun a ha b hb => ?_⟩, fun x => ?_⟩
        · obtain ⟨j, hj, rfl⟩ := (h2 a).1 ha; obtain rfl := List.mem_singleton.1 hb; have a1 := hD j (m - 1) (by omega) (by omega); have a2 := hD (m - 1) m (by omega) (by omega); rcases hk' with e | e
          · omega
          · omega
        · rw [List.mem_append, h2, List.mem_singleton]; constructor
          · rintro (⟨j, hj, e⟩ | e)
            · exact ⟨j, by omega, e⟩
            · exact ⟨m, by omega, e.symm⟩
          · rintro ⟨j, hj, e⟩; rcases Nat.lt_or_ge j m with h3 | h3
            · exact .inl ⟨j, h3, e⟩
            · (obtain rfl : j = m := by omega); exact .inr e.symm
      | false =>
        rw [if_neg (by simp), List.append_nil]; refine ⟨h1, fun x => ?_⟩; have hk' := of_decide_eq_false hk; have h0 : m ≠ 0 := fun e => hk' (.inl e)
        have h3 : l.toArray[m]! = l.toArray[m - 1]! := by
          by_cases e : l.toArray[m]! = l.toArray[m - 1]!
          · exact e
          · exact absurd (.inr e) hk'
        rw [h2]; constructor
        · rintro ⟨j, hj, e⟩; exact ⟨j, by omega, e⟩
        · rintro ⟨j, hj, e⟩; rcases Nat.lt_or_ge j m with h4 | h4
          · exact ⟨j, h4, e⟩
          · (obtain rfl : j = m := by omega); exact ⟨j - 1, by omega, by rw [← h3]; exact e⟩
  obtain ⟨h1, h2⟩ := key l.length (Nat.le_refl _); refine ⟨h1, fun x => (h2 x).trans ?_⟩; constructor
  · rintro ⟨j, hj, rfl⟩; simp [hj]
  · intro hx; obtain ⟨j, hj, rfl⟩ := List.mem_iff_getElem.1 hx; exact ⟨j, hj, by simp [hj]⟩
end Go.Proofs.Ytnhdlloidbomdaa
