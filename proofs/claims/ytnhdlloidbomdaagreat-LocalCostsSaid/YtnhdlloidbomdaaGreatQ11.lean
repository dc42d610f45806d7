/- Yz Pu Ys Ua Ug Uh Ub Of: shortened and put together by squeeze.py. -/
import Derived.Test.YtnhdlloidbomdaaGreatQ10
import Derived.Deep.Slices
import Derived.ChangeArms
set_option maxRecDepth 100000
set_option maxHeartbeats 4000000
set_option linter.unusedVariables false
set_option linter.unusedSectionVars false
set_option linter.unusedSimpArgs false
namespace Go.Proofs.YtnhdlloidbomdaaGreat
open Go.RowKit
def zaM  : GProblem :=
  (GProblem.mk [(GDomain.mk 1 [14, 15]), (GDomain.mk 2 [14, 15]), (GDomain.mk 3 [14])] (GRules.mk [(GPair.mk 1 2 0 14 51), (GPair.mk 2 3 0 14 51)] [(GLoad.mk 3 1 7 14 51)] [(GCap.mk 3 5 14 51)]))
theorem zbV (F0 : Frz) (w : World) (hF0 : F0.At w)  : Calls Tryz.prog 24 #[] w fun e w' => ∃ (y : Value × List (List Value) × Value × Value × Value) (G : Frz), (SlD GDomain.rep G y.1 2 y.2.1 ((zaM).Domains) ∧ SlC G y.2.2.1 5 (((zaM).Rules.Pairs).map GPair.enc) ∧ SlC G y.2.2.2.1 5 (((zaM).Rules.Loads).map GLoad.enc) ∧ SlC G y.2.2.2.2 4 (((zaM).Rules.Caps).map GCap.enc)) ∧ e = .returned (.agg [y.1, y.2.2.1, y.2.2.2.1, y.2.2.2.2].toArray) ∧ Fx F0 w G w' := by
  obtain ⟨r, hk⟩ : ∃ r, zaM = r := ⟨_, rfl⟩; rw [hk]; unfold zaM at hk; obtain ⟨S0, F1, rfl, hS0, hp0⟩ := zam hF0; refine zar Tryz.func24 rfl rfl rfl hp0 ?_; refine T.sr ?_; refine TL.e (Ew.alloc rfl) ?_; rintro _ _ ⟨g0, rfl, rfl⟩; refine TL.nx ?_; refine TL.e (Ew.buildSlice rfl rfl rfl (by decide)) ?_; rintro _ _ ⟨g1, rfl, rfl⟩; refine TL.av (fun w hw => hw.freezeR (i := 2) (j := 0) (by decide) rfl rfl) ?_; rintro F2 ⟨le1_2, hz2⟩; dsimp only [List.set, List.eraseIdx]; have hf2 : SlC F2.toFrz (.slice (some ⟨g1, 0, none⟩) 2 2) 1 ([14, 15].map eI) := (SlK.lit hz2 rfl (Nat.le_refl _) (by decide)).toF (xs := [14, 15]) rfl (fun _ => rfl); refine TL.y (Yv.build rfl rfl) ?_; refine TL.e (Ew.buildSlice rfl rfl rfl (by decide)) ?_; rintro _ _ ⟨g3, rfl, rfl⟩; refine TL.av (fun w hw => hw.freezeR (i := 2) (j := 0) (by decide) rfl rfl) ?_; rintro F3 ⟨le2_3, hz3⟩; dsimp only [List.set, List.eraseIdx]; have le1_3 := le1_2.trans le2_3; have hf3 : SlC F3.toFrz (.slice (some ⟨g3, 0, none⟩) 2 2) 1 ([14, 15].map eI) := (SlK.lit hz3 rfl (Nat.le_refl _) (by decide)).toF (xs := [14, 15]) rfl (fun _ => rfl); refine TL.y (Yv.build rfl rfl) ?_; refine TL.e (Ew.buildSlice rfl rfl rfl (by decide)) ?_; rintro _ _ ⟨g5, rfl, rfl⟩; refine TL.av (fun w hw => hw.freezeR (i := 2) (j := 0) (by decide) rfl rfl) ?_; rintro F4 ⟨le3_4, hz4⟩; dsimp only [List.set, List.eraseIdx]; have le1_4 := le1_3.trans le3_4; have le2_4 := le2_3.trans le3_4; have hf4 : SlC F4.toFrz (.slice (some ⟨g5, 0, none⟩) 1 1) 1 ([14].map eI) := (SlK.lit hz4 rfl (Nat.le_refl _) (by decide)).toF (xs := [14]) rfl (fun _ => rfl); refine TL.y (Yv.build rfl rfl) ?_; refine TL.e (Ew.buildSlice rfl rfl rfl (by decide)) ?_; rintro _ _ ⟨g7, rfl, rfl⟩; have hl7 : OwnD GDomain.rep F4.toFrz 2 [[.int .i64 1, (.slice (some ⟨g1, 0, none⟩) 2 2)], [.int .i64 2, (.slice (some ⟨g3, 0, none⟩) 2 2)], [.int .i64 3, (.slice (some ⟨g5, 0, none⟩) 1 1)]] [(GDomain.mk 1 [14, 15]), (GDomain.mk 2 [14, 15]), (GDomain.mk 3 [14])] := (OwnD.snoc (OwnD.snoc (OwnD.snoc (OwnD.nil _ _ 2) ⟨_, rfl, (SlC.mono hf2 le2_4)⟩ rfl) ⟨_, rfl, (SlC.mono hf3 le3_4)⟩ rfl) ⟨_, rfl, hf4⟩ rfl); refine TL.y (Yv.build rfl rfl) ?_; refine TL.y (Yv.build rfl rfl) ?_; refine TL.e (Ew.buildSlice rfl rfl rfl (by decide)) ?_; rintro _ _ ⟨g10, rfl, rfl⟩; refine TL.y (Yv.build rfl rfl) ?_; refine TL.e (Ew.buildSlice rfl rfl rfl (by decide)) ?_; rintro _ _ ⟨g12, rfl, rfl⟩; refine TL.y (Yv.build rfl rfl) ?_; refine TL.e (Ew.buildSlice rfl rfl rfl (by decide)) ?_; rintro _ _ ⟨g14, rfl, rfl⟩; refine TL.y (Yv.build rfl rfl) ?_; refine TL.y (Yv.build rfl rfl) ?_; refine TL.e0 (Ew.aj 4 rfl rfl rfl rfl rfl rfl) ?_; rintro _ _ ⟨rfl, rfl⟩; refine TL.ns (T.ret ?_); refine K.av (fun w hw => hw.freezeR (i := 5) (j := 3) (by decide) rfl rfl) ?_; rintro F5 ⟨le4_5, hz5⟩; dsimp only [List.set, List.eraseIdx]; have le1_5 := le1_4.trans le4_5; have hf5 : SlD GDomain.rep F5.toFrz (.slice (some ⟨g7, 0, none⟩) 3 3) 2 [[.int .i64 1, (.slice (some ⟨g1, 0, none⟩) 2 2)], [.int .i64 2, (.slice (some ⟨g3, 0, none⟩) 2 2)], [.int .i64 3, (.slice (some ⟨g5, 0, none⟩) 1 1)]] [(GDomain.mk 1 [14, 15]), (GDomain.mk 2 [14, 15]), (GDomain.mk 3 [14])] := (SlK.lit hz5 rfl (Nat.le_refl _) (by decide)).toD (OwnD.mono (rep := GDomain.rep) (fun _ _ _ _ => GDomain.mono) hl7 le4_5) rfl; refine K.av (fun w hw => hw.freezeR (i := 4) (j := 2) (by decide) rfl rfl) ?_; rintro F6 ⟨le5_6, hz6⟩; dsimp only [List.set, List.eraseIdx]; have le1_6 := le1_5.trans le5_6; have hf6 : SlC F6.toFrz (.slice (some ⟨g10, 0, none⟩) 2 2) 5 ([(GPair.mk 1 2 0 14 51), (GPair.mk 2 3 0 14 51)].map GPair.enc) := (SlK.lit hz6 rfl (Nat.le_refl _) (by decide)).toF (xs := [(GPair.mk 1 2 0 14 51), (GPair.mk 2 3 0 14 51)]) rfl GPair.len; refine K.av (fun w hw => hw.freezeR (i := 3) (j := 1) (by decide) rfl rfl) ?_; rintro F7 ⟨le6_7, hz7⟩; dsimp only [List.set, List.eraseIdx]; have le1_7 := le1_6.trans le6_7; have le5_7 := le5_6.trans le6_7; have hf7 : SlC F7.toFrz (.slice (some ⟨g12, 0, none⟩) 1 1) 5 ([(GLoad.mk 3 1 7 14 51)].map GLoad.enc) := (SlK.lit hz7 rfl (Nat.le_refl _) (by decide)).toF (xs := [(GLoad.mk 3 1 7 14 51)]) rfl GLoad.len; refine K.av (fun w hw => hw.freezeR (i := 2) (j := 0) (by decide) rfl rfl) ?_; rintro F8 ⟨le7_8, hz8⟩; dsimp only [List.set, List.eraseIdx]; have le1_8 := le1_7.trans le7_8; have le5_8 := le5_7.trans le7_8; have le6_8 := le6_7.trans le7_8; have hf8 : SlC F8.toFrz (.slice (some ⟨g14, 0, none⟩) 1 1) 4 ([(GCap.mk 3 5 14 51)].map GCap.enc) := (SlK.lit hz8 rfl (Nat.le_refl _) (by decide)).toF (xs := [(GCap.mk 3 5 14 51)]) rfl GCap.len; subst hk; exact K.aT 0 rfl rfl rfl rfl (fun w' hw => ⟨((.slice (some ⟨g7, 0, none⟩) 3 3), [[.int .i64 1, (.slice (some ⟨g1, 0, none⟩) 2 2)], [.int .i64 2, (.slice (some ⟨g3, 0, none⟩) 2 2)], [.int .i64 3, (.slice (some ⟨g5, 0, none⟩) 1 1)]], (.slice (some ⟨g10, 0, none⟩) 2 2), (.slice (some ⟨g12, 0, none⟩) 1 1), (.slice (some ⟨g14, 0, none⟩) 1 1)), F8.toFrz, ⟨(SlD.mono (rep := GDomain.rep) (fun _ _ _ _ => GDomain.mono) hf5 le5_8), (SlC.mono hf6 le6_8), (SlC.mono hf7 le7_8), hf8⟩, rfl, Fx.of hw (i := 1) rfl hS0 le1_8⟩)
def zaV (a : Int) (b : Int) (c : Int) : List GChoice :=
  [(GChoice.mk 1 a), (GChoice.mk 2 b), (GChoice.mk 3 c)]
theorem zco (F0 : Frz) (w : World) (hF0 : F0.At w) (a : Int) (b : Int) (c : Int) : Calls Tryz.prog 25 #[.int .i64 a, .int .i64 b, .int .i64 c] w fun e w' => ∃ (y : Value) (G : Frz), (SlC G y 2 ((zaV a b c).map GChoice.enc)) ∧ e = .returned (y) ∧ Fx F0 w G w' := by
  obtain ⟨r, hk⟩ : ∃ r, zaV a b c = r := ⟨_, rfl⟩; rw [hk]; unfold zaV at hk; obtain ⟨S0, F1, rfl, hS0, hp0⟩ := zam hF0; refine zar Tryz.func25 rfl rfl rfl hp0 ?_; refine T.sr ?_; refine TL.run 1 rfl ?_; refine TL.nx ?_; refine TL.run 1 rfl ?_; refine TL.y (Yv.build rfl rfl) ?_; refine TL.run 1 rfl ?_; refine TL.y (Yv.build rfl rfl) ?_; refine TL.run 1 rfl ?_; refine TL.y (Yv.build rfl rfl) ?_; refine TL.e (Ew.buildSlice rfl rfl rfl (by decide)) ?_; rintro _ _ ⟨g13, rfl, rfl⟩; refine TL.run 1 rfl ?_; refine TL.ns (T.ret ?_); refine K.av (fun w hw => hw.freezeR (i := 1) (j := 0) (by decide) rfl rfl) ?_; rintro F2 ⟨le1_2, hz2⟩; dsimp only [List.set, List.eraseIdx]; have hf2 : SlC F2.toFrz (.slice (some ⟨g13, 0, none⟩) 3 3) 2 ([(GChoice.mk 1 a), (GChoice.mk 2 b), (GChoice.mk 3 c)].map GChoice.enc) := (SlK.lit hz2 rfl (Nat.le_refl _) (by decide)).toF (xs := [(GChoice.mk 1 a), (GChoice.mk 2 b), (GChoice.mk 3 c)]) rfl GChoice.len; subst hk; exact K.ai rfl rfl (fun w' hw => ⟨(.slice (some ⟨g13, 0, none⟩) 3 3), F2.toFrz, hf2, rfl, Fx.of hw (i := 0) rfl hS0 le1_2⟩)
def zcr (l : List GChoice) (want : Int) : Option Bool :=
  (zcY (zaM) l).bind fun r10 =>
  some ((decide (r10.2 = 0)) && (decide (r10.1 = want)))
theorem zc6 (F0 : Frz) (w : World) (hF0 : F0.At w) (l : List GChoice) (vl : Value) (hl : SlC F0 vl 2 (l.map GChoice.enc)) (want : Int) (r : Bool) (hr : zcr l want = some r) : Calls Tryz.prog 26 #[vl, .int .i64 want] w fun e w' => e = .returned (.bool r) ∧ Below w.heap.size w w' := by
  have hk := hr; unfold zcr at hk; haveI := hl.oneC; obtain ⟨S0, F1, rfl, hS0, hp0⟩ := zam hF0; refine zar Tryz.func26 rfl rfl rfl hp0 ?_; refine T.sr ?_; refine TL.run 1 rfl ?_; refine TL.ns (T.seq ?_); have hq := zal hk; clear hk; obtain ⟨r10, hr10, hk⟩ := hq; (try dsimp only at hk); refine T.region ?_; refine TL.e (Ew.aA 0 rfl rfl rfl rfl (fun w hw hF => zbV _ w hF )) ?_; rintro _ _ ⟨⟨v8_0_0, cs8_0_0, v8_0_1, v8_0_2, v8_0_3⟩, F2, le1_2, ⟨hf8_0_0, hf8_0_1, hf8_0_2, hf8_0_3⟩, rfl, rfl⟩; dsimp only at hf8_0_0 hf8_0_1 hf8_0_2 hf8_0_3 ⊢; haveI := hf8_0_0.1.oneC; haveI := hf8_0_1.oneC; haveI := hf8_0_2.oneC; haveI := hf8_0_3.oneC; refine TL.run 1 rfl ?_; refine TL.e (Ew.ah rfl rfl rfl (fun w hw => zey _ w (hw.fr (i := 0) rfl) (zaM) v8_0_0 cs8_0_0 hf8_0_0 v8_0_1 hf8_0_1 v8_0_2 hf8_0_2 v8_0_3 hf8_0_3 l vl (SlC.mono hl le1_2) r10 hr10)) ?_; rintro _ _ ⟨rfl, rfl⟩; refine TL.run 5 rfl ?_; refine TL.ns (T.seq ?_); refine T.af (ι := Unit) (fun z => [(4, .bool ((decide (r10.2 = 0)) && (decide (r10.1 = want))))]) (fun z => [.fr F2]) (fun z => True) ?_ ?_
  · refine T.region ?_; refine TL.run 3 rfl ?_; refine TL.gs rfl rfl rfl (fun h1 => ?_) (fun h1 => ?_)
    · have p1 := of_decide_eq_true h1; refine TL.run 5 rfl ?_; refine TL.nil ?_; exact K.ae () trivial (.b (zcM h1) .nil) (List.Sublist.refl _)
    · have p1 := of_decide_eq_false h1; refine TL.run 5 rfl ?_; refine TL.nil ?_; exact K.ae () trivial (.b (zay h1).symm .nil) (List.Sublist.refl _)
  · rintro _ _; refine T.ret ?_; obtain rfl := Option.some.inj hk; exact K.ai rfl rfl (fun w' hw => ⟨rfl, hw.isBelow⟩)
def zb8 (fuel : Nat)  : Option Bool :=
  (zcJ (zaM) []).bind fun r9 =>
  (zbP (zaM) r9.1).bind fun r15 =>
  zaE (fun (x_1 : Bool) =>
    (bif x_1 then
      some false
      else
      (zcJ (zaM) [(GChoice.mk 1 15), (GChoice.mk 2 16), (GChoice.mk 9 14)]).bind fun r47 =>
      (zbP (zaM) r47.1).bind fun r53 =>
      zaE (fun (x_8 : Bool) =>
        (bif x_8 then
          some false
          else
          grd (0 ≤ 2 ∧ 2 ≤ ((zaV 15 14 14).length : Int)) <|
          (zc4 fuel (zaM) ((zaV 15 14 14).take 2) 7 0).bind fun r83 =>
          zaE (fun (x_15 : Bool) =>
            (bif x_15 then
              some false
              else
              (zc4 fuel (zaM) [] (-1) 100).bind fun r115 =>
              some (((decide (r115.2.2.2 = 0)) && (decide (r115.2.1 = 100))) && (!r115.2.2.1))))
          (fun k16 =>
            (bif decide (¬ r83.2.2.2 = 0) then
              k16 true
              else
              (bif decide (¬ r83.2.1 = 0) then
                k16 true
                else
                (bif r83.2.2.1 then
                  k16 true
                  else
                  (bif !(zbR r83.1 (zaV 15 14 14)) then
                    k16 true
                    else
                    (zcr (zaV 14 15 14) 1).bind fun r105 =>
                    (bif !r105 then
                      k16 true
                      else
                      (zcr (zaV 15 15 14) 1).bind fun r110 =>
                      k16 (!r110)))))))))
      (fun k9 =>
        (bif decide (¬ r47.2 = 0) then
          k9 true
          else
          (bif decide (¬ r53.2 = 0) then
            k9 true
            else
            (bif !(zbR r47.1 (zaV 15 14 14)) then
              k9 true
              else
              (zcr r47.1 1).bind fun r70 =>
              (bif !r70 then
                k9 true
                else
                k9 (!(zbj r53.1 [2, 3])))))))))
  (fun k2 =>
    (bif decide (¬ r9.2 = 0) then
      k2 true
      else
      (bif decide (¬ r15.2 = 0) then
        k2 true
        else
        (bif !(zbR r9.1 (zaV 14 14 14)) then
          k2 true
          else
          (zcr r9.1 3).bind fun r32 =>
          (bif !r32 then
            k2 true
            else
            k2 (!(zbj r15.1 [1, 2, 3])))))))
theorem zc5 (F0 : Frz) (w : World) (hF0 : F0.At w)  (fuel : Nat) (r : Bool) (hr : zb8 fuel = some r) : Calls Tryz.prog 8 #[] w fun e w' => e = .returned (.bool r) ∧ Below w.heap.size w w' := by
  have hk := hr; unfold zb8 at hk; obtain ⟨S0, F1, rfl, hS0, hp0⟩ := zam hF0; refine zar Tryz.func8 rfl rfl rfl hp0 ?_; refine T.sr ?_; refine TL.run 1 rfl ?_; refine TL.ns (T.seq ?_); have hq := zal hk; clear hk; obtain ⟨r9, hr9, hk⟩ := hq; (try dsimp only at hk); refine T.region ?_; refine TL.e (Ew.aA 0 rfl rfl rfl rfl (fun w hw hF => zbV _ w hF )) ?_; rintro _ _ ⟨⟨v8_0_0, cs8_0_0, v8_0_1, v8_0_2, v8_0_3⟩, F2, le1_2, ⟨hf8_0_0, hf8_0_1, hf8_0_2, hf8_0_3⟩, rfl, rfl⟩; dsimp only at hf8_0_0 hf8_0_1 hf8_0_2 hf8_0_3 ⊢; haveI := hf8_0_0.1.oneC; haveI := hf8_0_1.oneC; haveI := hf8_0_2.oneC; haveI := hf8_0_3.oneC; refine TL.e (Ew.au [0] [] [] rfl rfl rfl rfl (by decide) (fun w hw hw2 hF => zdo _ w hF (zaM) v8_0_0 cs8_0_0 hf8_0_0 v8_0_1 hf8_0_1 v8_0_2 hf8_0_2 v8_0_3 hf8_0_3 [] (.slice none 0 0) (SlC.nil _ 2) r9 hr9)) ?_; rintro _ _ ⟨v9_0_0, -, rfl, rfl⟩; dsimp only [List.cons_append, List.nil_append]; refine TL.aC 0 rfl ?_; intro iv9_0_0 hmv9_0_0; refine TL.run 5 rfl ?_; refine TL.ns (T.seq ?_); refine T.av (fun w hw => hw.freezeS (i := 1) (j := 0) (by decide) rfl rfl) ?_; rintro F3 ⟨le2_3, hz3⟩; dsimp only [List.set, List.eraseIdx]; have hf3 := hz3.toF rfl GChoice.len; haveI := hf3.oneC; have hq := zal hk; clear hk; obtain ⟨r15, hr15, hk⟩ := hq; (try dsimp only at hk); refine T.region ?_; refine TL.e (Ew.aA 0 rfl rfl rfl rfl (fun w hw hF => zbV _ w hF )) ?_; rintro _ _ ⟨⟨v13_0_0, cs13_0_0, v13_0_1, v13_0_2, v13_0_3⟩, F4, le3_4, ⟨hf13_0_0, hf13_0_1, hf13_0_2, hf13_0_3⟩, rfl, rfl⟩; dsimp only at hf13_0_0 hf13_0_1 hf13_0_2 hf13_0_3 ⊢; haveI := hf13_0_0.1.oneC; haveI := hf13_0_1.oneC; haveI := hf13_0_2.oneC; haveI := hf13_0_3.oneC; refine TL.run 1 rfl ?_; refine TL.e (Ew.aA 0 rfl rfl rfl rfl (fun w hw hF => zc1 _ w hF (zaM) v13_0_0 cs13_0_0 hf13_0_0 v13_0_1 hf13_0_1 v13_0_2 hf13_0_2 v13_0_3 hf13_0_3 r9.1 v9_0_0 (SlC.mono hf3 le3_4) r15 hr15)) ?_; rintro _ _ ⟨v15_0_0, F5, le4_5, hf15_0_0, rfl, rfl⟩; have le3_5 := le3_4.trans le4_5; haveI := hf15_0_0.oneC; refine TL.run 5 rfl ?_; refine TL.ns (T.seq (T.seq ?_)); (try dsimp only at hk); have hq := zad hk; clear hk; obtain ⟨k2, hk2, hk⟩ := hq; (try dsimp only at hk); refine T.af (ι := Bool × FzB w (fun _ => False) S0) (fun z => [(40, .bool z.1)]) (fun z => [.fr z.2]) (fun z => k2 z.1 = some r ∧ F5.toFrz.Le z.2.toFrz) ?_ ?_
  · refine T.region ?_; refine TL.run 3 rfl ?_; refine TL.gs rfl rfl rfl (fun h3 => ?_) (fun h3 => ?_)
    · have p3 := of_decide_eq_true h3; replace hk := zab hk h3; refine TL.run 20 rfl ?_; refine TL.nil ?_; exact K.ae (true, F5) ⟨hk, (Frz.Le.refl _)⟩ (.c .nil) (List.Sublist.refl _)
    · have p3 := of_decide_eq_false h3; replace hk := zaa hk h3; refine TL.run 4 rfl ?_; refine TL.gs rfl rfl rfl (fun h4 => ?_) (fun h4 => ?_)
      · have p4 := of_decide_eq_true h4; replace hk := zab hk h4; refine TL.run 16 rfl ?_; refine TL.nil ?_; exact K.ae (true, F5) ⟨hk, (Frz.Le.refl _)⟩ (.c .nil) (List.Sublist.refl _)
      · have p4 := of_decide_eq_false h4; replace hk := zaa hk h4; refine TL.run 1 rfl ?_; refine TL.e (Ew.aA 0 rfl rfl rfl rfl (fun w hw hF => zco _ w hF 14 14 14)) ?_; rintro _ _ ⟨v26_0_0, F7, le5_7, hf26_0_0, hq, rfl⟩; obtain rfl := hq.symm; have le3_7 := le3_5.trans le5_7; haveI := hf26_0_0.oneC; refine TL.e (Ew.ah rfl rfl rfl (fun w hw => zc0 _ w (hw.fr (i := 0) rfl) r9.1 v9_0_0 (SlC.mono hf3 le3_7) (zaV 14 14 14) v26_0_0 hf26_0_0)) ?_; rintro _ _ ⟨rfl, rfl⟩; refine TL.run 3 rfl ?_; refine TL.gs rfl rfl rfl (fun h5 => ?_) (fun h5 => ?_)
        · replace hk := zab hk h5; refine TL.run 10 rfl ?_; refine TL.nil ?_; exact K.ae (true, F7) ⟨hk, le5_7⟩ (.c .nil) (List.Sublist.refl _)
        · replace hk := zaa hk h5; refine TL.run 1 rfl ?_; have hq := zal hk; clear hk; obtain ⟨r32, hr32, hk⟩ := hq; refine TL.e (Ew.ah rfl rfl rfl (fun w hw => zc6 _ w (hw.fr (i := 0) rfl) r9.1 v9_0_0 (SlC.mono hf3 le3_7) 3 r32 hr32)) ?_; rintro _ _ ⟨rfl, rfl⟩; refine TL.run 3 rfl ?_; refine TL.gs rfl rfl rfl (fun h6 => ?_) (fun h6 => ?_)
          · replace hk := zab hk h6; refine TL.run 5 rfl ?_; refine TL.nil ?_; exact K.ae (true, F7) ⟨hk, le5_7⟩ (.c .nil) (List.Sublist.refl _)
          · replace hk := zaa hk h6; refine TL.run 1 rfl ?_; refine TL.e (Ew.buildSlice rfl rfl rfl (by decide)) ?_; rintro _ _ ⟨g37, rfl, rfl⟩; refine TL.av (fun w hw => hw.freezeR (i := 1) (j := 0) (by decide) rfl rfl) ?_; rintro F8 ⟨le7_8, hz8⟩; dsimp only [List.set, List.eraseIdx]; have le5_8 := le5_7.trans le7_8; have hf8 : SlC F8.toFrz (.slice (some ⟨g37, 0, none⟩) 3 3) 1 ([1, 2, 3].map eI) := (SlK.lit hz8 rfl (Nat.le_refl _) (by decide)).toF (xs := [1, 2, 3]) rfl (fun _ => rfl); refine TL.e (Ew.ah rfl rfl rfl (fun w hw => zc2 _ w (hw.fr (i := 0) rfl) r15.1 v15_0_0 (SlC.mono hf15_0_0 le5_8) [1, 2, 3] (.slice (some ⟨g37, 0, none⟩) 3 3) hf8)) ?_; rintro _ _ ⟨rfl, rfl⟩; refine TL.run 2 rfl ?_; refine TL.nil ?_; exact K.ae (!(zbj r15.1 [1, 2, 3]), F8) ⟨hk, le5_8⟩ (.c .nil) (List.Sublist.refl _)
  · rintro ⟨x_1, F6⟩ ⟨hk, le5_6⟩; (try dsimp only at *); rw [← hk2] at hk; (try dsimp only at hk); refine T.cond rfl (fun h7 => ?_) (fun h7 => ?_)
    · replace hk := zab hk h7; refine T.sr ?_; refine TL.run 1 rfl ?_; refine TL.ns (T.ret (K.ab ?_)); obtain rfl := Option.some.inj hk; exact K.ai rfl rfl (fun w' hw => ⟨rfl, hw.isBelow⟩)
    · replace hk := zaa hk h7; refine T.skip (K.seq (T.seq ?_)); have hq := zal hk; clear hk; obtain ⟨r47, hr47, hk⟩ := hq; (try dsimp only at hk); refine T.region ?_; refine TL.e (Ew.aA 0 rfl rfl rfl rfl (fun w hw hF => zbV _ w hF )) ?_; rintro _ _ ⟨⟨v42_0_0, cs42_0_0, v42_0_1, v42_0_2, v42_0_3⟩, F9, le6_9, ⟨hf42_0_0, hf42_0_1, hf42_0_2, hf42_0_3⟩, rfl, rfl⟩; dsimp only at hf42_0_0 hf42_0_1 hf42_0_2 hf42_0_3 ⊢; haveI := hf42_0_0.1.oneC; haveI := hf42_0_1.oneC; haveI := hf42_0_2.oneC; haveI := hf42_0_3.oneC; refine TL.y (Yv.build rfl rfl) ?_; refine TL.y (Yv.build rfl rfl) ?_; refine TL.y (Yv.build rfl rfl) ?_; refine TL.e (Ew.buildSlice rfl rfl rfl (by decide)) ?_; rintro _ _ ⟨g46, rfl, rfl⟩; refine TL.av (fun w hw => hw.freezeR (i := 1) (j := 0) (by decide) rfl rfl) ?_; rintro F10 ⟨le9_10, hz10⟩; dsimp only [List.set, List.eraseIdx]; have hf10 : SlC F10.toFrz (.slice (some ⟨g46, 0, none⟩) 3 3) 2 ([(GChoice.mk 1 15), (GChoice.mk 2 16), (GChoice.mk 9 14)].map GChoice.enc) := (SlK.lit hz10 rfl (Nat.le_refl _) (by decide)).toF (xs := [(GChoice.mk 1 15), (GChoice.mk 2 16), (GChoice.mk 9 14)]) rfl GChoice.len; refine TL.e (Ew.au [0] [] [] rfl rfl rfl rfl (by decide) (fun w hw hw2 hF => zdo _ w hF (zaM) v42_0_0 cs42_0_0 (SlD.mono (rep := GDomain.rep) (fun _ _ _ _ => GDomain.mono) hf42_0_0 le9_10) v42_0_1 (SlC.mono hf42_0_1 le9_10) v42_0_2 (SlC.mono hf42_0_2 le9_10) v42_0_3 (SlC.mono hf42_0_3 le9_10) [(GChoice.mk 1 15), (GChoice.mk 2 16), (GChoice.mk 9 14)] (.slice (some ⟨g46, 0, none⟩) 3 3) hf10 r47 hr47)) ?_; rintro _ _ ⟨v47_0_0, -, rfl, rfl⟩; dsimp only [List.cons_append, List.nil_append]; refine TL.aC 0 rfl ?_; intro iv47_0_0 hmv47_0_0; refine TL.run 5 rfl ?_; refine TL.ns (T.seq ?_); refine T.av (fun w hw => hw.freezeS (i := 1) (j := 0) (by decide) rfl rfl) ?_; rintro F11 ⟨le10_11, hz11⟩; dsimp only [List.set, List.eraseIdx]; have hf11 := hz11.toF rfl GChoice.len; haveI := hf11.oneC; have hq := zal hk; clear hk; obtain ⟨r53, hr53, hk⟩ := hq; (try dsimp only at hk); refine T.region ?_; refine TL.e (Ew.aA 0 rfl rfl rfl rfl (fun w hw hF => zbV _ w hF )) ?_; rintro _ _ ⟨⟨v51_0_0, cs51_0_0, v51_0_1, v51_0_2, v51_0_3⟩, F12, le11_12, ⟨hf51_0_0, hf51_0_1, hf51_0_2, hf51_0_3⟩, rfl, rfl⟩; dsimp only at hf51_0_0 hf51_0_1 hf51_0_2 hf51_0_3 ⊢; haveI := hf51_0_0.1.oneC; haveI := hf51_0_1.oneC; haveI := hf51_0_2.oneC; haveI := hf51_0_3.oneC; refine TL.run 1 rfl ?_; refine TL.e (Ew.aA 0 rfl rfl rfl rfl (fun w hw hF => zc1 _ w hF (zaM) v51_0_0 cs51_0_0 hf51_0_0 v51_0_1 hf51_0_1 v51_0_2 hf51_0_2 v51_0_3 hf51_0_3 r47.1 v47_0_0 (SlC.mono hf11 le11_12) r53 hr53)) ?_; rintro _ _ ⟨v53_0_0, F13, le12_13, hf53_0_0, rfl, rfl⟩; have le11_13 := le11_12.trans le12_13; haveI := hf53_0_0.oneC; refine TL.run 5 rfl ?_; refine TL.ns (T.seq (T.seq ?_)); (try dsimp only at hk); have hq := zad hk; clear hk; obtain ⟨k9, hk9, hk⟩ := hq; (try dsimp only at hk); refine T.af (ι := Bool × FzB w (fun _ => False) S0) (fun z => [(78, .bool z.1)]) (fun z => [.fr z.2]) (fun z => k9 z.1 = some r ∧ F13.toFrz.Le z.2.toFrz) ?_ ?_
      · refine T.region ?_; refine TL.run 3 rfl ?_; refine TL.gs rfl rfl rfl (fun h10 => ?_) (fun h10 => ?_)
        · have p10 := of_decide_eq_true h10; replace hk := zab hk h10; refine TL.run 20 rfl ?_; refine TL.nil ?_; exact K.ae (true, F13) ⟨hk, (Frz.Le.refl _)⟩ (.c .nil) (List.Sublist.refl _)
        · have p10 := of_decide_eq_false h10; replace hk := zaa hk h10; refine TL.run 4 rfl ?_; refine TL.gs rfl rfl rfl (fun h11 => ?_) (fun h11 => ?_)
          · have p11 := of_decide_eq_true h11; replace hk := zab hk h11; refine TL.run 16 rfl ?_; refine TL.nil ?_; exact K.ae (true, F13) ⟨hk, (Frz.Le.refl _)⟩ (.c .nil) (List.Sublist.refl _)
          · have p11 := of_decide_eq_false h11; replace hk := zaa hk h11; refine TL.run 1 rfl ?_; refine TL.e (Ew.aA 0 rfl rfl rfl rfl (fun w hw hF => zco _ w hF 15 14 14)) ?_; rintro _ _ ⟨v64_0_0, F15, le13_15, hf64_0_0, hq, rfl⟩; obtain rfl := hq.symm; have le11_15 := le11_13.trans le13_15; haveI := hf64_0_0.oneC; refine TL.e (Ew.ah rfl rfl rfl (fun w hw => zc0 _ w (hw.fr (i := 0) rfl) r47.1 v47_0_0 (SlC.mono hf11 le11_15) (zaV 15 14 14) v64_0_0 hf64_0_0)) ?_; rintro _ _ ⟨rfl, rfl⟩; refine TL.run 3 rfl ?_; refine TL.gs rfl rfl rfl (fun h12 => ?_) (fun h12 => ?_)
            · replace hk := zab hk h12; refine TL.run 10 rfl ?_; refine TL.nil ?_; exact K.ae (true, F15) ⟨hk, le13_15⟩ (.c .nil) (List.Sublist.refl _)
            · replace hk := zaa hk h12; refine TL.run 1 rfl ?_; have hq := zal hk; clear hk; obtain ⟨r70, hr70, hk⟩ := hq; refine TL.e (Ew.ah rfl rfl rfl (fun w hw => zc6 _ w (hw.fr (i := 0) rfl) r47.1 v47_0_0 (SlC.mono hf11 le11_15) 1 r70 hr70)) ?_; rintro _ _ ⟨rfl, rfl⟩; refine TL.run 3 rfl ?_; refine TL.gs rfl rfl rfl (fun h13 => ?_) (fun h13 => ?_)
              · replace hk := zab hk h13; refine TL.run 5 rfl ?_; refine TL.nil ?_; exact K.ae (true, F15) ⟨hk, le13_15⟩ (.c .nil) (List.Sublist.refl _)
              · replace hk := zaa hk h13; refine TL.run 1 rfl ?_; refine TL.e (Ew.buildSlice rfl rfl rfl (by decide)) ?_; rintro _ _ ⟨g75, rfl, rfl⟩; refine TL.av (fun w hw => hw.freezeR (i := 1) (j := 0) (by decide) rfl rfl) ?_; rintro F16 ⟨le15_16, hz16⟩; dsimp only [List.set, List.eraseIdx]; have le13_16 := le13_15.trans le15_16; have hf16 : SlC F16.toFrz (.slice (some ⟨g75, 0, none⟩) 2 2) 1 ([2, 3].map eI) := (SlK.lit hz16 rfl (Nat.le_refl _) (by decide)).toF (xs := [2, 3]) rfl (fun _ => rfl); refine TL.e (Ew.ah rfl rfl rfl (fun w hw => zc2 _ w (hw.fr (i := 0) rfl) r53.1 v53_0_0 (SlC.mono hf53_0_0 le13_16) [2, 3] (.slice (some ⟨g75, 0, none⟩) 2 2) hf16)) ?_; rintro _ _ ⟨rfl, rfl⟩; refine TL.run 2 rfl ?_; refine TL.nil ?_; exact K.ae (!(zbj r53.1 [2, 3]), F16) ⟨hk, le13_16⟩ (.c .nil) (List.Sublist.refl _)
      · rintro ⟨x_8, F14⟩ ⟨hk, le13_14⟩; (try dsimp only at *); rw [← hk9] at hk; (try dsimp only at hk); refine T.cond rfl (fun h14 => ?_) (fun h14 => ?_)
        · replace hk := zab hk h14; refine T.sr ?_; refine TL.run 1 rfl ?_; refine TL.ns (T.ret (K.ab ?_)); obtain rfl := Option.some.inj hk; exact K.ai rfl rfl (fun w' hw => ⟨rfl, hw.isBelow⟩)
        · replace hk := zaa hk h14; refine T.skip (K.seq (T.seq ?_)); have hq : (0 ≤ 2 ∧ 2 ≤ ((zaV 15 14 14).length : Int)) ∧ _ := zas hk; clear hk; obtain ⟨g82h, hk⟩ := hq; have hq := zal hk; clear hk; obtain ⟨r83, hr83, hk⟩ := hq; (try dsimp only at hk); refine T.region ?_; refine TL.e (Ew.aA 0 rfl rfl rfl rfl (fun w hw hF => zbV _ w hF )) ?_; rintro _ _ ⟨⟨v80_0_0, cs80_0_0, v80_0_1, v80_0_2, v80_0_3⟩, F17, le14_17, ⟨hf80_0_0, hf80_0_1, hf80_0_2, hf80_0_3⟩, rfl, rfl⟩; dsimp only at hf80_0_0 hf80_0_1 hf80_0_2 hf80_0_3 ⊢; haveI := hf80_0_0.1.oneC; haveI := hf80_0_1.oneC; haveI := hf80_0_2.oneC; haveI := hf80_0_3.oneC; refine TL.e (Ew.aA 0 rfl rfl rfl rfl (fun w hw hF => zco _ w hF 15 14 14)) ?_; rintro _ _ ⟨v81_0_0, F18, le17_18, hf81_0_0, hq, rfl⟩; obtain rfl := hq.symm; haveI := hf81_0_0.oneC; refine TL.y (Yv.bY (i := 2) rfl rfl rfl hf81_0_0 (List.length_map _) (show (2 : Int) = ((2 : Nat) : Int) from rfl) (by omega)) ?_; have hs82_ : SlC F18.toFrz (zev v81_0_0 0 2 2) 2 (((zaV 15 14 14).take 2).map GChoice.enc) := hf81_0_0.sliceh (i := 2) (by omega); haveI := hs82_.oneC; refine TL.e (Ew.aA 0 rfl rfl rfl rfl (fun w hw hF => zd2 _ w hF (zaM) v80_0_0 cs80_0_0 (SlD.mono (rep := GDomain.rep) (fun _ _ _ _ => GDomain.mono) hf80_0_0 le17_18) v80_0_1 (SlC.mono hf80_0_1 le17_18) v80_0_2 (SlC.mono hf80_0_2 le17_18) v80_0_3 (SlC.mono hf80_0_3 le17_18) ((zaV 15 14 14).take 2) (zev v81_0_0 0 2 2) hs82_ 7 0 fuel r83 hr83)) ?_; rintro _ _ ⟨v83_0_0, F19, le18_19, hf83_0_0, rfl, rfl⟩; haveI := hf83_0_0.oneC; refine TL.run 9 rfl ?_; refine TL.ns (T.seq (T.seq ?_)); (try dsimp only at hk); have hq := zad hk; clear hk; obtain ⟨k16, hk16, hk⟩ := hq; (try dsimp only at hk); refine T.af (ι := Bool × FzB w (fun _ => False) S0) (fun z => [(112, .bool z.1)]) (fun z => [.fr z.2]) (fun z => k16 z.1 = some r ∧ F19.toFrz.Le z.2.toFrz) ?_ ?_
          · refine T.region ?_; refine TL.run 3 rfl ?_; refine TL.gs rfl rfl rfl (fun h17 => ?_) (fun h17 => ?_)
            · have p17 := of_decide_eq_true h17; replace hk := zab hk h17; refine TL.run 22 rfl ?_; refine TL.nil ?_; exact K.ae (true, F19) ⟨hk, (Frz.Le.refl _)⟩ (.c .nil) (List.Sublist.refl _)
            · have p17 := of_decide_eq_false h17; replace hk := zaa hk h17; refine TL.run 4 rfl ?_; refine TL.gs rfl rfl rfl (fun h18 => ?_) (fun h18 => ?_)
              · have p18 := of_decide_eq_true h18; replace hk := zab hk h18; refine TL.run 18 rfl ?_; refine TL.nil ?_; exact K.ae (true, F19) ⟨hk, (Frz.Le.refl _)⟩ (.c .nil) (List.Sublist.refl _)
              · have p18 := of_decide_eq_false h18; replace hk := zaa hk h18; refine TL.run 3 rfl ?_; refine TL.gs rfl rfl rfl (fun h19 => ?_) (fun h19 => ?_)
                · replace hk := zab hk h19; refine TL.run 15 rfl ?_; refine TL.nil ?_; exact K.ae (true, F19) ⟨hk, (Frz.Le.refl _)⟩ (.c .nil) (List.Sublist.refl _)
                · replace hk := zaa hk h19; refine TL.run 1 rfl ?_; refine TL.e (Ew.aA 0 rfl rfl rfl rfl (fun w hw hF => zco _ w hF 15 14 14)) ?_; rintro _ _ ⟨v99_0_0, F21, le19_21, hf99_0_0, hq, rfl⟩; obtain rfl := hq.symm; haveI := hf99_0_0.oneC; refine TL.e (Ew.ah rfl rfl rfl (fun w hw => zc0 _ w (hw.fr (i := 0) rfl) r83.1 v83_0_0 (SlC.mono hf83_0_0 le19_21) (zaV 15 14 14) v99_0_0 hf99_0_0)) ?_; rintro _ _ ⟨rfl, rfl⟩; refine TL.run 3 rfl ?_; refine TL.gs rfl rfl rfl (fun h20 => ?_) (fun h20 => ?_)
                  · replace hk := zab hk h20; refine TL.run 9 rfl ?_; refine TL.nil ?_; exact K.ae (true, F21) ⟨hk, le19_21⟩ (.c .nil) (List.Sublist.refl _)
                  · replace hk := zaa hk h20; refine TL.e (Ew.aA 0 rfl rfl rfl rfl (fun w hw hF => zco _ w hF 14 15 14)) ?_; rintro _ _ ⟨v104_0_0, F22, le21_22, hf104_0_0, hq, rfl⟩; obtain rfl := hq.symm; have le19_22 := le19_21.trans le21_22; haveI := hf104_0_0.oneC; have hq := zal hk; clear hk; obtain ⟨r105, hr105, hk⟩ := hq; refine TL.e (Ew.ah rfl rfl rfl (fun w hw => zc6 _ w (hw.fr (i := 0) rfl) (zaV 14 15 14) v104_0_0 hf104_0_0 1 r105 hr105)) ?_; rintro _ _ ⟨rfl, rfl⟩; refine TL.run 3 rfl ?_; refine TL.gs rfl rfl rfl (fun h21 => ?_) (fun h21 => ?_)
                    · replace hk := zab hk h21; refine TL.run 4 rfl ?_; refine TL.nil ?_; exact K.ae (true, F22) ⟨hk, le19_22⟩ (.c .nil) (List.Sublist.refl _)
                    · replace hk := zaa hk h21; refine TL.e (Ew.aA 0 rfl rfl rfl rfl (fun w hw hF => zco _ w hF 15 15 14)) ?_; rintro _ _ ⟨v109_0_0, F23, le22_23, hf109_0_0, hq, rfl⟩; obtain rfl := hq.symm; have le19_23 := le19_22.trans le22_23; haveI := hf109_0_0.oneC; have hq := zal hk; clear hk; obtain ⟨r110, hr110, hk⟩ := hq; refine TL.e (Ew.ah rfl rfl rfl (fun w hw => zc6 _ w (hw.fr (i := 0) rfl) (zaV 15 15 14) v109_0_0 hf109_0_0 1 r110 hr110)) ?_; rintro _ _ ⟨rfl, rfl⟩; refine TL.run 2 rfl ?_; refine TL.nil ?_; exact K.ae (!r110, F23) ⟨hk, le19_23⟩ (.c .nil) (List.Sublist.refl _)
          · rintro ⟨x_15, F20⟩ ⟨hk, le19_20⟩; (try dsimp only at *); rw [← hk16] at hk; (try dsimp only at hk); refine T.cond rfl (fun h22 => ?_) (fun h22 => ?_)
            · replace hk := zab hk h22; refine T.sr ?_; refine TL.run 1 rfl ?_; refine TL.ns (T.ret (K.ab ?_)); obtain rfl := Option.some.inj hk; exact K.ai rfl rfl (fun w' hw => ⟨rfl, hw.isBelow⟩)
            · replace hk := zaa hk h22; refine T.skip (K.seq (T.seq ?_)); have hq := zal hk; clear hk; obtain ⟨r115, hr115, hk⟩ := hq; (try dsimp only at hk); refine T.region ?_; refine TL.e (Ew.aA 0 rfl rfl rfl rfl (fun w hw hF => zbV _ w hF )) ?_; rintro _ _ ⟨⟨v114_0_0, cs114_0_0, v114_0_1, v114_0_2, v114_0_3⟩, F24, le20_24, ⟨hf114_0_0, hf114_0_1, hf114_0_2, hf114_0_3⟩, rfl, rfl⟩; dsimp only at hf114_0_0 hf114_0_1 hf114_0_2 hf114_0_3 ⊢; haveI := hf114_0_0.1.oneC; haveI := hf114_0_1.oneC; haveI := hf114_0_2.oneC; haveI := hf114_0_3.oneC; refine TL.e (Ew.aA 0 rfl rfl rfl rfl (fun w hw hF => zd2 _ w hF (zaM) v114_0_0 cs114_0_0 hf114_0_0 v114_0_1 hf114_0_1 v114_0_2 hf114_0_2 v114_0_3 hf114_0_3 [] (.slice none 0 0) (SlC.nil _ 2) (-1) 100 fuel r115 hr115)) ?_; rintro _ _ ⟨v115_0_0, F25, le24_25, hf115_0_0, rfl, rfl⟩; haveI := hf115_0_0.oneC; refine TL.run 8 rfl ?_; refine TL.ns (T.seq ?_); refine T.af (ι := Unit) (fun z => [(0, .bool (((decide (r115.2.2.2 = 0)) && (decide (r115.2.1 = 100))) && (!r115.2.2.1)))]) (fun z => [.fr F25]) (fun z => True) ?_ ?_
              · refine T.region ?_; refine TL.run 3 rfl ?_; refine TL.gs rfl rfl rfl (fun h23 => ?_) (fun h23 => ?_)
                · have p23 := of_decide_eq_true h23; refine TL.run 4 rfl ?_; refine TL.gs rfl rfl rfl (fun h24 => ?_) (fun h24 => ?_)
                  · have p24 := of_decide_eq_true h24; refine TL.run 4 rfl ?_; refine TL.nil ?_; exact K.ae () trivial (.b (zcM (zaQ h23 h24)) .nil) (List.Sublist.refl _)
                  · have p24 := of_decide_eq_false h24; refine TL.run 4 rfl ?_; refine TL.nil ?_; exact K.ae () trivial (.b (zay (zaQ h23 h24)).symm .nil) (List.Sublist.refl _)
                · have p23 := of_decide_eq_false h23; refine TL.run 8 rfl ?_; refine TL.nil ?_; exact K.ae () trivial (.b (zay (zay h23)).symm .nil) (List.Sublist.refl _)
              · rintro _ _; refine T.ret ?_; obtain rfl := Option.some.inj hk; exact K.ai rfl rfl (fun w' hw => ⟨rfl, hw.isBelow⟩)
def zc3 (fuel : Nat) (p : GProblem) : Option Bool :=
  (zcI fuel p 10 40).bind fun r4 =>
  some r4
theorem zfc (F0 : Frz) (w : World) (hF0 : F0.At w) (p : GProblem) (vp_0 : Value) (cp_0 : List (List Value)) (hp_0 : SlD GDomain.rep F0 vp_0 2 cp_0 p.Domains) (vp_1 : Value) (hp_1 : SlC F0 vp_1 5 (p.Rules.Pairs.map GPair.enc)) (vp_2 : Value) (hp_2 : SlC F0 vp_2 5 (p.Rules.Loads.map GLoad.enc)) (vp_3 : Value) (hp_3 : SlC F0 vp_3 4 (p.Rules.Caps.map GCap.enc)) (fuel : Nat) (r : Bool) (hr : zc3 fuel p = some r) : Calls Tryz.prog 7 #[.agg [vp_0, vp_1, vp_2, vp_3].toArray] w fun e w' => e = .returned (.bool r) ∧ Below w.heap.size w w' := by
  have hk := hr; unfold zc3 at hk; haveI := hp_0.1.oneC; haveI := hp_1.oneC; haveI := hp_2.oneC; haveI := hp_3.oneC; obtain ⟨S0, F1, rfl, hS0, hp0⟩ := zam hF0; refine zar Tryz.func7 rfl rfl rfl hp0 ?_; refine T.sr ?_; refine TL.e (Ew.ay rfl rfl) ?_; rintro _ _ ⟨g1, rfl, rfl⟩; refine TL.run 1 rfl ?_; refine TL.ns (T.seq ?_); have hq := zal hk; clear hk; obtain ⟨r4, hr4, hk⟩ := hq; (try dsimp only at hk); refine T.region ?_; refine TL.y (Yv.ak 0 rfl rfl rfl rfl) ?_; refine TL.e (Ew.ah rfl rfl rfl (fun w hw => zfm _ w (hw.fr (i := 1) rfl) p vp_0 cp_0 hp_0 vp_1 hp_1 vp_2 hp_2 vp_3 hp_3 10 40 fuel r4 hr4)) ?_; rintro _ _ ⟨rfl, rfl⟩; refine TL.run 1 rfl ?_; refine TL.ns (T.ret ?_); obtain rfl := Option.some.inj hk; exact K.ai rfl rfl (fun w' hw => ⟨rfl, hw.isBelow⟩)
theorem zgX (b : Bool) : (bif b then true else false) = b := by cases b <;> rfl
theorem zh1 {p : GProblem} {a b : Int} {fuel : Nat} (hf : 1000 ≤ fuel) : ∃ r, zcI fuel p a b = some r := by
  unfold zcI; simp only [zaE]; refine zgA (σ := Int) (I := fun i => 0 ≤ i ∧ i ≤ 600) (μ := fun i => (600 - i).toNat) (post := fun o => ∃ r, o = some r) ⟨by omega, by omega⟩ (by omega) ?_; intro i next hi hn; by_cases h1 : i < (p.Domains.length : Int) <;> by_cases h2 : i < 600
  · rw [decide_eq_true h1, decide_eq_true h2, Bool.and_true, cond_true, za4 ⟨hi.1, h1⟩]
    cases decide (60 < ((nth p.Domains i.toNat).Channels.length : Int))
    · exact hn _ ⟨by omega, by omega⟩ (by omega)
    · exact ⟨_, rfl⟩
  · rw [decide_eq_false h2, Bool.and_false, cond_false]; exact ⟨_, rfl⟩
  · rw [decide_eq_false h1, Bool.false_and, cond_false]; exact ⟨_, rfl⟩
  · rw [decide_eq_false h1, Bool.false_and, cond_false]; exact ⟨_, rfl⟩
theorem allEq {α : Type} [Inhabited α] [DecidableEq α] {a b : List α} (hl : a.length = b.length) : ((List.range a.length).all fun i => decide (nth a i = nth b i)) = decide (a = b) := by
  rw [Bool.eq_iff_iff, List.all_eq_true, decide_eq_true_eq]; constructor
  · intro h; refine List.ext_getElem hl fun i h1 h2 => ?_; have := of_decide_eq_true (h i (List.mem_range.2 h1))
    rwa [zaW h1, zaW h2] at this
  · rintro rfl i _; simp
theorem zib {α : Type} [Inhabited α] [DecidableEq α] {a b : List α} {r : α → α → Bool} {k : Unit → Bool} (hr : ∀ x y, r x y = !decide (x = y)) (hl : a.length = b.length) : zag (fun (i : Nat) (next : Unit → Bool) (_ : Unit) => bif r (nth a i) (nth b i) then false else next ()) k (a.length - 0) 0 () = (decide (a = b) && k ()) := by
  rw [Nat.sub_zero, zfC (fun i => decide (nth a i = nth b i)) (fun i next hi => by rw [hr]; cases decide (nth a i = nth b i) <;> rfl), allEq hl]
theorem eqL_x {α : Type} [Inhabited α] [DecidableEq α] {a b : List α} {r : α → α → Bool} (hr : ∀ x y, r x y = !decide (x = y)) : (bif decide (¬ (a.length : Int) = (b.length : Int)) then false else zag (fun (i : Nat) (next : Unit → Bool) (_ : Unit) => bif r (nth a i) (nth b i) then false else next ()) (fun _ => true) (a.length - 0) 0 ()) = decide (a = b) := by
  by_cases hl : a.length = b.length
  · rw [decide_eq_false (by omega), cond_false, zib hr hl, Bool.and_true]
  · rw [decide_eq_true (by omega), cond_true, decide_eq_false (fun e => hl (by rw [e]))]
theorem zgB (a b : List Int) : zbj a b = decide (a = b) := eqL_x (r := fun x y : Int => decide (¬ x = y)) fun x y => by by_cases h : x = y <;> simp [h]
theorem zf4 (l : List GChoice) : zav l = zbK l := by
  have e1 : zav l = (List.range' 0 (l.length - 0)).all fun i => (zaf (nth l i).Station && zan (nth l i).Channel 2 51) && !(decide (0 < (i : Int)) && decide ((nth l i).Station ≤ (nth l (((i : Int) - 1).toNat)).Station)) := by
    refine (zby (k := fun _ => true) (z := false) (fun i => (zaf (nth l i).Station && zan (nth l i).Channel 2 51) && !(decide (0 < (i : Int)) && decide ((nth l i).Station ≤ (nth l (((i : Int) - 1).toNat)).Station))) (fun i next h1 h2 => ?_)).trans ?_
    · cases zaf (nth l i).Station <;> cases zan (nth l i).Channel 2 51 <;> cases (decide (0 < (i : Int)) && decide ((nth l i).Station ≤ (nth l (((i : Int) - 1).toNat)).Station)) <;> rfl
    · exact zgX _
  rw [e1]; symm; refine (zby (k := fun _ => true) (z := false) (fun i => (zaf (nth l i).Station && zan (nth l i).Channel 2 51) && !(decide (0 < (i : Int)) && decide ((nth l i).Station ≤ (nth l (((i : Int) - 1).toNat)).Station))) (fun i next h1 h2 => ?_)).trans ?_
  · rw [zdb (nth l i).Channel 2, zdb 51]; unfold zan
    show (bif (((!zaf (nth l i).Station || _) || _) || _) then _ else _) = _
    cases zaf (nth l i).Station <;> cases decide (2 ≤ (nth l i).Channel) <;> cases decide ((nth l i).Channel ≤ 51) <;> cases (decide (0 < (i : Int)) && decide ((nth l i).Station ≤ (nth l (((i : Int) - 1).toNat)).Station)) <;> rfl
  · exact zgX _
def onL : List GChoice → Int → Int
  | [], _ => 0
  | x :: r, n => bif decide (x.Station = n) then x.Channel else onL r n
theorem on_x (l : List GChoice) (n : Int) : zau l n = onL l n := by
  have key : ∀ m i, i + m = l.length → zag (fun (i : Nat) (next : Unit → Int) (_ : Unit) => bif decide ((nth l i).Station = n) then (nth l i).Channel else next ()) (fun _ => (0 : Int)) m i () = onL (l.drop i) n := by
    intro m
    induction m with
    | zero => intro i e; rw [List.drop_eq_nil_of_le (show l.length ≤ i by omega)]; rfl
    | succ m ih =>
      intro i e; have h2 := ih (i + 1) (by omega); rw [List.drop_eq_getElem_cons (show i < l.length by omega), ← zaW (show i < l.length by omega)]
      show (bif decide ((nth l i).Station = n) then (nth l i).Channel else _) = bif decide ((nth l i).Station = n) then (nth l i).Channel else _
      rw [← h2]
  have := key l.length 0 (by omega); rw [List.drop_zero] at this; exact this
theorem zhN {x : GChoice} {n : Int} (h : x.Station ≠ n) : ∀ a, onL (a ++ [x]) n = onL a n
  | [] => by show (bif decide (x.Station = n) then x.Channel else 0) = 0; rw [decide_eq_false h]; rfl
  | y :: a => by
    show (bif decide (y.Station = n) then y.Channel else onL (a ++ [x]) n) = bif decide (y.Station = n) then y.Channel else onL a n
    rw [zhN h a]
theorem zhI {x : GChoice} {n : Int} (h : x.Station = n) : ∀ a : List GChoice, (∀ y ∈ a, y.Station ≠ n) → onL (a ++ [x]) n = x.Channel
  | [], _ => by show (bif decide (x.Station = n) then x.Channel else 0) = _; rw [decide_eq_true h]; rfl
  | y :: a, ha => by
    show (bif decide (y.Station = n) then y.Channel else onL (a ++ [x]) n) = _
    rw [decide_eq_false (ha y (List.mem_cons_self ..)), cond_false]; exact zhI h a fun z hz => ha z (List.mem_cons_of_mem _ hz)
structure VL (l : List GChoice) : Prop where
  st : ∀ i, i < l.length → 0 ≤ (nth l i).Station ∧ (nth l i).Station ≤ 511
  ch : ∀ i, i < l.length → 2 ≤ (nth l i).Channel ∧ (nth l i).Channel ≤ 51
  lt : ∀ i j, i < j → j < l.length → (nth l i).Station < (nth l j).Station
theorem zgR (l : List GChoice) : zav l = (List.range' 0 (l.length - 0)).all fun i => (zaf (nth l i).Station && zan (nth l i).Channel 2 51) && !(decide (0 < (i : Int)) && decide ((nth l i).Station ≤ (nth l (((i : Int) - 1).toNat)).Station)) := by
  refine (zby (k := fun _ => true) (z := false) (fun i => (zaf (nth l i).Station && zan (nth l i).Channel 2 51) && !(decide (0 < (i : Int)) && decide ((nth l i).Station ≤ (nth l (((i : Int) - 1).toNat)).Station))) (fun i next h1 h2 => ?_)).trans (zgX _)
  cases zaf (nth l i).Station <;> cases zan (nth l i).Channel 2 51 <;> cases (decide (0 < (i : Int)) && decide ((nth l i).Station ≤ (nth l (((i : Int) - 1).toNat)).Station)) <;> rfl
theorem zik {l : List GChoice} (h : zav l = true) : VL l := by
  rw [zgR, List.all_eq_true] at h; have g : ∀ i, i < l.length → _ := fun i hi => h i (List.mem_range'_1.2 ⟨by omega, by omega⟩)
  have hlt : ∀ j, 0 < j → j < l.length → (nth l (j - 1)).Station < (nth l j).Station := fun j h0 hj => by
    have h1 := zcG (g j hj); rw [decide_eq_true (show 0 < (j : Int) by omega), Bool.true_and, Bool.not_eq_true', decide_eq_false_iff_not, show ((j : Int) - 1).toNat = j - 1 by omega] at h1; omega
  refine ⟨fun i hi => zbz (zca (zca (g i hi))), fun i hi => ?_, fun i j hij hj => ?_⟩
  · have := zcG (zca (g i hi)); unfold zan at this; rw [Bool.and_eq_true, decide_eq_true_eq, decide_eq_true_eq] at this; exact this
  · induction j with
    | zero => omega
    | succ j ih =>
      have h1 := hlt (j + 1) (by omega) hj; rw [show j + 1 - 1 = j from rfl] at h1; rcases Nat.lt_or_ge i j with h2 | h2
      · have := ih h2 (by omega); omega
      · rw [show i = j by omega]; exact h1
theorem zeL {α : Type} [Inhabited α] {l : List α} {i : Nat} (hi : i < l.length) : l.take (i + 1) = l.take i ++ [nth l i] := by
  rw [List.take_add_one, List.getElem?_eq_getElem hi, zaW hi]; rfl
theorem zg5 {α : Type} [Inhabited α] {l : List α} {i : Nat} {y : α} (h : y ∈ l.take i) : ∃ j, j < i ∧ j < l.length ∧ nth l j = y := by
  obtain ⟨j, hj, rfl⟩ := List.mem_iff_getElem.1 h; (have h1 : j < i ∧ j < l.length := by rw [List.length_take] at hj; omega); exact ⟨j, h1.1, h1.2, by rw [zaW h1.2, List.getElem_take]⟩
theorem zfr {l : List GChoice} (h : VL l) {i : Nat} (hi : i < l.length) (n : Int) : onL (l.take (i + 1)) n = if n = (nth l i).Station then (nth l i).Channel else onL (l.take i) n := by
  rw [zeL hi]; by_cases e : n = (nth l i).Station
  · rw [if_pos e]; refine zhI e.symm _ fun y hy => ?_; obtain ⟨j, h1, h2, rfl⟩ := zg5 hy; have := h.lt j i h1 hi; omega
  · rw [if_neg e]; exact zhN (fun h => e h.symm) _
def TabC (l : List GChoice) (c : Vec 512 Int) : Prop := ∀ n, n < 512 → Vec.get c n = onL l (n : Int)
theorem TabC.get {l : List GChoice} {c : Vec 512 Int} (h : TabC l c) {i : Int} (hi : 0 ≤ i ∧ i < 512) : Vec.get c i.toNat = onL l i := by
  rw [h _ (by omega), show ((i.toNat : Nat) : Int) = i by omega]
def zf9 (l : List GChoice) (n : Int) (s : Int) (x : GLoad) : Int := bif (((decide (x.To = n)) && (decide (onL l x.From = onL l n))) && (decide (x.Low ≤ onL l n))) && (decide (onL l n ≤ x.High)) then wI (s + x.Weight) else s
theorem zid (p : GProblem) (l : List GChoice) (n : Int) : zcE p n (onL l n) l = p.Rules.Loads.foldl (zf9 l n) 0 := by
  rw [← zcj]; refine (zcS (k := fun s : Int => s) (n := p.Rules.Loads.length - 0) (s := 0) (fun i s => zf9 l n s (nth p.Rules.Loads i)) (fun i next s hi => ?_)); rw [on_x]; unfold zf9
  cases (((decide ((nth p.Rules.Loads i).To = n)) && (decide (onL l (nth p.Rules.Loads i).From = onL l n))) && (decide ((nth p.Rules.Loads i).Low ≤ onL l n))) && (decide (onL l n ≤ (nth p.Rules.Loads i).High)) <;> rfl
theorem zh3 (l : List Int) (v : Int) : decide (0 ≤ zbe l v) = l.any fun x => decide (x = v) := by
  have key : ∀ m i, i + m = l.length → decide (0 ≤ zag (fun (i : Nat) (next : Unit → Int) (_ : Unit) => bif decide (v = nth l i) then (i : Int) else next ()) (fun _ => (-1)) m i ()) = (l.drop i).any fun x => decide (x = v) := by
    intro m
    induction m with
    | zero => intro i e; rw [List.drop_eq_nil_of_le (show l.length ≤ i by omega)]; rfl
    | succ m ih =>
      intro i e; have h2 := ih (i + 1) (by omega); rw [List.drop_eq_getElem_cons (show i < l.length by omega), List.any_cons, ← zaW (show i < l.length by omega)]
      show decide (0 ≤ (bif decide (v = nth l i) then (i : Int) else _)) = _
      by_cases e2 : v = nth l i
      · rw [decide_eq_true e2, decide_eq_true e2.symm, cond_true, decide_eq_true (by omega)]; rfl
      · have e3 : ¬ nth l i = v := fun h => e2 h.symm; rw [decide_eq_false e3, Bool.false_or, ← h2]
        show decide (0 ≤ (bif decide (v = nth l i) then (i : Int) else _)) = _
        rw [decide_eq_false e2]; rfl
  have := key l.length 0 (by omega); rw [List.drop_zero] at this; exact this
theorem zim (l : List Int) (v : Int) : za8 l v = l.any fun x => decide (x = v) := by
  have h := zd5 (f := fun (i : Nat) (next : Unit → Bool) (_ : Unit) => bif decide (nth l i = v) then true else next ()) (k := fun _ => false) (n := l.length - 0) (fun i => decide (nth l i = v)) (fun i next hi => by cases decide (nth l i = v) <;> rfl); rw [Nat.sub_zero, zdx (q := fun x => decide (x = v)), Bool.or_false] at h; exact h
theorem zgv (l : List Int) (v : Int) : zaB l v = za8 l v := by
  unfold zaB; rw [zh3, zim]
theorem zhW {ρ : Type} {l : List GChoice} (h : VL l) (K : Vec 512 Int → Option ρ) : ∃ c, TabC l c ∧ zag (fun (i_5 : Nat) (next4 : Vec 512 Int → Option ρ) (c_3 : Vec 512 Int) => grd (0 ≤ (nth l i_5).Station ∧ (nth l i_5).Station < (512 : Int)) <| next4 (Vec.put c_3 (((nth l i_5).Station).toNat) ((nth l i_5).Channel))) K (l.length - 0) 0 (Vec.fill 512 0) = K c := by
  obtain ⟨h1, h2⟩ := zcn (k := K) (n := l.length - 0) (s := Vec.fill 512 (0 : Int))
    (f := fun (i_5 : Nat) (next4 : Vec 512 Int → Option ρ) (c_3 : Vec 512 Int) => grd (0 ≤ (nth l i_5).Station ∧ (nth l i_5).Station < (512 : Int)) <| next4 (Vec.put c_3 (((nth l i_5).Station).toNat) ((nth l i_5).Channel)))
    (fun i c => ∀ n, n < 512 → Vec.get c n = onL (l.take i) (n : Int))
    (fun i c => Vec.put c (((nth l i).Station).toNat) ((nth l i).Channel))
    (fun n hn => Vec.get_fill hn)
    (fun i c hi hc n hn => by
      have h3 := h.st i (by omega); rw [zfr h (by omega), Vec.get_put (by omega), hc n hn]; by_cases e : (n : Int) = (nth l i).Station
      · rw [if_pos e, if_pos (by omega)]
      · rw [if_neg e, if_neg (by omega)])
    (fun i next c hi hc => by
      have h3 := h.st i (by omega)
      rw [za4 ⟨h3.1, by omega⟩])
  refine ⟨_, fun n hn => ?_, h1⟩; have := h2 n hn
  rwa [Nat.sub_zero, List.take_length] at this
theorem zie {a b : Int} (h : za3 a b = true) : 2 ≤ a ∧ a ≤ b ∧ b ≤ 51 :=
  ⟨of_decide_eq_true (zca (zca h)), of_decide_eq_true (zcG (zca h)), of_decide_eq_true (zcG h)⟩
theorem zg4 {α : Type} [Inhabited α] {lt : α → α → Bool} (ht : ∀ a b c, lt a b = true → lt b c = true → lt a c = true) {l : List α} : adjB lt l = true ↔ l.Pairwise (fun a b => lt a b = true) := by
  constructor
  · intro h; have h1 : ∀ i, i + 1 < l.length → lt (nth l i) (nth l (i + 1)) = true := fun i hi => List.all_eq_true.1 h (i + 1) (List.mem_range'_1.2 ⟨by omega, by omega⟩)
    have h2 : ∀ d i, i + d + 1 < l.length → lt (nth l i) (nth l (i + d + 1)) = true := by
      intro d
      induction d with
      | zero => intro i hi; exact h1 i hi
      | succ d ih => intro i hi; exact ht _ _ _ (ih i (by omega)) (h1 (i + d + 1) (by omega))
    refine List.pairwise_iff_getElem.2 fun i j hi hj hij => ?_; rw [← zaW hi, ← zaW hj]; have := h2 (j - i - 1) i (by omega)
    rwa [show i + (j - i - 1) + 1 = j by omega] at this
  · intro h; refine List.all_eq_true.2 fun i hi => ?_; have hi := List.mem_range'_1.1 hi; rw [zaW (show i - 1 < l.length by omega), zaW (show i < l.length by omega)]; exact List.pairwise_iff_getElem.1 h (i - 1) i _ _ (by omega)
theorem zg6 {a b : Int} {x y : List Int} : lexL (a :: x) (b :: y) = true ↔ a < b ∨ (a = b ∧ lexL x y = true) := by
  show (bif decide (a = b) then lexL x y else decide (a < b)) = true ↔ _
  by_cases h : a = b
  · rw [decide_eq_true h, cond_true]; exact ⟨fun h1 => .inr ⟨h, h1⟩, fun h1 => h1.elim (fun h2 => absurd h2 (by omega)) (·.2)⟩
  · rw [decide_eq_false h, cond_false, decide_eq_true_eq]; exact ⟨.inl, fun h1 => h1.elim id (fun h2 => absurd h2.1 h)⟩
theorem zfk : ∀ a b c : List Int, lexL a b = true → lexL b c = true → lexL a c = true
  | [], _, _, h, _ => by cases h
  | _ :: _, [], _, h, _ => by cases h
  | _ :: _, _ :: _, [], _, h => by cases h
  | a :: x, b :: y, c :: z, h1, h2 => by
    rw [zg6] at h1 h2 ⊢; rcases h1 with h1 | ⟨h1, h3⟩ <;> rcases h2 with h2 | ⟨h2, h4⟩
    · left; omega
    · left; omega
    · left; omega
    · exact .inr ⟨by omega, zfk x y z h3 h4⟩
theorem zfd {α : Type} [Inhabited α] {lt : α → α → Bool} (ht : ∀ a b c, lt a b = true → lt b c = true → lt a c = true) {l l' : List α} (hs : l'.Sublist l) (h : adjB lt l = true) : adjB lt l' = true := (zg4 ht).2 (((zg4 ht).1 h).sublist hs)
theorem zfS {a b : Bool} (ha : a = true) (hb : b = true) : (a && b) = true := by rw [ha, hb]; rfl
structure RulesP (r : GRules) : Prop where
  g : RulesGood r
  ip : adjB (fun a b => lexL (zcV a) (zcV b)) r.Pairs = true
  il : adjB (fun a b => lexL (zcX a) (zcX b)) r.Loads = true
  ic : adjB (fun a b => lexL (capL a) (capL b)) r.Caps = true
theorem RulesP.b {r : GRules} (h : RulesP r) : zdf r = true := by
  have a := h.g.np; have b := h.g.nl; have c := h.g.nc; exact zfS (decide_eq_true (by omega)) (zfS (List.all_eq_true.2 h.g.p) (zfS h.ip (zfS (decide_eq_true (by omega)) (zfS (List.all_eq_true.2 h.g.l) (zfS h.il (zfS (decide_eq_true (by omega)) (zfS (List.all_eq_true.2 h.g.c) h.ic)))))))
theorem zh4 (a b c : GPair) : lexL (zcV a) (zcV b) = true → lexL (zcV b) (zcV c) = true → lexL (zcV a) (zcV c) = true := zfk _ _ _
theorem zhY (a b c : GLoad) : lexL (zcX a) (zcX b) = true → lexL (zcX b) (zcX c) = true → lexL (zcX a) (zcX c) = true := zfk _ _ _
theorem zh7 (a b c : GCap) : lexL (capL a) (capL b) = true → lexL (capL b) (capL c) = true → lexL (capL a) (capL c) = true := zfk _ _ _
theorem RulesP.sub {r r' : GRules} (h : RulesP r) (hp : r'.Pairs.Sublist r.Pairs) (hl : r'.Loads.Sublist r.Loads) (hc : r'.Caps.Sublist r.Caps) : RulesP r' := by
  refine ⟨⟨?_, ?_, ?_, fun x hx => h.g.p x (hp.subset hx), fun x hx => h.g.l x (hl.subset hx), fun x hx => h.g.c x (hc.subset hx)⟩, zfd zh4 hp h.ip, zfd zhY hl h.il, zfd zh7 hc h.ic⟩
  · have := hp.length_le; have := h.g.np; omega
  · have := hl.length_le; have := h.g.nl; omega
  · have := hc.length_le; have := h.g.nc; omega
theorem zgd (p : GProblem) (c : GCap) (l : List GChoice) (h : 2 ≤ c.Low) : zaj p c l = ((zan (onL l c.Station) c.Low c.High) && decide (c.Max < p.Rules.Loads.foldl (zf9 l c.Station) 0)) := by
  unfold zaj zan; rw [on_x, zid]; by_cases h0 : c.Low ≤ onL l c.Station
  · rw [decide_eq_true h0, decide_eq_true (show ¬ onL l c.Station = 0 by omega)]; rfl
  · rw [decide_eq_false h0]; simp
theorem zfY (c : GPair) (l : List GChoice) : zah c l = true ↔ onL l c.A ≠ 0 ∧ onL l c.B ≠ 0 ∧ c.Low ≤ onL l c.A ∧ onL l c.A ≤ c.High ∧ onL l c.B = wI (onL l c.A + c.Offset) := by
  unfold zah; rw [on_x, on_x]; simp only [Bool.and_eq_true, decide_eq_true_eq, and_assoc, ne_eq]
theorem zfZ {c : GCap} (h : zaS c = true) : 2 ≤ c.Low := (zie (zcG h)).1
theorem zf3 {α β : Type} {l : List α} {q : α → Bool} {e : α → β} : l.flatMap (fun x => bif q x then [e x] else []) = (l.filter q).map e := by
  induction l with
  | nil => rfl
  | cons x r ih =>
    rw [List.flatMap_cons, ih]
    cases h : q x
    · rw [List.filter_cons_of_neg (by rw [h]; simp)]; rfl
    · rw [List.filter_cons_of_pos h]; rfl
theorem zeq : ∀ {a b : List Int}, a.Pairwise (· < ·) → b.Pairwise (· < ·) → (∀ x, x ∈ a ↔ x ∈ b) → a = b
  | [], [], _, _, _ => rfl
  | [], y :: b, _, _, h => absurd ((h y).2 (List.mem_cons_self ..)) (by simp)
  | x :: a, [], _, _, h => absurd ((h x).1 (List.mem_cons_self ..)) (by simp)
  | x :: a, y :: b, ha, hb, h => by
    have h1 := List.pairwise_cons.1 ha; have h2 := List.pairwise_cons.1 hb
    have e : x = y := by
      rcases List.mem_cons.1 ((h x).1 (List.mem_cons_self ..)) with e | hx
      · exact e
      · rcases List.mem_cons.1 ((h y).2 (List.mem_cons_self ..)) with e | hy
        · exact e.symm
        · have := h1.1 y hy; have := h2.1 x hx; omega
    subst e; rw [zeq h1.2 h2.2 fun z => ?_]; constructor
    · intro hz; rcases List.mem_cons.1 ((h z).1 (List.mem_cons_of_mem _ hz)) with e | h3
      · have := h1.1 z hz; omega
      · exact h3
    · intro hz; rcases List.mem_cons.1 ((h z).2 (List.mem_cons_of_mem _ hz)) with e | h3
      · have := h2.1 z hz; omega
      · exact h3
theorem zhz {α : Type} [Inhabited α] {l : List α} {f : α → Int} (h : adjB (fun a b => decide (f a < f b)) l = true) : (l.map f).Pairwise (· < ·) := by
  have h1 : ∀ i, i + 1 < l.length → f (nth l i) < f (nth l (i + 1)) := fun i hi => by
    have := of_decide_eq_true (List.all_eq_true.1 h (i + 1) (List.mem_range'_1.2 ⟨by omega, by omega⟩))
    rwa [show i + 1 - 1 = i from rfl] at this
  have h2 : ∀ d i, i + d + 1 < l.length → f (nth l i) < f (nth l (i + d + 1)) := by
    intro d
    induction d with
    | zero => intro i hi; exact h1 i hi
    | succ d ih => intro i hi; have := ih i (by omega); have := h1 (i + d + 1) (by omega); rw [show i + (d + 1) + 1 = i + d + 1 + 1 by omega]; omega
  refine List.pairwise_iff_getElem.2 fun i j hi hj hij => ?_; rw [List.length_map] at hi hj; rw [List.getElem_map, List.getElem_map, ← zaW hi, ← zaW hj]; have := h2 (j - i - 1) i (by omega)
  rwa [show i + (j - i - 1) + 1 = j by omega] at this
theorem zdl {p : GProblem} (h : incD p = true) : (p.Domains.map (·.Station)).Pairwise (· < ·) := zhz h
theorem zeI {p : GProblem} (h : p.Domains.all okD = true) (i : Int) : hasD p i = anyD p i := by
  unfold hasD anyD; by_cases hi : 0 ≤ i ∧ i < 512
  · rw [decide_eq_true hi.1, decide_eq_true hi.2]; rfl
  · have e : (decide (0 ≤ i) && decide (i < 512)) = false := by
      rw [Bool.and_eq_false_iff, decide_eq_false_iff_not, decide_eq_false_iff_not]; omega
    rw [e, Bool.false_and]
    symm
    rw [List.any_eq_false]; intro d hd hx; have := zd9 h hd; have := of_decide_eq_true hx; omega
theorem anyD_mem {p : GProblem} {i : Int} : anyD p i = true ↔ i ∈ p.Domains.map (·.Station) := by
  unfold anyD; rw [List.any_eq_true, List.mem_map]; constructor
  · rintro ⟨d, h1, h2⟩; exact ⟨d, h1, of_decide_eq_true h2⟩
  · rintro ⟨d, h1, rfl⟩; exact ⟨d, h1, decide_eq_true rfl⟩
structure OkP (p : GProblem) : Prop where
  d : p.Domains.all okD = true
  r : zdf p.Rules = true
  i : incD p = true
  l : zfz p = true
theorem zcl {p : GProblem} (h : okP p = true) : OkP p := ⟨zca h, zca (zcG h), zca (zcG (zcG h)), zcG (zcG (zcG h))⟩
theorem OkP.len {p : GProblem} (h : OkP p) : p.Domains.length ≤ 512 := zf1 h.d h.i
theorem zeZ {l : List Int} (h : l.Pairwise (· ≤ ·)) : (Lib.compact l).Pairwise (· < ·) ∧ ∀ x, x ∈ Lib.compact l ↔ x ∈ l := by
  have hD : ∀ i j, i ≤ j → j < l.length → l.toArray[i]! ≤ l.toArray[j]! := fun i j hij hj => by
    rcases Nat.lt_or_ge i j with h1 | h1
    · have := List.pairwise_iff_getElem.1 h i j (by omega) hj h1; simpa [show i < l.length by omega, hj] using this
    · (obtain rfl : i = j := by omega); exact Int.le_refl _
  have key : ∀ m, m ≤ l.length → (Lib.compactUpTo l.toArray m).Pairwise (· < ·) ∧ ∀ x, x ∈ Lib.compactUpTo l.toArray m ↔ ∃ j, j < m ∧ l.toArray[j]! = x := by
    intro m
    induction m with
    | zero => intro _; exact ⟨by simp [Lib.compactUpTo], fun x => by simp [Lib.compactUpTo]⟩
    | succ m ih =>
      intro hm; obtain ⟨h1, h2⟩ := ih (by omega); rw [Lib.compactUpTo_succ]
      cases hk : Lib.keeps l.toArray m with
      | true =>
        rw [if_pos rfl]; have hk' := of_decide_eq_true hk; refine ⟨List.pairwise_append.2 ⟨h1, List.pairwise_singleton _ _, fun a ha b hb => ?_⟩, fun x => ?_⟩
        · obtain ⟨j, hj, rfl⟩ := (h2 a).1 ha; obtain rfl := List.mem_singleton.1 hb; have a1 := hD j (m - 1) (by omega) (by omega); have a2 := hD (m - 1) m (by omega) (by omega); rcases hk' with e | e
          · omega
          · omega
        · rw [List.mem_append, h2, List.mem_singleton]; constructor
          · rintro (⟨j, hj, e⟩ | e)
            · exact ⟨j, by omega, e⟩
            · exact ⟨m, by omega, e.symm⟩
          · rintro ⟨j, hj, e⟩; rcases Nat.lt_or_ge j m with h3 | h3
            · exact .inl ⟨j, h3, e⟩
            · (obtain rfl : j = m := by omega); exact .inr e.symm
      | false =>
        rw [if_neg (by simp), List.append_nil]; refine ⟨h1, fun x => ?_⟩; have hk' := of_decide_eq_false hk; have h0 : m ≠ 0 := fun e => hk' (.inl e)
        have h3 : l.toArray[m]! = l.toArray[m - 1]! := by
          by_cases e : l.toArray[m]! = l.toArray[m - 1]!
          · exact e
          · exact absurd (.inr e) hk'
        rw [h2]; constructor
        · rintro ⟨j, hj, e⟩; exact ⟨j, by omega, e⟩
        · rintro ⟨j, hj, e⟩; rcases Nat.lt_or_ge j m with h4 | h4
          · exact ⟨j, h4, e⟩
          · (obtain rfl : j = m := by omega); exact ⟨j - 1, by omega, by rw [← h3]; exact e⟩
  obtain ⟨h1, h2⟩ := key l.length (Nat.le_refl _); refine ⟨h1, fun x => (h2 x).trans ?_⟩; constructor
  · rintro ⟨j, hj, rfl⟩; simp [hj]
  · intro hx; obtain ⟨j, hj, rfl⟩ := List.mem_iff_getElem.1 hx; exact ⟨j, hj, by simp [hj]⟩
def zch (fuel : Nat) (p : GProblem) (l : List GChoice) : Option Bool :=
  (zc3 fuel p).bind fun r10 =>
  (bif ((!r10) || (decide (20 < (l.length : Int)))) then
    (zb8 fuel).bind fun r17 =>
    some r17
    else
    (zcY p l).bind fun r21 =>
    (zbP p l).bind fun r27 =>
    (zcH p).bind fun r32 =>
    (bif ((!r32) || (!(zbK l))) then
      zaE (fun (x_5 : Bool) =>
        some x_5)
      (fun k6 =>
        (bif decide (wI (r21.1 + (r27.1.length : Int)) = 0) then
          (bif decide (r21.2 = 2) then
            (bif decide (r27.2 = 2) then
              (zb8 fuel).bind fun r53 =>
              k6 r53
              else
              k6 false)
            else
            k6 false)
          else
          k6 false))
      else
      (bif !(zbQ p l) then
        zaE (fun (x_11 : Bool) =>
          some x_11)
        (fun k12 =>
          (bif decide (wI (r21.1 + (r27.1.length : Int)) = 0) then
            (bif decide (r21.2 = 10) then
              (bif decide (r27.2 = 10) then
                (zb8 fuel).bind fun r74 =>
                k12 r74
                else
                k12 false)
              else
              k12 false)
            else
            k12 false))
        else
        zaE (fun (x_16 : Bool) =>
          some x_16)
        (fun k17 =>
          (bif decide (r21.2 = 0) then
            (bif decide (r27.2 = 0) then
              (bif decide (r21.1 = (zcB p l)) then
                (zcd p l).bind fun r93 =>
                (bif (zbj r27.1 r93) then
                  (zb8 fuel).bind fun r97 =>
                  k17 r97
                  else
                  k17 false)
                else
                k17 false)
              else
              k17 false)
            else
            k17 false)))))
theorem zeg (F0 : Frz) (w : World) (hF0 : F0.At w) (p : GProblem) (vp_0 : Value) (cp_0 : List (List Value)) (hp_0 : SlD GDomain.rep F0 vp_0 2 cp_0 p.Domains) (vp_1 : Value) (hp_1 : SlC F0 vp_1 5 (p.Rules.Pairs.map GPair.enc)) (vp_2 : Value) (hp_2 : SlC F0 vp_2 5 (p.Rules.Loads.map GLoad.enc)) (vp_3 : Value) (hp_3 : SlC F0 vp_3 4 (p.Rules.Caps.map GCap.enc)) (l : List GChoice) (vl : Value) (hl : SlC F0 vl 2 (l.map GChoice.enc)) (fuel : Nat) (r : Bool) (hr : zch fuel p l = some r) : Calls Tryz.prog 3 #[.agg [vp_0, vp_1, vp_2, vp_3].toArray, vl] w fun e w' => e = .returned (.bool r) ∧ Below w.heap.size w w' := by
  have hk := hr; unfold zch at hk; haveI := hp_0.1.oneC; haveI := hp_1.oneC; haveI := hp_2.oneC; haveI := hp_3.oneC; haveI := hl.oneC; obtain ⟨S0, F1, rfl, hS0, hp0⟩ := zam hF0; refine zar Tryz.func3 rfl rfl rfl hp0 ?_; refine T.sr ?_; refine TL.e (Ew.ay rfl rfl) ?_; rintro _ _ ⟨g2, rfl, rfl⟩; refine TL.run 1 rfl ?_; refine TL.ns (T.seq (T.seq ?_)); have hq := zal hk; clear hk; obtain ⟨r10, hr10, hk⟩ := hq; (try dsimp only at hk); refine T.af (ι := Unit) (fun z => [(1, vl), (2, .pointer (some ⟨g2, 0, none⟩)), (16, .bool ((!r10) || (decide (20 < (l.length : Int)))))]) (fun z => [.row g2 29 [vp_0, vp_1, vp_2, vp_3], .fr F1]) (fun z => True) ?_ ?_
  · refine T.region ?_; refine TL.y (Yv.ak 0 rfl rfl rfl rfl) ?_; refine TL.e (Ew.ah rfl rfl rfl (fun w hw => zfc _ w (hw.fr (i := 1) rfl) p vp_0 cp_0 hp_0 vp_1 hp_1 vp_2 hp_2 vp_3 hp_3 fuel r10 hr10)) ?_; rintro _ _ ⟨rfl, rfl⟩; refine TL.run 2 rfl ?_; refine TL.gs rfl rfl rfl (fun h1 => ?_) (fun h1 => ?_)
    · refine TL.run 4 rfl ?_; refine TL.nil ?_; exact K.ae () trivial (.c (.c (.b (zcL h1).symm .nil))) (List.Sublist.refl _)
    · refine TL.run 1 rfl ?_; refine TL.y (Yv.an rfl rfl hl (List.length_map _)) ?_; have hm14 : l.length ≤ 9223372036854775807 := (List.length_map _) ▸ hl.max; refine TL.run 2 rfl ?_; refine TL.nil ?_; exact K.ae () trivial (.c (.c (.b (or_f h1) .nil))) (List.Sublist.refl _)
  · rintro _ _; have hm14 : l.length ≤ 9223372036854775807 := (List.length_map _) ▸ hl.max; refine T.cond rfl (fun h2 => ?_) (fun h2 => ?_)
    · replace hk := zab hk h2; refine T.seq ?_; have hq := zal hk; clear hk; obtain ⟨r17, hr17, hk⟩ := hq; (try dsimp only at hk); refine T.region ?_; refine TL.e (Ew.ah rfl rfl rfl (fun w hw => zc5 _ w (hw.fr (i := 1) rfl)  fuel r17 hr17)) ?_; rintro _ _ ⟨rfl, rfl⟩; refine TL.run 1 rfl ?_; refine TL.ns (T.ret (K.ab ?_)); obtain rfl := Option.some.inj hk; exact K.ai rfl rfl (fun w' hw => ⟨rfl, hw.isBelow⟩)
    · have p2 := h2; (try simp only [nfB] at p2); replace hk := zaa hk h2; refine T.skip (K.seq (T.seq ?_)); have hq := zal hk; clear hk; obtain ⟨r21, hr21, hk⟩ := hq; (try dsimp only at hk); refine T.region ?_; refine TL.y (Yv.ak 0 rfl rfl rfl rfl) ?_; refine TL.run 1 rfl ?_; refine TL.e (Ew.ah rfl rfl rfl (fun w hw => zey _ w (hw.fr (i := 1) rfl) p vp_0 cp_0 hp_0 vp_1 hp_1 vp_2 hp_2 vp_3 hp_3 l vl hl r21 hr21)) ?_; rintro _ _ ⟨rfl, rfl⟩; refine TL.run 5 rfl ?_; refine TL.ns (T.seq ?_); have hq := zal hk; clear hk; obtain ⟨r27, hr27, hk⟩ := hq; (try dsimp only at hk); refine T.region ?_; refine TL.y (Yv.ak 0 rfl rfl rfl rfl) ?_; refine TL.run 1 rfl ?_; refine TL.e (Ew.aA 1 rfl rfl rfl rfl (fun w hw hF => zc1 _ w hF p vp_0 cp_0 hp_0 vp_1 hp_1 vp_2 hp_2 vp_3 hp_3 l vl hl r27 hr27)) ?_; rintro _ _ ⟨v27_0_0, F2, le1_2, hf27_0_0, rfl, rfl⟩; haveI := hf27_0_0.oneC; refine TL.run 5 rfl ?_; refine TL.ns (T.seq (T.block (T.seq ?_))); have hq := zal hk; clear hk; obtain ⟨r32, hr32, hk⟩ := hq; (try dsimp only at hk); refine T.af (ι := Unit) (fun z => [(1, vl), (2, .pointer (some ⟨g2, 0, none⟩)), (5, .int .i64 r21.1), (6, .int .i64 r21.2), (7, v27_0_0), (8, .int .i64 r27.2), (30, .bool ((!r32) || (!(zbK l))))]) (fun z => [.row g2 29 [vp_0, vp_1, vp_2, vp_3], .fr F2]) (fun z => True) ?_ ?_
      · refine T.region ?_; refine TL.y (Yv.ak 0 rfl rfl rfl rfl) ?_; refine TL.e (Ew.ah rfl rfl rfl (fun w hw => zfh _ w (hw.fr (i := 1) rfl) p vp_0 cp_0 (SlD.mono (rep := GDomain.rep) (fun _ _ _ _ => GDomain.mono) hp_0 le1_2) vp_1 (SlC.mono hp_1 le1_2) vp_2 (SlC.mono hp_2 le1_2) vp_3 (SlC.mono hp_3 le1_2) r32 hr32)) ?_; rintro _ _ ⟨rfl, rfl⟩; refine TL.run 2 rfl ?_; refine TL.gs rfl rfl rfl (fun h3 => ?_) (fun h3 => ?_)
        · refine TL.run 5 rfl ?_; refine TL.nil ?_; exact K.ae () trivial (.c (.c (.c (.c (.c (.c (.b (zcL h3).symm .nil))))))) (List.Sublist.refl _)
        · refine TL.run 1 rfl ?_; refine TL.e (Ew.ah rfl rfl rfl (fun w hw => zem _ w (hw.fr (i := 1) rfl) l vl (SlC.mono hl le1_2))) ?_; rintro _ _ ⟨rfl, rfl⟩; refine TL.run 3 rfl ?_; refine TL.nil ?_; exact K.ae () trivial (.c (.c (.c (.c (.c (.c (.b (or_f h3) .nil))))))) (List.Sublist.refl _)
      · rintro _ _; refine T.cond rfl (fun h4 => ?_) (fun h4 => ?_)
        · replace hk := zab hk h4; refine T.seq ?_; (try dsimp only at hk); have hq := zad hk; clear hk; obtain ⟨k6, hk6, hk⟩ := hq; (try dsimp only at hk); refine T.af (ι := Bool) (fun z => [(4, .bool z)]) (fun z => [.fr F2]) (fun z => k6 z = some r) ?_ ?_
          · refine T.region ?_; refine TL.run 2 rfl ?_; refine TL.y (Yv.an rfl rfl hf27_0_0 (List.length_map _)) ?_; have hm41 : r27.1.length ≤ 9223372036854775807 := (List.length_map _) ▸ hf27_0_0.max; refine TL.run 3 rfl ?_; refine TL.gs rfl rfl rfl (fun h7 => ?_) (fun h7 => ?_)
            · have p7 := of_decide_eq_true h7; replace hk := zab hk h7; refine TL.run 4 rfl ?_; refine TL.gs rfl rfl rfl (fun h8 => ?_) (fun h8 => ?_)
              · have p8 := of_decide_eq_true h8; replace hk := zab hk h8; refine TL.run 4 rfl ?_; refine TL.gs rfl rfl rfl (fun h9 => ?_) (fun h9 => ?_)
                · have p9 := of_decide_eq_true h9; replace hk := zab hk h9; have hq := zal hk; clear hk; obtain ⟨r53, hr53, hk⟩ := hq; refine TL.e (Ew.ah rfl rfl rfl (fun w hw => zc5 _ w (hw.fr (i := 1) rfl)  fuel r53 hr53)) ?_; rintro _ _ ⟨rfl, rfl⟩; refine TL.run 2 rfl ?_; refine TL.nil ?_; refine K.pick [1] rfl (by decide) ?_; exact K.ae r53 hk (.c .nil) (List.Sublist.refl _)
                · have p9 := of_decide_eq_false h9; replace hk := zaa hk h9; refine TL.run 3 rfl ?_; refine TL.nil ?_; refine K.pick [1] rfl (by decide) ?_; exact K.ae false hk (.c .nil) (List.Sublist.refl _)
              · have p8 := of_decide_eq_false h8; replace hk := zaa hk h8; refine TL.run 7 rfl ?_; refine TL.nil ?_; refine K.pick [1] rfl (by decide) ?_; exact K.ae false hk (.c .nil) (List.Sublist.refl _)
            · have p7 := of_decide_eq_false h7; replace hk := zaa hk h7; refine TL.run 11 rfl ?_; refine TL.nil ?_; refine K.pick [1] rfl (by decide) ?_; exact K.ae false hk (.c .nil) (List.Sublist.refl _)
          · rintro x_5 hk; rw [← hk6] at hk; (try dsimp only at hk); refine T.ret (K.ag (K.ab ?_)); obtain rfl := Option.some.inj hk; exact K.ai rfl rfl (fun w' hw => ⟨rfl, hw.isBelow⟩)
        · replace hk := zaa hk h4; refine T.sr ?_; refine TL.y (Yv.ak 0 rfl rfl rfl rfl) ?_; refine TL.run 1 rfl ?_; refine TL.e (Ew.ah rfl rfl rfl (fun w hw => zeB _ w (hw.fr (i := 1) rfl) p vp_0 cp_0 (SlD.mono (rep := GDomain.rep) (fun _ _ _ _ => GDomain.mono) hp_0 le1_2) vp_1 (SlC.mono hp_1 le1_2) vp_2 (SlC.mono hp_2 le1_2) vp_3 (SlC.mono hp_3 le1_2) l vl (SlC.mono hl le1_2))) ?_; rintro _ _ ⟨rfl, rfl⟩; refine TL.run 2 rfl ?_; refine TL.ns ?_; refine T.cond rfl (fun h10 => ?_) (fun h10 => ?_)
          · replace hk := zab hk h10; refine T.seq ?_; (try dsimp only at hk); have hq := zad hk; clear hk; obtain ⟨k12, hk12, hk⟩ := hq; (try dsimp only at hk); refine T.af (ι := Bool) (fun z => [(4, .bool z)]) (fun z => [.fr F2]) (fun z => k12 z = some r) ?_ ?_
            · refine T.region ?_; refine TL.run 2 rfl ?_; refine TL.y (Yv.an rfl rfl hf27_0_0 (List.length_map _)) ?_; have hm62 : r27.1.length ≤ 9223372036854775807 := (List.length_map _) ▸ hf27_0_0.max; refine TL.run 3 rfl ?_; refine TL.gs rfl rfl rfl (fun h13 => ?_) (fun h13 => ?_)
              · have p13 := of_decide_eq_true h13; replace hk := zab hk h13; refine TL.run 4 rfl ?_; refine TL.gs rfl rfl rfl (fun h14 => ?_) (fun h14 => ?_)
                · have p14 := of_decide_eq_true h14; replace hk := zab hk h14; refine TL.run 4 rfl ?_; refine TL.gs rfl rfl rfl (fun h15 => ?_) (fun h15 => ?_)
                  · have p15 := of_decide_eq_true h15; replace hk := zab hk h15; have hq := zal hk; clear hk; obtain ⟨r74, hr74, hk⟩ := hq; refine TL.e (Ew.ah rfl rfl rfl (fun w hw => zc5 _ w (hw.fr (i := 1) rfl)  fuel r74 hr74)) ?_; rintro _ _ ⟨rfl, rfl⟩; refine TL.run 2 rfl ?_; refine TL.nil ?_; refine K.pick [1] rfl (by decide) ?_; exact K.ae r74 hk (.c .nil) (List.Sublist.refl _)
                  · have p15 := of_decide_eq_false h15; replace hk := zaa hk h15; refine TL.run 3 rfl ?_; refine TL.nil ?_; refine K.pick [1] rfl (by decide) ?_; exact K.ae false hk (.c .nil) (List.Sublist.refl _)
                · have p14 := of_decide_eq_false h14; replace hk := zaa hk h14; refine TL.run 7 rfl ?_; refine TL.nil ?_; refine K.pick [1] rfl (by decide) ?_; exact K.ae false hk (.c .nil) (List.Sublist.refl _)
              · have p13 := of_decide_eq_false h13; replace hk := zaa hk h13; refine TL.run 11 rfl ?_; refine TL.nil ?_; refine K.pick [1] rfl (by decide) ?_; exact K.ae false hk (.c .nil) (List.Sublist.refl _)
            · rintro x_11 hk; rw [← hk12] at hk; (try dsimp only at hk); refine T.ret (K.ag (K.ab ?_)); obtain rfl := Option.some.inj hk; exact K.ai rfl rfl (fun w' hw => ⟨rfl, hw.isBelow⟩)
          · replace hk := zaa hk h10; refine T.skip (K.ac (K.seq (T.seq ?_))); (try dsimp only at hk); have hq := zad hk; clear hk; obtain ⟨k17, hk17, hk⟩ := hq; (try dsimp only at hk); refine T.af (ι := Bool × FzB w (fun _ => False) S0) (fun z => [(4, .bool z.1)]) (fun z => [.fr z.2]) (fun z => k17 z.1 = some r ∧ F2.toFrz.Le z.2.toFrz) ?_ ?_
            · refine T.region ?_; refine TL.run 3 rfl ?_; refine TL.gs rfl rfl rfl (fun h18 => ?_) (fun h18 => ?_)
              · have p18 := of_decide_eq_true h18; replace hk := zab hk h18; refine TL.run 4 rfl ?_; refine TL.gs rfl rfl rfl (fun h19 => ?_) (fun h19 => ?_)
                · have p19 := of_decide_eq_true h19; replace hk := zab hk h19; refine TL.run 1 rfl ?_; refine TL.y (Yv.ak 0 rfl rfl rfl rfl) ?_; refine TL.run 1 rfl ?_; refine TL.e (Ew.ah rfl rfl rfl (fun w hw => zfu _ w (hw.fr (i := 1) rfl) p vp_0 cp_0 (SlD.mono (rep := GDomain.rep) (fun _ _ _ _ => GDomain.mono) hp_0 le1_2) vp_1 (SlC.mono hp_1 le1_2) vp_2 (SlC.mono hp_2 le1_2) vp_3 (SlC.mono hp_3 le1_2) l vl (SlC.mono hl le1_2))) ?_; rintro _ _ ⟨rfl, rfl⟩; refine TL.run 3 rfl ?_; refine TL.gs rfl rfl rfl (fun h20 => ?_) (fun h20 => ?_)
                  · have p20 := of_decide_eq_true h20; replace hk := zab hk h20; refine TL.run 1 rfl ?_; refine TL.y (Yv.ak 0 rfl rfl rfl rfl) ?_; refine TL.run 1 rfl ?_; have hq := zal hk; clear hk; obtain ⟨r93, hr93, hk⟩ := hq; refine TL.e (Ew.aA 1 rfl rfl rfl rfl (fun w hw hF => zeD _ w hF p vp_0 cp_0 (SlD.mono (rep := GDomain.rep) (fun _ _ _ _ => GDomain.mono) hp_0 le1_2) vp_1 (SlC.mono hp_1 le1_2) vp_2 (SlC.mono hp_2 le1_2) vp_3 (SlC.mono hp_3 le1_2) l vl (SlC.mono hl le1_2) r93 hr93)) ?_; rintro _ _ ⟨v93_0_0, F4, le2_4, hf93_0_0, hq, rfl⟩; obtain rfl := hq.symm; haveI := hf93_0_0.oneC; refine TL.e (Ew.ah rfl rfl rfl (fun w hw => zc2 _ w (hw.fr (i := 1) rfl) r27.1 v27_0_0 (SlC.mono hf27_0_0 le2_4) r93 v93_0_0 hf93_0_0)) ?_; rintro _ _ ⟨rfl, rfl⟩; refine TL.run 2 rfl ?_; refine TL.gs rfl rfl rfl (fun h21 => ?_) (fun h21 => ?_)
                    · replace hk := zab hk h21; have hq := zal hk; clear hk; obtain ⟨r97, hr97, hk⟩ := hq; refine TL.e (Ew.ah rfl rfl rfl (fun w hw => zc5 _ w (hw.fr (i := 1) rfl)  fuel r97 hr97)) ?_; rintro _ _ ⟨rfl, rfl⟩; refine TL.run 2 rfl ?_; refine TL.nil ?_; refine K.pick [1] rfl (by decide) ?_; exact K.ae (r97, F4) ⟨hk, le2_4⟩ (.c .nil) (List.Sublist.refl _)
                    · replace hk := zaa hk h21; refine TL.run 3 rfl ?_; refine TL.nil ?_; refine K.pick [1] rfl (by decide) ?_; exact K.ae (false, F4) ⟨hk, le2_4⟩ (.c .nil) (List.Sublist.refl _)
                  · have p20 := of_decide_eq_false h20; replace hk := zaa hk h20; refine TL.run 10 rfl ?_; refine TL.nil ?_; refine K.pick [1] rfl (by decide) ?_; exact K.ae (false, F2) ⟨hk, (Frz.Le.refl _)⟩ (.c .nil) (List.Sublist.refl _)
                · have p19 := of_decide_eq_false h19; replace hk := zaa hk h19; refine TL.run 17 rfl ?_; refine TL.nil ?_; refine K.pick [1] rfl (by decide) ?_; exact K.ae (false, F2) ⟨hk, (Frz.Le.refl _)⟩ (.c .nil) (List.Sublist.refl _)
              · have p18 := of_decide_eq_false h18; replace hk := zaa hk h18; refine TL.run 21 rfl ?_; refine TL.nil ?_; refine K.pick [1] rfl (by decide) ?_; exact K.ae (false, F2) ⟨hk, (Frz.Le.refl _)⟩ (.c .nil) (List.Sublist.refl _)
            · rintro ⟨x_16, F3⟩ ⟨hk, le2_3⟩; (try dsimp only at *); rw [← hk17] at hk; (try dsimp only at hk); refine T.ret ?_; obtain rfl := Option.some.inj hk; exact K.ai rfl rfl (fun w' hw => ⟨rfl, hw.isBelow⟩)
theorem zgG {n : Nat} (h : 100000 ≤ n) : zb8 n = some true := by
  obtain ⟨m, rfl⟩ : ∃ m, n = m + 100000 := ⟨n - 100000, by omega⟩
  kernel_rfl
theorem zgt {n : Int} : ∀ {l : List GChoice}, (∀ x ∈ l, x.Station ≠ n) → onL l n = 0
  | [], _ => rfl
  | x :: l, h => by
    show (bif decide (x.Station = n) then x.Channel else onL l n) = 0
    rw [decide_eq_false (h x (List.mem_cons_self ..)), cond_false]; exact zgt fun y hy => h y (List.mem_cons_of_mem _ hy)
theorem zgT {l : List GChoice} (h : VL l) {i : Nat} (hi : i < l.length) : onL l (nth l i).Station = (nth l i).Channel := by
  have key : ∀ m, i + 1 + m ≤ l.length → onL (l.take (i + 1 + m)) (nth l i).Station = (nth l i).Channel := fun m => by
    induction m with
    | zero => intro _; rw [Nat.add_zero, zfr h hi, if_pos rfl]
    | succ m ih =>
      intro hm; rw [← Nat.add_assoc, zfr h (by omega), if_neg (by have := h.lt i (i + 1 + m) (by omega) (by omega); omega)]; exact ih (by omega)
  have := key (l.length - (i + 1)) (by omega)
  rwa [show i + 1 + (l.length - (i + 1)) = l.length by omega, List.take_length] at this
def zcm (p : GProblem) (l : List GChoice) : Bool := decide ((l.length : Int) = (p.Domains.length : Int)) && (List.range' 0 (p.Domains.length - 0)).all fun i => !(decide (¬ (nth l i).Station = (nth p.Domains i).Station) || !za8 (nth p.Domains i).Channels (nth l i).Channel)
structure Comp (p : GProblem) (l : List GChoice) : Prop where
  len : l.length = p.Domains.length
  st : ∀ i, i < p.Domains.length → (nth l i).Station = (nth p.Domains i).Station
  ch : ∀ i, i < p.Domains.length → za8 (nth p.Domains i).Channels (nth l i).Channel = true
theorem comp_iff {p : GProblem} {l : List GChoice} : zcm p l = true ↔ Comp p l := by
  unfold zcm; rw [Bool.and_eq_true, decide_eq_true_eq, List.all_eq_true]; constructor
  · rintro ⟨h1, h2⟩
    have h3 : ∀ i, i < p.Domains.length → (nth l i).Station = (nth p.Domains i).Station ∧ za8 (nth p.Domains i).Channels (nth l i).Channel = true := fun i hi => by
      have := h2 i (by rw [List.mem_range'_1]; omega); simpa using this
    exact ⟨by omega, fun i hi => (h3 i hi).1, fun i hi => (h3 i hi).2⟩
  · rintro ⟨h1, h2, h3⟩; refine ⟨by omega, fun i hi => ?_⟩; rw [List.mem_range'_1] at hi; rw [h2 i (by omega), h3 i (by omega)]; simp
theorem zgM {l : List GChoice} (h : VL l) : (l.map (·.Station)).Pairwise (· < ·) := by
  rw [List.pairwise_map, List.pairwise_iff_getElem]; intro i j hi hj hij; have := h.lt i j hij hj
  rwa [zaW hi, zaW hj] at this
theorem zf5 {p : GProblem} {l : List GChoice} (hp : okP p = true) (hl : VL l) : Comp p l ↔ (∀ d ∈ p.Domains, onL l d.Station ≠ 0 ∧ za8 d.Channels (onL l d.Station) = true) ∧ ∀ x ∈ l, anyD p x.Station = true := by
  constructor
  · intro h; refine ⟨fun d hd => ?_, fun x hx => ?_⟩
    · obtain ⟨i, hi, rfl⟩ := List.mem_iff_getElem.1 hd; have h1 := zgT hl (show i < l.length by rw [h.len]; exact hi); rw [h.st i hi] at h1; have h2 := hl.ch i (by rw [h.len]; exact hi); rw [← zaW hi, h1]; exact ⟨by omega, h.ch i hi⟩
    · obtain ⟨i, hi, rfl⟩ := List.mem_iff_getElem.1 hx; rw [anyD_mem, ← zaW hi, h.st i (by rw [← h.len]; exact hi)]; exact List.mem_map.2 ⟨_, zba (by rw [← h.len]; exact hi), rfl⟩
  · rintro ⟨h1, h2⟩
    have e : l.map (·.Station) = p.Domains.map (·.Station) := zeq (zgM hl) (zdl (zcl hp).i) fun x => by
      constructor
      · intro hx; obtain ⟨y, hy, rfl⟩ := List.mem_map.1 hx; exact anyD_mem.1 (h2 y hy)
      · intro hx; obtain ⟨d, hd, rfl⟩ := List.mem_map.1 hx; by_cases hn : d.Station ∈ l.map (·.Station)
        · exact hn
        · exact absurd (zgt fun y hy q => hn (List.mem_map.2 ⟨y, hy, q⟩)) (h1 d hd).1
    (have hlen : l.length = p.Domains.length := by have := congrArg List.length e; rwa [List.length_map, List.length_map] at this)
    have hst : ∀ i, i < p.Domains.length → (nth l i).Station = (nth p.Domains i).Station := fun i hi => by
      have h3 := congrArg (fun m => nth m i) e
      rwa [zeH (by omega), zeH hi] at h3
    refine ⟨hlen, hst, fun i hi => ?_⟩; have h3 := (h1 _ (zba hi)).2; rw [← hst i hi, zgT hl (by omega)] at h3; exact h3
theorem zdO {n : Nat} {f : Nat → (Int × Int → GViolation) → Int × Int → GViolation} {K : Int × Int → GViolation} {q : Nat → Bool} {c : Int} (hf : ∀ i next s, i < n → f i next s = bif q i then ⟨c, (i : Int)⟩ else next s) (s : Int × Int) : ((∀ i, i < n → q i = false) ∧ zag f K n 0 s = K s) ∨ ((∃ i, i < n ∧ q i = true) ∧ (zag f K n 0 s).Kind = c) := by
  refine zg1 (fun i s' => s' = s ∧ ∀ j, j < i → q j = false) (fun r => ((∀ i, i < n → q i = false) ∧ r = K s) ∨ ((∃ i, i < n ∧ q i = true) ∧ r.Kind = c)) ⟨rfl, fun j hj => absurd hj (Nat.not_lt_zero j)⟩ (fun s' h => .inl ⟨h.2, by rw [h.1]⟩) (fun i s' next hi h hn => ?_); rw [hf i next s' hi]
  cases hq : q i with
  | true => exact .inr ⟨⟨i, hi, hq⟩, rfl⟩
  | false =>
    refine hn s' ⟨h.1, fun j hj => ?_⟩; rcases Nat.lt_or_ge j i with hlt | hge
    · exact h.2 j hlt
    · (obtain rfl : j = i := by omega); exact hq
theorem zfn {p : GProblem} {l : List GChoice} (hp : okP p = true) (hl : VL l) : zbQ p l = zcm p l := by
  unfold zbQ
  have e : zbu p l true = zag (fun (i : Nat) (next : (Int × Int) → GViolation) (s : Int × Int) => bif (((decide (onL l (nth p.Domains i).Station = 0)) && true) || ((decide (¬ onL l (nth p.Domains i).Station = 0)) && (!za8 (nth p.Domains i).Channels (onL l (nth p.Domains i).Station)))) then ⟨1, (i : Int)⟩ else next s) (fun s => zag (fun (i : Nat) (next : (Int × Int) → GViolation) (s : Int × Int) => bif !anyD p (nth l i).Station then ⟨2, (i : Int)⟩ else next s) (fun s => zag (fun (i : Nat) (next : (Int × Int) → GViolation) (s : Int × Int) => bif zah (nth p.Rules.Pairs i) l then ⟨3, (i : Int)⟩ else next s) (fun s => zag (fun (i : Nat) (next : (Int × Int) → GViolation) (s : Int × Int) => bif zaj p (nth p.Rules.Caps i) l then ⟨4, (i : Int)⟩ else next s) (fun s => ⟨0, 0⟩) (p.Rules.Caps.length - 0) 0 s) (p.Rules.Pairs.length - 0) 0 s) (l.length - 0) 0 s) (p.Domains.length - 0) 0 (0, 0) := by
    unfold zbu; simp only [zaE, on_x, ze2]
  rw [e]; have a1 := fun K => zdO (n := p.Domains.length - 0) (K := K) (q := fun i => (((decide (onL l (nth p.Domains i).Station = 0)) && true) || ((decide (¬ onL l (nth p.Domains i).Station = 0)) && (!za8 (nth p.Domains i).Channels (onL l (nth p.Domains i).Station))))) (c := 1) (fun i next s hi => rfl) (0, 0); have a2 := fun K s => zdO (n := l.length - 0) (K := K) (q := fun i => !anyD p (nth l i).Station) (c := 2) (fun i next s hi => rfl) s; have a3 := fun K s => zdO (n := p.Rules.Pairs.length - 0) (K := K) (q := fun i => zah (nth p.Rules.Pairs i) l) (c := 3) (fun i next s hi => rfl) s; have a4 := fun K s => zdO (n := p.Rules.Caps.length - 0) (K := K) (q := fun i => zaj p (nth p.Rules.Caps i) l) (c := 4) (fun i next s hi => rfl) s
  have no : ¬ ((∀ d ∈ p.Domains, onL l d.Station ≠ 0 ∧ za8 d.Channels (onL l d.Station) = true) ∧ ∀ x ∈ l, anyD p x.Station = true) → zcm p l = false := fun h => by
    cases hc : zcm p l with
    | false => rfl
    | true => exact absurd ((zf5 hp hl).1 (comp_iff.1 hc)) h
  rcases a1 _ with ⟨h1, e1⟩ | ⟨⟨i, hi, h1⟩, e1⟩
  · rw [e1]; rcases a2 _ _ with ⟨h2, e2⟩ | ⟨⟨i, hi, h2⟩, e2⟩
    · rw [e2]
      have hc : zcm p l = true := comp_iff.2 ((zf5 hp hl).2 ⟨fun d hd => by
        obtain ⟨i, hi, rfl⟩ := List.mem_iff_getElem.1 hd; have := h1 i (by omega); rw [zaW hi] at this; simp at this
        exact ⟨this.1, this.2 this.1⟩, fun x hx => by
        obtain ⟨i, hi, rfl⟩ := List.mem_iff_getElem.1 hx; have := h2 i (by omega); rw [zaW hi] at this
        simpa using this⟩)
      rw [hc]; rcases a3 _ _ with ⟨_, e3⟩ | ⟨_, e3⟩
      · rw [e3]; rcases a4 _ _ with ⟨_, e4⟩ | ⟨_, e4⟩
        · rw [e4]; rfl
        · rw [e4]; rfl
      · rw [e3]; rfl
    · rw [e2, no fun h => by
        have := h.2 _ (zba (show i < l.length by omega))
        rw [this] at h2; cases h2]
      rfl
  · rw [e1, no fun h => by
      obtain ⟨h3, h4⟩ := h.1 _ (zba (show i < p.Domains.length by omega)); rw [h4] at h1
      simp [h3] at h1]
    rfl
structure Board (p : GProblem) (l : List GChoice) (b : Gboard) : Prop where
  pb : b.p = p
  on : TabC l b.on
  dm : ∀ i, i < p.Domains.length → Vec.get b.domains (nth p.Domains i).Station.toNat = (nth p.Domains i).Channels
  pr : ∀ n, n < 512 → Vec.get b.pairs n = p.Rules.Pairs.flatMap fun c => (bif decide (c.A = (n : Int)) then [c] else []) ++ (bif decide (c.B = (n : Int)) then [c] else [])
  cp : ∀ n, n < 512 → Vec.get b.caps n = p.Rules.Caps.filter fun c => decide (c.Station = (n : Int))
  inn : ∀ n, n < 512 → Vec.get b.into n = p.Rules.Loads.filter fun c => decide (c.To = (n : Int))
  fr : ∀ n, n < 512 → Vec.get b.from_ n = p.Rules.Loads.filter fun c => decide (c.From = (n : Int))
theorem zdZ {α : Type} [Inhabited α] {xs : List α} {i : Nat} (hi : i < xs.length) (q : α → Bool) : (xs.take (i + 1)).filter q = (xs.take i).filter q ++ bif q (nth xs i) then [nth xs i] else [] := by
  rw [zeL hi, List.filter_append, List.filter_cons]
  cases q (nth xs i) <;> rfl
theorem zer {α : Type} {xs : List α} {i : Nat} (q : α → Bool) : ((xs.take i).filter q).length ≤ i := Nat.le_trans (List.length_filter_le _ _) (by rw [List.length_take]; omega)
theorem zil {α ρ : Type} [Inhabited α] {xs : List α} {key : α → Int} {sz : Nat} (hs : sz ≤ 100) (hn : xs.length ≤ 10000) (hk : ∀ x ∈ xs, 0 ≤ key x ∧ key x < 512) (K : Vec 512 (List α) → Option ρ) : ∃ c : Vec 512 (List α), (∀ n, n < 512 → Vec.get c n = xs.filter fun x => decide (key x = (n : Int))) ∧
    zag (fun (i : Nat) (next : Vec 512 (List α) → Option ρ) (c : Vec 512 (List α)) => grd (0 ≤ key (nth xs i) ∧ key (nth xs i) < (512 : Int)) <| grd (room (Vec.get c (key (nth xs i)).toNat ++ [nth xs i]).length sz) <| next (Vec.put c (key (nth xs i)).toNat (Vec.get c (key (nth xs i)).toNat ++ [nth xs i]))) K (xs.length - 0) 0 (Vec.fill 512 []) = K c := by
  obtain ⟨h1, h2⟩ := zcn (k := K) (n := xs.length - 0) (s := Vec.fill 512 ([] : List α))
    (f := fun (i : Nat) (next : Vec 512 (List α) → Option ρ) (c : Vec 512 (List α)) => grd (0 ≤ key (nth xs i) ∧ key (nth xs i) < (512 : Int)) <| grd (room (Vec.get c (key (nth xs i)).toNat ++ [nth xs i]).length sz) <| next (Vec.put c (key (nth xs i)).toNat (Vec.get c (key (nth xs i)).toNat ++ [nth xs i])))
    (fun i c => ∀ n, n < 512 → Vec.get c n = (xs.take i).filter fun x => decide (key x = (n : Int)))
    (fun i c => Vec.put c (key (nth xs i)).toNat (Vec.get c (key (nth xs i)).toNat ++ [nth xs i]))
    (fun n hn => Vec.get_fill hn)
    (fun i c hi hc n hn => by
      have h3 := hk _ (zba (show i < xs.length by omega)); rw [zdZ (by omega), Vec.get_put (by omega)]; by_cases e : n = (key (nth xs i)).toNat
      · rw [if_pos e, decide_eq_true (show key (nth xs i) = (n : Int) by omega), ← e, hc n hn]; rfl
      · rw [if_neg e, decide_eq_false (show ¬ key (nth xs i) = (n : Int) by omega), hc n hn, cond_false, List.append_nil])
    (fun i next c hi hc => by
      have h3 := hk _ (zba (show i < xs.length by omega)); rw [za4 ⟨h3.1, h3.2⟩, za4]; rw [hc _ (by omega), List.length_append]; have := zer (xs := xs) (i := i) fun x => decide (key x = (((key (nth xs i)).toNat : Nat) : Int)); unfold room; simp only [List.length_cons, List.length_nil]; have h4 : ((List.filter (fun x => decide (key x = (((key (nth xs i)).toNat : Nat) : Int))) (List.take i xs)).length + (0 + 1)) * sz ≤ 10001 * 100 := Nat.mul_le_mul (by omega) hs
      omega)
  refine ⟨_, fun n hn => ?_, h1⟩; have := h2 n hn
  rwa [Nat.sub_zero, List.take_length] at this
abbrev abF (n : Nat) (c : GPair) : List GPair := (bif decide (c.A = (n : Int)) then [c] else []) ++ (bif decide (c.B = (n : Int)) then [c] else [])
theorem zhd (n : Nat) : ∀ l : List GPair, (l.flatMap (abF n)).length ≤ 2 * l.length
  | [] => by simp
  | c :: l => by
    have := zhd n l; rw [List.flatMap_cons, List.length_append, List.length_cons]
    have h : (abF n c).length ≤ 2 := by
      unfold abF
      cases decide (c.A = (n : Int)) <;> cases decide (c.B = (n : Int)) <;> simp
    omega
theorem zhm {ρ : Type} {xs : List GPair} (hn : xs.length ≤ 10000) (hk : ∀ x ∈ xs, (0 ≤ x.A ∧ x.A < 512) ∧ 0 ≤ x.B ∧ x.B < 512) (K : Vec 512 (List GPair) → Option ρ) : ∃ c : Vec 512 (List GPair), (∀ n, n < 512 → Vec.get c n = xs.flatMap (abF n)) ∧
    zag (fun (i_17 : Nat) (next16 : Vec 512 (List GPair) → Option ρ) (c_15 : Vec 512 (List GPair)) =>
          grd (0 ≤ (nth xs i_17).A ∧ (nth xs i_17).A < (512 : Int)) <|
          grd (room ((Vec.get c_15 (((nth xs i_17).A).toNat)) ++ [(nth xs i_17)]).length 40) <|
          grd (0 ≤ (nth xs i_17).B ∧ (nth xs i_17).B < (512 : Int)) <|
          grd (room ((Vec.get (Vec.put c_15 (((nth xs i_17).A).toNat) ((Vec.get c_15 (((nth xs i_17).A).toNat)) ++ [(nth xs i_17)])) (((nth xs i_17).B).toNat)) ++ [(nth xs i_17)]).length 40) <|
          next16 (Vec.put (Vec.put c_15 (((nth xs i_17).A).toNat) ((Vec.get c_15 (((nth xs i_17).A).toNat)) ++ [(nth xs i_17)])) (((nth xs i_17).B).toNat) ((Vec.get (Vec.put c_15 (((nth xs i_17).A).toNat) ((Vec.get c_15 (((nth xs i_17).A).toNat)) ++ [(nth xs i_17)])) (((nth xs i_17).B).toNat)) ++ [(nth xs i_17)]))) K (xs.length - 0) 0 (Vec.fill 512 []) = K c := by
  obtain ⟨h1, h2⟩ := zcn (k := K) (n := xs.length - 0) (s := Vec.fill 512 ([] : List GPair))
    (f := fun (i_17 : Nat) (next16 : Vec 512 (List GPair) → Option ρ) (c_15 : Vec 512 (List GPair)) =>
          grd (0 ≤ (nth xs i_17).A ∧ (nth xs i_17).A < (512 : Int)) <|
          grd (room ((Vec.get c_15 (((nth xs i_17).A).toNat)) ++ [(nth xs i_17)]).length 40) <|
          grd (0 ≤ (nth xs i_17).B ∧ (nth xs i_17).B < (512 : Int)) <|
          grd (room ((Vec.get (Vec.put c_15 (((nth xs i_17).A).toNat) ((Vec.get c_15 (((nth xs i_17).A).toNat)) ++ [(nth xs i_17)])) (((nth xs i_17).B).toNat)) ++ [(nth xs i_17)]).length 40) <|
          next16 (Vec.put (Vec.put c_15 (((nth xs i_17).A).toNat) ((Vec.get c_15 (((nth xs i_17).A).toNat)) ++ [(nth xs i_17)])) (((nth xs i_17).B).toNat) ((Vec.get (Vec.put c_15 (((nth xs i_17).A).toNat) ((Vec.get c_15 (((nth xs i_17).A).toNat)) ++ [(nth xs i_17)])) (((nth xs i_17).B).toNat)) ++ [(nth xs i_17)])))
    (fun i c => ∀ n, n < 512 → Vec.get c n = (xs.take i).flatMap (abF n))
    (fun i c => Vec.put (Vec.put c (((nth xs i).A).toNat) ((Vec.get c (((nth xs i).A).toNat)) ++ [(nth xs i)])) (((nth xs i).B).toNat) ((Vec.get (Vec.put c (((nth xs i).A).toNat) ((Vec.get c (((nth xs i).A).toNat)) ++ [(nth xs i)])) (((nth xs i).B).toNat)) ++ [(nth xs i)]))
    (fun n hn => Vec.get_fill hn)
    (fun i c hi hc n hn => by
      have h3 := hk _ (zba (show i < xs.length by omega)); rw [zeL (by omega), List.flatMap_append, ← hc n hn, Vec.get_put (by omega), Vec.get_put (by omega), Vec.get_put (by omega)]
      show _ = Vec.get c n ++ (abF n (nth xs i) ++ [])
      rw [List.append_nil]; unfold abF; by_cases eA : n = ((nth xs i).A).toNat <;> by_cases eB : n = ((nth xs i).B).toNat
      · rw [if_pos eB, if_pos (by omega), decide_eq_true (show (nth xs i).A = (n : Int) by omega), decide_eq_true (show (nth xs i).B = (n : Int) by omega), ← eA]; simp
      · rw [if_neg eB, if_pos eA, decide_eq_true (show (nth xs i).A = (n : Int) by omega), decide_eq_false (show ¬ (nth xs i).B = (n : Int) by omega), ← eA]; simp
      · rw [if_pos eB, if_neg (by omega), decide_eq_false (show ¬ (nth xs i).A = (n : Int) by omega), decide_eq_true (show (nth xs i).B = (n : Int) by omega), ← eB]; simp
      · rw [if_neg eB, if_neg eA, decide_eq_false (show ¬ (nth xs i).A = (n : Int) by omega), decide_eq_false (show ¬ (nth xs i).B = (n : Int) by omega)]; simp)
    (fun i next c hi hc => by
      have h3 := hk _ (zba (show i < xs.length by omega))
      have hb : ∀ n, n < 512 → (Vec.get c n).length ≤ 20000 := fun n hn => by
        rw [hc n hn]; have h4 := zhd n (xs.take i); rw [List.length_take] at h4; omega
      have hr : ∀ l : List GPair, l.length ≤ 20001 → room (l ++ [nth xs i]).length 40 := fun l hl => by
        rw [List.length_append]; unfold room; simp only [List.length_cons, List.length_nil]; omega
      have hA := hb ((nth xs i).A).toNat (by omega); rw [za4 ⟨h3.1.1, h3.1.2⟩, za4 (hr _ (by omega)), za4 ⟨h3.2.1, h3.2.2⟩, za4 (hr _ ?_)]; rw [Vec.get_put (by omega)]; have hB := hb ((nth xs i).B).toNat (by omega)
      split
      · rw [List.length_append]; simp only [List.length_cons, List.length_nil]; omega
      · omega)
  refine ⟨_, fun n hn => ?_, h1⟩; have := h2 n hn
  rwa [Nat.sub_zero, List.take_length] at this
theorem zhq {ρ : Type} {xs : List GLoad} (hn : xs.length ≤ 10000) (hk : ∀ x ∈ xs, (0 ≤ x.To ∧ x.To < 512) ∧ 0 ≤ x.From ∧ x.From < 512) (K : Vec 512 (List GLoad) × Vec 512 (List GLoad) → Option ρ) : ∃ c : Vec 512 (List GLoad) × Vec 512 (List GLoad), ((∀ n, n < 512 → Vec.get c.1 n = xs.filter fun x => decide (x.To = (n : Int))) ∧ ∀ n, n < 512 → Vec.get c.2 n = xs.filter fun x => decide (x.From = (n : Int))) ∧
    zag (fun (i_32 : Nat) (next31 : (Vec 512 (List GLoad) × Vec 512 (List GLoad)) → Option ρ) (s31 : Vec 512 (List GLoad) × Vec 512 (List GLoad)) =>
              grd (0 ≤ (nth xs i_32).To ∧ (nth xs i_32).To < (512 : Int)) <|
              grd (room ((Vec.get s31.1 (((nth xs i_32).To).toNat)) ++ [(nth xs i_32)]).length 40) <|
              grd (0 ≤ (nth xs i_32).From ∧ (nth xs i_32).From < (512 : Int)) <|
              grd (room ((Vec.get s31.2 (((nth xs i_32).From).toNat)) ++ [(nth xs i_32)]).length 40) <|
              next31 ((Vec.put s31.1 (((nth xs i_32).To).toNat) ((Vec.get s31.1 (((nth xs i_32).To).toNat)) ++ [(nth xs i_32)])), (Vec.put s31.2 (((nth xs i_32).From).toNat) ((Vec.get s31.2 (((nth xs i_32).From).toNat)) ++ [(nth xs i_32)])))) K (xs.length - 0) 0 ((Vec.fill 512 ([] : List GLoad)), (Vec.fill 512 ([] : List GLoad))) = K c := by
  obtain ⟨h1, h2⟩ := zcn (k := K) (n := xs.length - 0) (s := ((Vec.fill 512 ([] : List GLoad)), (Vec.fill 512 ([] : List GLoad))))
    (f := fun (i_32 : Nat) (next31 : (Vec 512 (List GLoad) × Vec 512 (List GLoad)) → Option ρ) (s31 : Vec 512 (List GLoad) × Vec 512 (List GLoad)) =>
              grd (0 ≤ (nth xs i_32).To ∧ (nth xs i_32).To < (512 : Int)) <|
              grd (room ((Vec.get s31.1 (((nth xs i_32).To).toNat)) ++ [(nth xs i_32)]).length 40) <|
              grd (0 ≤ (nth xs i_32).From ∧ (nth xs i_32).From < (512 : Int)) <|
              grd (room ((Vec.get s31.2 (((nth xs i_32).From).toNat)) ++ [(nth xs i_32)]).length 40) <|
              next31 ((Vec.put s31.1 (((nth xs i_32).To).toNat) ((Vec.get s31.1 (((nth xs i_32).To).toNat)) ++ [(nth xs i_32)])), (Vec.put s31.2 (((nth xs i_32).From).toNat) ((Vec.get s31.2 (((nth xs i_32).From).toNat)) ++ [(nth xs i_32)]))))
    (fun i c => (∀ n, n < 512 → Vec.get c.1 n = (xs.take i).filter fun x => decide (x.To = (n : Int))) ∧ ∀ n, n < 512 → Vec.get c.2 n = (xs.take i).filter fun x => decide (x.From = (n : Int)))
    (fun i c => ((Vec.put c.1 (((nth xs i).To).toNat) ((Vec.get c.1 (((nth xs i).To).toNat)) ++ [(nth xs i)])), (Vec.put c.2 (((nth xs i).From).toNat) ((Vec.get c.2 (((nth xs i).From).toNat)) ++ [(nth xs i)]))))
    ⟨fun n hn => Vec.get_fill hn, fun n hn => Vec.get_fill hn⟩
    (fun i c hi hc => by
      have h3 := hk _ (zba (show i < xs.length by omega)); refine ⟨fun n hn => ?_, fun n hn => ?_⟩
      · rw [zdZ (by omega), Vec.get_put (by omega)]; by_cases e : n = ((nth xs i).To).toNat
        · rw [if_pos e, decide_eq_true (show (nth xs i).To = (n : Int) by omega), ← e, hc.1 n hn]; rfl
        · rw [if_neg e, decide_eq_false (show ¬ (nth xs i).To = (n : Int) by omega), hc.1 n hn, cond_false, List.append_nil]
      · rw [zdZ (by omega), Vec.get_put (by omega)]; by_cases e : n = ((nth xs i).From).toNat
        · rw [if_pos e, decide_eq_true (show (nth xs i).From = (n : Int) by omega), ← e, hc.2 n hn]; rfl
        · rw [if_neg e, decide_eq_false (show ¬ (nth xs i).From = (n : Int) by omega), hc.2 n hn, cond_false, List.append_nil])
    (fun i next c hi hc => by
      have h3 := hk _ (zba (show i < xs.length by omega))
      have hr : ∀ l : List GLoad, l.length ≤ i → room (l ++ [nth xs i]).length 40 := fun l hl => by
        rw [List.length_append]; unfold room; simp only [List.length_cons, List.length_nil]; omega
      rw [za4 ⟨h3.1.1, h3.1.2⟩, za4 (hr _ (by rw [hc.1 _ (by omega)]; exact zer _)), za4 ⟨h3.2.1, h3.2.2⟩, za4 (hr _ (by rw [hc.2 _ (by omega)]; exact zer _))])
  refine ⟨_, ⟨fun n hn => ?_, fun n hn => ?_⟩, h1⟩
  · have := h2.1 n hn
    rwa [Nat.sub_zero, List.take_length] at this
  · have := h2.2 n hn
    rwa [Nat.sub_zero, List.take_length] at this
theorem zh5 {ρ : Type} {p : GProblem} (hp : okP p = true) (K : Vec 512 (List Int) → Option ρ) : ∃ c : Vec 512 (List Int), (∀ i, i < p.Domains.length → Vec.get c (nth p.Domains i).Station.toNat = (nth p.Domains i).Channels) ∧
    zag (fun (i_11 : Nat) (next10 : Vec 512 (List Int) → Option ρ) (c_9 : Vec 512 (List Int)) =>
        grd (0 ≤ (nth p.Domains i_11).Station ∧ (nth p.Domains i_11).Station < (512 : Int)) <|
        next10 (Vec.put c_9 (((nth p.Domains i_11).Station).toNat) ((nth p.Domains i_11).Channels))) K (p.Domains.length - 0) 0 (Vec.fill 512 []) = K c := by
  have hs : ∀ i j, i < j → j < p.Domains.length → (nth p.Domains i).Station < (nth p.Domains j).Station := fun i j hij hj => by
    have h := List.pairwise_iff_getElem.1 (zdl (zcl hp).i) i j (by rw [List.length_map]; omega) (by rw [List.length_map]; exact hj) hij; rw [List.getElem_map, List.getElem_map] at h
    rwa [zaW (by omega), zaW hj]
  obtain ⟨h1, h2⟩ := zcn (k := K) (n := p.Domains.length - 0) (s := Vec.fill 512 ([] : List Int))
    (f := fun (i_11 : Nat) (next10 : Vec 512 (List Int) → Option ρ) (c_9 : Vec 512 (List Int)) =>
        grd (0 ≤ (nth p.Domains i_11).Station ∧ (nth p.Domains i_11).Station < (512 : Int)) <|
        next10 (Vec.put c_9 (((nth p.Domains i_11).Station).toNat) ((nth p.Domains i_11).Channels)))
    (fun i c => ∀ j, j < i → Vec.get c (nth p.Domains j).Station.toNat = (nth p.Domains j).Channels)
    (fun i c => Vec.put c (((nth p.Domains i).Station).toNat) ((nth p.Domains i).Channels))
    (fun j hj => absurd hj (Nat.not_lt_zero j))
    (fun i c hi hc j hj => by
      have h3 := zd9 (zcl hp).d (zba (show i < p.Domains.length by omega)); have h4 := zd9 (zcl hp).d (zba (show j < p.Domains.length by omega)); rw [Vec.get_put (by omega)]; rcases Nat.lt_or_ge j i with hlt | hge
      · have := hs j i hlt (by omega); rw [if_neg (by omega)]; exact hc j hlt
      · (obtain rfl : j = i := by omega)
        rw [if_pos rfl])
    (fun i next c hi hc => by
      have h3 := zd9 (zcl hp).d (zba (show i < p.Domains.length by omega))
      rw [za4 ⟨h3.1, h3.2⟩])
  exact ⟨_, fun i hi => h2 i (by omega), h1⟩
theorem zgL {κ ρ : Type} {T : κ → Prop} {L : (κ → ρ) → ρ} (Q : ρ → Prop) (h : ∀ K, ∃ c, T c ∧ L K = K c) (K : κ → ρ) (g : ∀ c, T c → Q (K c)) : Q (L K) := by
  obtain ⟨c, h1, h2⟩ := h K; rw [h2]; exact g c h1
theorem zg3 {p : GProblem} {l : List GChoice} (hp : okP p = true) (hl : VL l) : ∃ b, zbZ p l = some (some b) ∧ Board p l b := by
  have hg := zcA (zcl hp).r; unfold zbZ; simp only [zaE]
  have hP : ∀ x ∈ p.Rules.Pairs, (0 ≤ x.A ∧ x.A < 512) ∧ 0 ≤ x.B ∧ x.B < 512 := fun x hx => by
    have h := zdr (hg.p x hx); have h1 := zbz h.1; have h2 := zbz h.2; omega
  have hL : ∀ x ∈ p.Rules.Loads, (0 ≤ x.To ∧ x.To < 512) ∧ 0 ≤ x.From ∧ x.From < 512 := fun x hx => by
    have h := zda (hg.l x hx); have h1 := zbz h.1; have h2 := zbz h.2; omega
  have hC : ∀ x ∈ p.Rules.Caps, 0 ≤ x.Station ∧ x.Station < 512 := fun x hx => by
    have h1 := zbz (ze5 (hg.c x hx)); omega
  have u1 := zgL (fun r => ∃ b, r = some (some b) ∧ Board p l b) (zhW hl (ρ := Option Gboard)); have u2 := zgL (fun r => ∃ b, r = some (some b) ∧ Board p l b) (zh5 hp (ρ := Option Gboard)); have u3 := zgL (fun r => ∃ b, r = some (some b) ∧ Board p l b) (zhm (by have := hg.np; omega) hP (ρ := Option Gboard)); have u4 := zgL (fun r => ∃ b, r = some (some b) ∧ Board p l b) (zil (xs := p.Rules.Caps) (key := fun c => c.Station) (sz := 32) (by decide) (by have := hg.nc; omega) hC (ρ := Option Gboard)); have u5 := zgL (fun r => ∃ b, r = some (some b) ∧ Board p l b) (zhq (by have := hg.nl; omega) hL (ρ := Option Gboard)); refine u1 _ fun c1 t1 => ?_; refine u2 _ fun c2 t2 => ?_; refine u3 _ fun c3 t3 => ?_; refine u4 _ fun c4 t4 => ?_; refine u5 _ fun c5 t5 => ?_; exact ⟨_, rfl, ⟨rfl, t1, t2, t3, t4, t5.1, t5.2⟩⟩
theorem zcQ {α : Type} (q : α → Bool) : ∀ (l : List α) (a : Int), 0 ≤ a → a + (l.length : Int) ≤ 4611686018427387904 → l.foldl (fun n x => bif q x then wI (n + 1) else n) a = a + ((l.filter q).length : Int)
  | [], a, _, _ => by simp
  | x :: l, a, h0, h1 => by
    rw [List.length_cons] at h1; rw [List.foldl_cons, List.filter_cons]
    cases hq : q x with
    | false => rw [cond_false, if_neg (by simp)]; exact zcQ q l a h0 (by omega)
    | true =>
      rw [cond_true, if_pos rfl, zh9 (by omega), zcQ q l (a + 1) (by omega) (by omega), List.length_cons]; omega
theorem zfK {α : Type} (q1 q2 : α → Bool) (h : ∀ x, q1 x = true → q2 x = false) : ∀ l : List α, (l.filter fun x => q1 x || q2 x).length = (l.filter q1).length + (l.filter q2).length
  | [] => rfl
  | x :: l => by
    rw [List.filter_cons, List.filter_cons, List.filter_cons]; have ih := zfK q1 q2 h l
    cases h1 : q1 x with
    | true => rw [h x h1]; simp [ih]; omega
    | false => cases h2 : q2 x <;> simp [ih] <;> omega
section
variable {p : GProblem} {l : List GChoice} {b : Gboard}
theorem Board.get (hb : Board p l b) {i : Int} (hi : 0 ≤ i ∧ i < 512) : Vec.get b.on i.toNat = onL l i := hb.on.get hi
theorem zha (hb : Board p l b) {c : GLoad} (hT : 0 ≤ c.To ∧ c.To < 512) (hF : 0 ≤ c.From ∧ c.From < 512) : zaR b c = some ((decide (c.Low ≤ onL l c.To) && decide (onL l c.To ≤ c.High)) && decide (onL l c.From = onL l c.To)) := by
  unfold zaR; simp only [zaE, hb.get hT, hb.get hF]; rw [za4 hT]
  cases decide (c.Low ≤ onL l c.To)
  · rfl
  cases decide (onL l c.To ≤ c.High)
  · rfl
  rw [cond_true, cond_true, za4 hF]; rfl
theorem ze4 (hp : okP p = true) (hl : VL l) (hc : Comp p l) (hb : Board p l b) {c : GPair} (hm : c ∈ p.Rules.Pairs) : zaF b c = some (zah c l) := by
  have hg := zcA (zcl hp).r; have h := zdr (hg.p c hm); have h1 := zbz h.1; have h2 := zbz h.2; (have hA : 0 ≤ c.A ∧ c.A < 512 := by omega); (have hB : 0 ≤ c.B ∧ c.B < 512 := by omega); have hlk := List.all_eq_true.1 (zca (zcl hp).l) c hm; rw [zeI (zcl hp).d, zeI (zcl hp).d] at hlk
  have on0 : ∀ n, anyD p n = true → onL l n ≠ 0 := fun n hn => by
    obtain ⟨d, hd, rfl⟩ := List.mem_map.1 (anyD_mem.1 hn); exact (((zf5 hp hl).1 hc).1 d hd).1
  have nA := on0 _ (zca hlk); have nB := on0 _ (zcG hlk); unfold zaF; simp only [zaE, hb.get hA, hb.get hB]; rw [za4 hA]; have e := zfY c l; by_cases a1 : c.Low ≤ onL l c.A
  · by_cases a2 : onL l c.A ≤ c.High
    · rw [decide_eq_true a1, decide_eq_true a2, cond_true, cond_true, za4 hB]
      congr 1
      rw [Bool.eq_iff_iff, e, decide_eq_true_eq]; exact ⟨fun q => ⟨nA, nB, a1, a2, q⟩, fun q => q.2.2.2.2⟩
    · rw [decide_eq_true a1, decide_eq_false a2, cond_true, cond_false]
      congr 1
      cases hq : zah c l with
      | false => rfl
      | true => exact absurd (e.1 hq).2.2.2.1 a2
  · rw [decide_eq_false a1, cond_false]
    congr 1
    cases hq : zah c l with
    | false => rfl
    | true => exact absurd (e.1 hq).2.2.1 a1
def zdY (p : GProblem) (l : List GChoice) (n : Int) : Nat := (p.Rules.Caps.filter fun c => decide (c.Station = n) && zaj p c l).length
theorem zhK (hp : okP p = true) (hb : Board p l b) {n : Int} (hn : 0 ≤ n ∧ n < 512) : zaI b n = some (zdY p l n : Int) := by
  have hg := zcA (zcl hp).r
  have e1 : Vec.get b.caps n.toNat = p.Rules.Caps.filter fun c => decide (c.Station = n) := by
    rw [hb.cp _ (by omega)]; congr 1; funext c; rw [show ((n.toNat : Nat) : Int) = n by omega]
  have e2 : Vec.get b.into n.toNat = p.Rules.Loads.filter fun c => decide (c.To = n) := by
    rw [hb.inn _ (by omega)]; congr 1; funext c; rw [show ((n.toNat : Nat) : Int) = n by omega]
  have e3 : zdY p l n = ((Vec.get b.caps n.toNat).filter fun c => zaj p c l).length := by
    unfold zdY; rw [e1, List.filter_filter]
    congr 2; funext c; rw [Bool.and_comm]
  (have hlen : (Vec.get b.caps n.toNat).length ≤ 1024 := by rw [e1]; exact Nat.le_trans (List.length_filter_le _ _) hg.nc); unfold zaI; simp only [zaE]; rw [za4 hn]; by_cases h0 : ((Vec.get b.caps n.toNat).length : Int) = 0
  · rw [decide_eq_true h0, cond_true, e3, List.eq_nil_of_length_eq_zero (show (Vec.get b.caps n.toNat).length = 0 by omega)]; rfl
  rw [decide_eq_false h0, cond_false]
  have hL : ∀ y ∈ Vec.get b.into n.toNat, (0 ≤ y.To ∧ y.To < 512) ∧ (0 ≤ y.From ∧ y.From < 512) := fun y hy => by
    rw [e2] at hy; have h := zda (hg.l y (List.mem_filter.1 hy).1); have h1 := zbz h.1; have h2 := zbz h.2; omega
  refine Eq.trans (zcS (fun i s => bif ((decide ((nth (Vec.get b.into n.toNat) i).Low ≤ onL l (nth (Vec.get b.into n.toNat) i).To) && decide (onL l (nth (Vec.get b.into n.toNat) i).To ≤ (nth (Vec.get b.into n.toNat) i).High)) && decide (onL l (nth (Vec.get b.into n.toNat) i).From = onL l (nth (Vec.get b.into n.toNat) i).To)) then wI (s + (nth (Vec.get b.into n.toNat) i).Weight) else s) fun i next s hi => ?_) ?_
  · have h := hL _ (zba (show i < (Vec.get b.into n.toNat).length by omega)); rw [zha hb h.1 h.2, Option.bind_some]
    cases ((decide ((nth (Vec.get b.into n.toNat) i).Low ≤ onL l (nth (Vec.get b.into n.toNat) i).To) && decide (onL l (nth (Vec.get b.into n.toNat) i).To ≤ (nth (Vec.get b.into n.toNat) i).High)) && decide (onL l (nth (Vec.get b.into n.toNat) i).From = onL l (nth (Vec.get b.into n.toNat) i).To)) <;> rfl
  rw [Nat.sub_zero, zcj (l := Vec.get b.into n.toNat) (g := fun s x => bif ((decide (x.Low ≤ onL l x.To) && decide (onL l x.To ≤ x.High)) && decide (onL l x.From = onL l x.To)) then wI (s + x.Weight) else s)]
  have e4 : (Vec.get b.into n.toNat).foldl (fun s x => bif ((decide (x.Low ≤ onL l x.To) && decide (onL l x.To ≤ x.High)) && decide (onL l x.From = onL l x.To)) then wI (s + x.Weight) else s) 0 = p.Rules.Loads.foldl (zf9 l n) 0 := by
    rw [e2, List.foldl_filter]
    congr 1
    funext s x
    unfold zf9; by_cases hx : x.To = n
    · rw [if_pos (by simpa using hx), decide_eq_true hx, hx, Bool.true_and]
      cases decide (x.Low ≤ onL l n) <;> cases decide (onL l n ≤ x.High) <;> cases decide (onL l x.From = onL l n) <;> rfl
    · rw [if_neg (by simpa using hx), decide_eq_false hx]; simp
  rw [e4]; refine Eq.trans (zcS (fun i s => bif zaj p (nth (Vec.get b.caps n.toNat) i) l then wI (s + 1) else s) fun i next s hi => ?_) ?_
  · have hm := zba (show i < (Vec.get b.caps n.toNat).length by omega); have hm2 := hm; rw [e1] at hm2; have hm3 := List.mem_filter.1 hm2; rw [← e1] at hm3; have hS : (nth (Vec.get b.caps n.toNat) i).Station = n := of_decide_eq_true hm3.2; rw [zgd p _ l (zfZ (hg.c _ hm3.1)), hS, hb.get hn]; unfold zan
    cases (decide ((nth (Vec.get b.caps n.toNat) i).Low ≤ onL l n) && decide (onL l n ≤ (nth (Vec.get b.caps n.toNat) i).High) && decide ((nth (Vec.get b.caps n.toNat) i).Max < p.Rules.Loads.foldl (zf9 l n) 0)) <;> rfl
  rw [Nat.sub_zero, zcj (l := Vec.get b.caps n.toNat) (g := fun s x => bif zaj p x l then wI (s + 1) else s), zcQ (fun x => zaj p x l) _ 0 (by omega) (by omega), e3, Int.zero_add]
def zhG (p : GProblem) (l : List GChoice) : Nat := (p.Rules.Pairs.filter fun c => zah c l).length + (p.Rules.Caps.filter fun c => zaj p c l).length
theorem zg7 (hp : okP p = true) : zcB p l = (zhG p l : Int) := by
  have hg := zcA (zcl hp).r; have n1 := hg.np; have n2 := hg.nc; unfold zcB; simp only [zaE, Nat.sub_zero]; refine Eq.trans (zcS (fun i s => bif zah (nth p.Rules.Pairs i) l then wI (s + 1) else s) fun i next s hi => ?_) ?_
  · cases zah (nth p.Rules.Pairs i) l <;> rfl
  rw [zcj (l := p.Rules.Pairs) (g := fun s x => bif zah x l then wI (s + 1) else s), zcQ (fun x => zah x l) _ 0 (by omega) (by omega)]; have h1 := List.length_filter_le (fun x => zah x l) p.Rules.Pairs; refine Eq.trans (zcS (fun i s => bif zaj p (nth p.Rules.Caps i) l then wI (s + 1) else s) fun i next s hi => ?_) ?_
  · cases zaj p (nth p.Rules.Caps i) l <;> rfl
  rw [zcj (l := p.Rules.Caps) (g := fun s x => bif zaj p x l then wI (s + 1) else s), zcQ (fun x => zaj p x l) _ _ (by omega) (by omega)]; unfold zhG; omega
theorem zfb (hn : p.Rules.Caps.length ≤ 1024) : ∀ (D : List GDomain) (a : Int), (D.map (·.Station)).Nodup → 0 ≤ a → a + (D.length : Int) * 1024 ≤ 1000000000 → D.foldl (fun s d => wI (s + (zdY p l d.Station : Int))) a = a + ((p.Rules.Caps.filter fun c => D.any (fun d => decide (d.Station = c.Station)) && zaj p c l).length : Int)
  | [], a, _, _, _ => by
    (have : (p.Rules.Caps.filter fun c => (([] : List GDomain).any fun d => decide (d.Station = c.Station)) && zaj p c l) = [] := by simp); rw [this]; simp
  | d :: D, a, hd, h0, h1 => by
    rw [List.map_cons, List.nodup_cons] at hd; rw [List.foldl_cons]; have hlt : zdY p l d.Station ≤ 1024 := Nat.le_trans (List.length_filter_le _ _) hn; rw [List.length_cons] at h1; rw [zh9 (by omega), zfb hn D _ hd.2 (by omega) (by omega)]
    have e : (fun c : GCap => (d :: D).any (fun d => decide (d.Station = c.Station)) && zaj p c l) = fun c => (decide (c.Station = d.Station) && zaj p c l) || (D.any (fun d => decide (d.Station = c.Station)) && zaj p c l) := by
      funext c
      rw [List.any_cons, Bool.and_or_distrib_right, show decide (d.Station = c.Station) = decide (c.Station = d.Station) from by rw [Bool.eq_iff_iff, decide_eq_true_eq, decide_eq_true_eq]; exact eq_comm]
    rw [e, zfK (fun c => decide (c.Station = d.Station) && zaj p c l) (fun c => D.any (fun d => decide (d.Station = c.Station)) && zaj p c l) (fun c hc => by
      have hS : c.Station = d.Station := of_decide_eq_true (zca hc)
      have : (D.any fun d => decide (d.Station = c.Station)) = false := by
        rw [List.any_eq_false]; intro x hx hq; exact hd.1 (List.mem_map.2 ⟨x, hx, (of_decide_eq_true hq).trans hS⟩)
      rw [this]; rfl)]
    unfold zdY; omega
theorem zfR {l : List Int} (h : l.Pairwise (· < ·)) : l.Nodup := h.imp fun h => by omega
theorem zic (hp : okP p = true) (hl : VL l) (hc : Comp p l) (hb : Board p l b) : zaz b = some (zhG p l : Int) := by
  have hg := zcA (zcl hp).r; have n1 := hg.np; have n2 := hg.nc; have n3 := (zcl hp).len; unfold zaz; simp only [zaE, Nat.sub_zero, hb.pb]; refine Eq.trans (zcS (fun i s => bif zah (nth p.Rules.Pairs i) l then wI (s + 1) else s) fun i next s hi => ?_) ?_
  · rw [ze4 hp hl hc hb (zba hi), Option.bind_some]
    cases zah (nth p.Rules.Pairs i) l <;> rfl
  rw [zcj (l := p.Rules.Pairs) (g := fun s x => bif zah x l then wI (s + 1) else s), zcQ (fun x => zah x l) _ 0 (by omega) (by omega)]; have h1 := List.length_filter_le (fun x => zah x l) p.Rules.Pairs; refine Eq.trans (zcS (fun i s => wI (s + (zdY p l (nth p.Domains i).Station : Int))) fun i next s hi => ?_) ?_
  · have h3 := zd9 (zcl hp).d (zba hi); rw [zhK hp hb ⟨h3.1, h3.2⟩, Option.bind_some]
  rw [zcj (l := p.Domains) (g := fun s d => wI (s + (zdY p l d.Station : Int))), zfb n2 p.Domains _ (zfR (zdl (zcl hp).i)) (by omega) (by omega)]
  have e : (p.Rules.Caps.filter fun c => p.Domains.any (fun d => decide (d.Station = c.Station)) && zaj p c l) = p.Rules.Caps.filter fun c => zaj p c l := by
    refine List.filter_congr fun c hm => ?_; have h := List.all_eq_true.1 (zcG (zcG (zcl hp).l)) c hm; rw [zeI (zcl hp).d] at h; unfold anyD at h; rw [h, Bool.true_and]
  rw [e]; unfold zhG
  congr 1
  omega
end
section
variable {p : GProblem} {l : List GChoice} {b : Gboard}
theorem zfE (h : (okP p && zav l) = false) : za6 p l = some (none, 2) := by
  unfold za6; simp only [zaE, zgZ, Option.bind_some]
  cases hp : okP p
  · rfl
  · rw [hp, Bool.true_and] at h; rw [h]; rfl
theorem zea (hp : okP p = true) (hv : zav l = true) : za6 p l = bif zcm p l then (zbZ p l).bind fun r52 => (bif (r52).isSome then some (some (r52.getD default), 0) else some (none, 0)) else some (none, 10) := by
  unfold za6 zcm; simp only [zaE, zgZ, Option.bind_some, hp, hv, Bool.not_true, Bool.or_false, cond_false, zgv]; by_cases h : (l.length : Int) = (p.Domains.length : Int)
  · rw [decide_eq_true h, decide_eq_false (fun q => q h), cond_false, Bool.true_and]
    exact zby (fun i => !(decide (¬ (nth l i).Station = (nth p.Domains i).Station) || !za8 (nth p.Domains i).Channels (nth l i).Channel)) fun i next _ _ => by
      cases (decide (¬ (nth l i).Station = (nth p.Domains i).Station) || !za8 (nth p.Domains i).Channels (nth l i).Channel) <;> rfl
  · rw [decide_eq_false h, decide_eq_true h]; rfl
theorem zfI (hp : okP p = true) (hv : zav l = true) (hc : zcm p l = false) : za6 p l = some (none, 10) := by
  rw [zea hp hv, hc]; rfl
theorem zf7 (hp : okP p = true) (hv : zav l = true) (hc : zcm p l = true) : ∃ b, za6 p l = some (some b, 0) ∧ Board p l b := by
  obtain ⟨b, h1, h2⟩ := zg3 hp (zik hv); exact ⟨b, by rw [zea hp hv, hc, h1]; rfl, h2⟩
theorem ze0 {α β : Type} (f : α → List β) : ∀ (l : List α) (s : List β), l.foldl (fun s x => s ++ f x) s = s ++ l.flatMap f
  | [], s => by simp
  | x :: l, s => by rw [List.foldl_cons, ze0 f l, List.flatMap_cons, List.append_assoc]
theorem zgj {ρ α : Type} [Inhabited α] {xs : List α} {f : Nat → (List Int → ρ) → List Int → ρ} {K : List Int → ρ} (g : α → List Int) (m N : Nat) (hg : ∀ x ∈ xs, (g x).length ≤ m) (s0 : List Int) (hN : s0.length + m * xs.length ≤ N)
    (hf : ∀ i next s, i < xs.length → s.length + m ≤ N → f i next s = next (s ++ g (nth xs i))) : zag f K xs.length 0 s0 = K (s0 ++ xs.flatMap g) := by
  obtain ⟨h1, _⟩ := zcn (f := f) (k := K) (n := xs.length) (s := s0) (fun i s => s.length ≤ s0.length + m * i) (fun i s => s ++ g (nth xs i)) (by omega)
    (fun i s hi hs => by
      have := hg _ (zba hi)
      rw [List.length_append, Nat.mul_add]; omega)
    (fun i next s hi hs => hf i next s hi (by
      (have : m * i + m ≤ m * xs.length := by rw [← Nat.mul_succ]; exact Nat.mul_le_mul_left m hi)
      omega))
  rw [h1, zcj (l := xs) (g := fun s x => s ++ g x), ze0]
def zeU (l : List GChoice) (y : GLoad) : Bool := (decide (y.Low ≤ onL l y.To) && decide (onL l y.To ≤ y.High)) && decide (onL l y.From = onL l y.To)
def zeA (l : List GChoice) (c : GPair) : List Int := bif zah c l then [c.A, c.B] else []
def zfM (l : List GChoice) (y : GLoad) : List Int := bif zeU l y then [y.From] else []
def domI (p : GProblem) (l : List GChoice) (d : GDomain) : List Int := bif decide ((zdY p l d.Station : Int) = 0) then [] else d.Station :: (p.Rules.Loads.filter fun y => decide (y.To = d.Station)).flatMap (zfM l)
theorem zfD (y : GLoad) : (zfM l y).length ≤ 1 := by unfold zfM; cases zeU l y <;> simp
theorem zhl {α : Type} {g : α → List Int} (h : ∀ x, (g x).length ≤ 1) (xs : List α) : (xs.flatMap g).length ≤ xs.length := by
  induction xs with
  | nil => simp
  | cons x xs ih => rw [List.flatMap_cons, List.length_append, List.length_cons]; have := h x; omega
theorem zhB {s : List Int} {n : Nat} (h : s.length ≤ n) (hn : n ≤ 1000000) : room s.length 8 := by unfold room; omega
theorem zgu (hp : okP p = true) (hl : VL l) (hc : Comp p l) (hb : Board p l b) : zaO b = some (Lib.compact (isort (p.Rules.Pairs.flatMap (zeA l) ++ p.Domains.flatMap (domI p l)))) := by
  have hg := zcA (zcl hp).r; have n1 := hg.np; have n2 := hg.nl; have n3 := (zcl hp).len; unfold zaO; simp only [zaE, Nat.sub_zero, hb.pb]; (have lp : ∀ c ∈ p.Rules.Pairs, (zeA l c).length ≤ 2 := fun c _ => by unfold zeA; cases zah c l <;> simp); refine Eq.trans (zgj (xs := p.Rules.Pairs) (zeA l) 2 10000 lp [] (by simp only [List.length_nil]; omega) fun i next s hi hs => ?_) ?_
  · rw [ze4 hp hl hc hb (zba hi), Option.bind_some]; unfold zeA
    cases zah (nth p.Rules.Pairs i) l
    · rw [cond_false, cond_false, List.append_nil]
    · rw [cond_true, cond_true, za4 (zhB (n := 10000) (by rw [List.length_append]; simp only [List.length_cons, List.length_nil]; omega) (by omega))]
  rw [List.nil_append]
  have ld : ∀ d ∈ p.Domains, (domI p l d).length ≤ 1025 := fun d _ => by
    unfold domI
    cases decide ((zdY p l d.Station : Int) = 0)
    · rw [cond_false, List.length_cons]; have h1 := zhl (g := zfM l) zfD (p.Rules.Loads.filter fun y => decide (y.To = d.Station)); have h2 := List.length_filter_le (fun y => decide (y.To = d.Station)) p.Rules.Loads; omega
    · simp
  have l1 : (p.Rules.Pairs.flatMap (zeA l)).length ≤ 8192 := by
    have : ∀ xs : List GPair, (∀ c ∈ xs, (zeA l c).length ≤ 2) → (xs.flatMap (zeA l)).length ≤ 2 * xs.length := fun xs h => by
      induction xs with
      | nil => simp
      | cons x xs ih =>
        rw [List.flatMap_cons, List.length_append, List.length_cons]; have h1 := h x (List.mem_cons_self ..); have h2 := ih fun c hc => h c (List.mem_cons_of_mem _ hc); omega
    have := this _ lp; omega
  refine Eq.trans (zgj (xs := p.Domains) (domI p l) 1025 600000 ld _ (by omega) fun i next s hi hs => ?_) ?_
  · have h3 := zd9 (zcl hp).d (zba hi); rw [zhK hp hb ⟨h3.1, h3.2⟩, Option.bind_some]; unfold domI
    cases decide ((zdY p l (nth p.Domains i).Station : Int) = 0)
    · rw [cond_false, cond_false, za4 (zhB (n := 600000) (by rw [List.length_append]; simp only [List.length_cons, List.length_nil]; omega) (by omega)), za4 ⟨h3.1, h3.2⟩]
      have e2 : Vec.get b.into (nth p.Domains i).Station.toNat = p.Rules.Loads.filter fun c => decide (c.To = (nth p.Domains i).Station) := by
        rw [hb.inn _ (by omega)]; congr 1; funext c; rw [show (((nth p.Domains i).Station.toNat : Nat) : Int) = (nth p.Domains i).Station by omega]
      have h2 := List.length_filter_le (fun y : GLoad => decide (y.To = (nth p.Domains i).Station)) p.Rules.Loads; rw [e2]; refine Eq.trans (zgj (xs := p.Rules.Loads.filter fun c => decide (c.To = (nth p.Domains i).Station)) (zfM l) 1 600000 (fun y _ => zfD y) _ (by rw [List.length_append]; simp only [List.length_cons, List.length_nil]; omega) fun j next2 s2 hj hs2 => ?_) ?_
      · have hm := (List.mem_filter.1 (zba hj)).1; have h := zda (hg.l _ hm); have h4 := zbz h.1; have h5 := zbz h.2; rw [zha hb (by omega) (by omega), Option.bind_some]; unfold zfM zeU
        cases ((decide ((nth (p.Rules.Loads.filter fun c => decide (c.To = (nth p.Domains i).Station)) j).Low ≤ onL l (nth (p.Rules.Loads.filter fun c => decide (c.To = (nth p.Domains i).Station)) j).To) && decide (onL l (nth (p.Rules.Loads.filter fun c => decide (c.To = (nth p.Domains i).Station)) j).To ≤ (nth (p.Rules.Loads.filter fun c => decide (c.To = (nth p.Domains i).Station)) j).High)) && decide (onL l (nth (p.Rules.Loads.filter fun c => decide (c.To = (nth p.Domains i).Station)) j).From = onL l (nth (p.Rules.Loads.filter fun c => decide (c.To = (nth p.Domains i).Station)) j).To))
        · rw [cond_false, cond_false, List.append_nil]
        · rw [cond_true, cond_true, za4 (zhB (n := 600000) (by rw [List.length_append]; simp only [List.length_cons, List.length_nil]; omega) (by omega))]
      · rw [List.append_assoc]; rfl
    · rw [cond_true, cond_true, List.append_nil]
  have l2 : (p.Domains.flatMap (domI p l)).length ≤ 600000 := by
    have : ∀ xs : List GDomain, (∀ c ∈ xs, (domI p l c).length ≤ 1025) → (xs.flatMap (domI p l)).length ≤ 1025 * xs.length := fun xs h => by
      induction xs with
      | nil => simp
      | cons x xs ih =>
        rw [List.flatMap_cons, List.length_append, List.length_cons]; have h1 := h x (List.mem_cons_self ..); have h2 := ih fun c hc => h c (List.mem_cons_of_mem _ hc); omega
    have := this _ ld; omega
  unfold zgg; rw [za4 (by rw [List.length_append]; omega)]; rfl
def invB (p : GProblem) (l : List GChoice) (n : Int) : Bool := p.Rules.Pairs.any (fun c => ((decide (c.A = n)) || (decide (c.B = n))) && zah c l) || p.Rules.Caps.any (fun c => zaj p c l && (decide (c.Station = n) || p.Rules.Loads.any fun y => (((((decide (y.To = c.Station)) && (decide (y.From = n))) && (decide (onL l n = onL l c.Station))) && (decide (y.Low ≤ onL l c.Station))) && (decide (onL l c.Station ≤ y.High)))))
theorem zht (n : Int) : zbO p l n = invB p l n := by
  unfold zbO invB; simp only [zaE, Nat.sub_zero, on_x]; refine Eq.trans (zd5 (fun i => ((decide ((nth p.Rules.Pairs i).A = n)) || (decide ((nth p.Rules.Pairs i).B = n))) && zah (nth p.Rules.Pairs i) l) fun i next hi => ?_) ?_
  · cases (((decide ((nth p.Rules.Pairs i).A = n)) || (decide ((nth p.Rules.Pairs i).B = n))) && zah (nth p.Rules.Pairs i) l) <;> rfl
  rw [zdx (q := fun c : GPair => ((decide (c.A = n)) || (decide (c.B = n))) && zah c l)]
  congr 1
  refine Eq.trans (zd5 (fun i => zaj p (nth p.Rules.Caps i) l && (decide ((nth p.Rules.Caps i).Station = n) || p.Rules.Loads.any fun y => (((((decide (y.To = (nth p.Rules.Caps i).Station)) && (decide (y.From = n))) && (decide (onL l n = onL l (nth p.Rules.Caps i).Station))) && (decide (y.Low ≤ onL l (nth p.Rules.Caps i).Station))) && (decide (onL l (nth p.Rules.Caps i).Station ≤ y.High))))) fun i next hi => ?_) ?_
  · cases zaj p (nth p.Rules.Caps i) l
    · rfl
    cases decide ((nth p.Rules.Caps i).Station = n)
    · simp only [Bool.not_true, cond_false, Bool.false_or, Bool.true_and]; refine Eq.trans (zd5 (fun k => (((((decide ((nth p.Rules.Loads k).To = (nth p.Rules.Caps i).Station)) && (decide ((nth p.Rules.Loads k).From = n))) && (decide (onL l n = onL l (nth p.Rules.Caps i).Station))) && (decide ((nth p.Rules.Loads k).Low ≤ onL l (nth p.Rules.Caps i).Station))) && (decide (onL l (nth p.Rules.Caps i).Station ≤ (nth p.Rules.Loads k).High)))) fun k next hk => ?_) ?_
      · cases (((((decide ((nth p.Rules.Loads k).To = (nth p.Rules.Caps i).Station)) && (decide ((nth p.Rules.Loads k).From = n))) && (decide (onL l n = onL l (nth p.Rules.Caps i).Station))) && (decide ((nth p.Rules.Loads k).Low ≤ onL l (nth p.Rules.Caps i).Station))) && (decide (onL l (nth p.Rules.Caps i).Station ≤ (nth p.Rules.Loads k).High))) <;> rfl
      · rw [zdx (q := fun y : GLoad => (((((decide (y.To = (nth p.Rules.Caps i).Station)) && (decide (y.From = n))) && (decide (onL l n = onL l (nth p.Rules.Caps i).Station))) && (decide (y.Low ≤ onL l (nth p.Rules.Caps i).Station))) && (decide (onL l (nth p.Rules.Caps i).Station ≤ y.High))))]
    · rfl
  rw [zdx (q := fun c : GCap => zaj p c l && (decide (c.Station = n) || p.Rules.Loads.any fun y => (((((decide (y.To = c.Station)) && (decide (y.From = n))) && (decide (onL l n = onL l c.Station))) && (decide (y.Low ≤ onL l c.Station))) && (decide (onL l c.Station ≤ y.High))))), Bool.or_false]
theorem zfe (hp : okP p = true) : zcd p l = some ((p.Domains.filter fun d => invB p l d.Station).map (·.Station)) := by
  have n3 := (zcl hp).len; unfold zcd; simp only [zaE, Nat.sub_zero, zht]; refine Eq.trans (zgj (xs := p.Domains) (fun d => bif invB p l d.Station then [d.Station] else []) 1 1000 (fun d _ => by cases invB p l d.Station <;> simp) [] (by simp only [List.length_nil]; omega) fun i next s hi hs => ?_) ?_
  · cases invB p l (nth p.Domains i).Station
    · simp only [cond_false, List.append_nil]
    · rw [cond_true, za4 (zhB (n := 1000) (by rw [List.length_append]; simp only [List.length_cons, List.length_nil]; omega) (by omega))]; rfl
  rw [List.nil_append, zf3]
theorem zgf {α : Type} {l : List α} {q : α → Bool} : l.any q = true ↔ ∃ x ∈ l, q x = true := List.any_eq_true
theorem over_pos {n : Int} : zdY p l n ≠ 0 ↔ ∃ c ∈ p.Rules.Caps, c.Station = n ∧ zaj p c l = true := by
  unfold zdY; rw [← Nat.pos_iff_ne_zero, List.length_pos_iff_exists_mem]; simp only [List.mem_filter, Bool.and_eq_true, decide_eq_true_eq]
theorem zgb (hp : okP p = true) : Lib.compact (isort (p.Rules.Pairs.flatMap (zeA l) ++ p.Domains.flatMap (domI p l))) = (p.Domains.filter fun d => invB p l d.Station).map (·.Station) := by
  have hO := zcl hp; obtain ⟨h1, h2⟩ := zeZ (zdG (p.Rules.Pairs.flatMap (zeA l) ++ p.Domains.flatMap (domI p l))); refine zeq h1 ((zdl hO.i).sublist (List.filter_sublist.map _)) fun x => ?_; rw [h2, (zdQ _).mem_iff]
  have hD : ∀ n, hasD p n = true → ∃ d ∈ p.Domains, d.Station = n := fun n hn => by
    rw [zeI hO.d] at hn; obtain ⟨d, hd, rfl⟩ := List.mem_map.1 (anyD_mem.1 hn); exact ⟨d, hd, rfl⟩
  have mP : x ∈ p.Rules.Pairs.flatMap (zeA l) ↔ ∃ c ∈ p.Rules.Pairs, zah c l = true ∧ (c.A = x ∨ c.B = x) := by
    rw [List.mem_flatMap]; refine exists_congr fun c => and_congr_right fun _ => ?_; unfold zeA
    cases zah c l <;> simp [eq_comm]
  have mD : x ∈ p.Domains.flatMap (domI p l) ↔ ∃ d ∈ p.Domains, zdY p l d.Station ≠ 0 ∧ (d.Station = x ∨ ∃ y ∈ p.Rules.Loads, y.To = d.Station ∧ zeU l y = true ∧ y.From = x) := by
    rw [List.mem_flatMap]; refine exists_congr fun d => and_congr_right fun _ => ?_; unfold domI; by_cases h0 : (zdY p l d.Station : Int) = 0
    · rw [decide_eq_true h0, cond_true]; simp only [List.not_mem_nil, false_iff]; exact fun h => h.1 (by omega)
    · rw [decide_eq_false h0, cond_false, List.mem_cons, List.mem_flatMap]; constructor
      · rintro (rfl | ⟨y, hy, hx⟩)
        · exact ⟨by omega, .inl rfl⟩
        · have hy2 := List.mem_filter.1 hy; refine ⟨by omega, .inr ⟨y, hy2.1, of_decide_eq_true hy2.2, ?_⟩⟩; unfold zfM at hx
          cases hm : zeU l y <;> rw [hm] at hx
          · simp at hx
          · exact ⟨rfl, by simpa [eq_comm] using hx⟩
      · rintro ⟨_, rfl | ⟨y, hy, hT, hm, rfl⟩⟩
        · exact .inl rfl
        · exact .inr ⟨y, List.mem_filter.2 ⟨hy, decide_eq_true hT⟩, by unfold zfM; rw [hm]; simp⟩
  rw [List.mem_append, mP, mD, List.mem_map]
  have hI : invB p l x = true ↔ (∃ c ∈ p.Rules.Pairs, zah c l = true ∧ (c.A = x ∨ c.B = x)) ∨ ∃ c ∈ p.Rules.Caps, zaj p c l = true ∧ (c.Station = x ∨ ∃ y ∈ p.Rules.Loads, y.To = c.Station ∧ zeU l y = true ∧ y.From = x) := by
    unfold invB; rw [Bool.or_eq_true, zgf, zgf]; refine or_congr (exists_congr fun c => and_congr_right fun _ => ?_) (exists_congr fun c => and_congr_right fun _ => ?_)
    · simp only [Bool.and_eq_true, Bool.or_eq_true, decide_eq_true_eq]; exact and_comm
    · rw [Bool.and_eq_true, Bool.or_eq_true, zgf, decide_eq_true_eq]; refine and_congr_right fun _ => or_congr_right (exists_congr fun y => and_congr_right fun _ => ?_); unfold zeU; simp only [Bool.and_eq_true, decide_eq_true_eq]; constructor
      · rintro ⟨⟨⟨⟨h3, h4⟩, h5⟩, h6⟩, h7⟩; subst h4; rw [h3]; exact ⟨rfl, ⟨⟨h6, h7⟩, h5⟩, rfl⟩
      · rintro ⟨h3, ⟨⟨h6, h7⟩, h5⟩, h4⟩; subst h4; rw [h3] at h5 h6 h7; exact ⟨⟨⟨⟨h3, rfl⟩, h5⟩, h6⟩, h7⟩
  constructor
  · intro h
    suffices hs : (∃ d ∈ p.Domains, d.Station = x) ∧ invB p l x = true by
      obtain ⟨⟨d, hd, rfl⟩, hv⟩ := hs; exact ⟨d, List.mem_filter.2 ⟨hd, hv⟩, rfl⟩
    rcases h with ⟨c, hc, hb, hx⟩ | ⟨d, hd, ho, hx⟩
    · have hk := List.all_eq_true.1 (zca hO.l) c hc; refine ⟨?_, hI.2 (.inl ⟨c, hc, hb, hx⟩)⟩; rcases hx with rfl | rfl
      · exact hD _ (zca hk)
      · exact hD _ (zcG hk)
    · obtain ⟨c, hc, hS, hb⟩ := over_pos.1 ho; refine ⟨?_, hI.2 (.inr ⟨c, hc, hb, by rw [hS]; exact hx⟩)⟩; rcases hx with rfl | ⟨y, hy, _, _, rfl⟩
      · exact ⟨d, hd, rfl⟩
      · have hk := List.all_eq_true.1 (zca (zcG hO.l)) y hy; exact hD _ (zcG hk)
  · rintro ⟨d, hd, rfl⟩; have hd2 := List.mem_filter.1 hd; rcases hI.1 hd2.2 with ⟨c, hc, hb, hx⟩ | ⟨c, hc, hb, hx⟩
    · exact .inl ⟨c, hc, hb, hx⟩
    · have hk := List.all_eq_true.1 (zcG (zcG hO.l)) c hc; obtain ⟨d', hd', hS⟩ := hD _ hk; exact .inr ⟨d', hd', over_pos.2 ⟨c, hc, hS.symm, hb⟩, by rw [hS]; exact hx⟩
theorem zfP {n : Nat} (h : 100000 ≤ n) (p : GProblem) (l : List GChoice) : zch n p l = some true := by
  unfold zch zc3; obtain ⟨a, ha⟩ := zh1 (p := p) (a := 10) (b := 40) (fuel := n) (by omega); simp only [zaE, ha, Option.bind_some, zgG h, zgD, ← zf4]
  cases (!a || decide (20 < (l.length : Int)))
  · simp only [cond_false]; unfold zcY zbP
    cases hv : (okP p && zav l)
    · rw [zfE hv, show ((!okP p) || !zav l) = true by rw [← Bool.not_and, hv]; rfl]; rfl
    have hp := zca hv; have hl := zcG hv; rw [show ((!okP p) || !zav l) = false by rw [← Bool.not_and, hv]; rfl]; simp only [cond_false]; have hV := zik hl; rw [zfn hp hV]
    cases hc : zcm p l
    · rw [zfI hp hl hc]; rfl
    obtain ⟨b, h1, hb⟩ := zf7 hp hl hc; have hC := comp_iff.1 hc; rw [h1]; simp only [Option.bind_some, Option.isSome_some, cond_true, Option.getD_some, zic hp hV hC hb, zgu hp hV hC hb, zg7 hp, zfe hp, zgb hp, Bool.not_true, cond_false, decide_true, zgB, not_true_eq_false, decide_false]
  · rfl
end
end Go.Proofs.YtnhdlloidbomdaaGreat
namespace Go.Proofs.YtnhdlloidbomdaaGreat
open Go.RowKit Go.ChangeShapes Go.WideShapes Go.Deep
def Opens {H : Type} (enc : TypeId × Value → H) (w : World) (base : Nat) (spare : Nat → Bool) (held : Bool) (t : TypeId) {α : Type} (R : List Value → α → Prop) : Prop :=
  ∀ fuel cs y, DataW.trod enc Tryz.prog w base spare held fuel t cs = some y → ∃ x, R cs x
section
variable {H : Type} {enc : TypeId × Value → H} {w : World} {base : Nat} {spare : Nat → Bool} {held : Bool}
theorem Opens.int {t : TypeId} (ht : Tryz.prog.underlying t = some (.int .i64)) : Opens enc w base spare held t (fun cs (x : Int) => cs = [.int .i64 x]) := fun fuel cs y h => by
  obtain ⟨k, hk, _⟩ := DataW.trod_int ht h; exact ⟨k, hk⟩
theorem zhV {a : Addr} {v : Value} (h : w.cell? a = some v) : Cb w a.block := by
  unfold World.cell? at h
  split at h
  all_goals (first | exact ⟨_, _, _, by assumption⟩ | simp at h | skip)
theorem Opens.any {t e : TypeId} {k : Nat} {α : Type} [Inhabited α] {R : List Value → α → Prop} (ht : Tryz.prog.underlying t = some (.slice e)) (hk : Tryz.prog.cellsOf e = k) (hpos : 0 < k) (ho : Opens enc w base spare held e R) :
    Opens enc w base spare held t (fun cs (l : List α) => ∃ v c, cs = [v] ∧ SlC (Frz.all w) v k c ∧ c.length = l.length ∧ ∀ i, i < l.length → R (nth c i) (nth l i)) := fun fuel cs y h => by
  rcases open_slice ht h with ⟨h0, _⟩ | ⟨a, len, cap, m, n, D, Pl, hcs, hb, hl, hm, hmm, _, hx⟩
  · exact ⟨[], _, [], h0, SlC.nil _ _, rfl, fun i hi => absurd hi (Nat.not_lt_zero i)⟩
  · subst hcs; (have hlm : len ≤ m := by rw [hmm]; split <;> omega)
    have each : ∀ i, i < m → ∃ x : List Value × α, x.1.length = k ∧ R x.1 x.2 ∧ ∀ j, j < k → w.cell? (a.add (i * k + j)) = x.1[j]? := fun i hi => by
      obtain ⟨cs', h1, h2⟩ := hx i hi; rw [hk] at h1; obtain ⟨_, hlen, hcell⟩ := World.cells?_some h1; obtain ⟨x, hR⟩ := ho _ _ _ h2; exact ⟨(cs', x), hlen, hR, fun j hj => by rw [← hcell j hj, add_add]⟩
    obtain ⟨X, hX⟩ := choose_lt each
    have hn : ∀ i, i < len → nth ((List.range len).map fun i => (X i).1) i = (X i).1 := fun i hi => by
      rw [zaW (by simpa using hi)]; simp
    have hn2 : ∀ i, i < len → nth ((List.range len).map fun i => (X i).2) i = (X i).2 := fun i hi => by
      rw [zaW (by simpa using hi)]; simp
    refine ⟨(List.range len).map fun i => (X i).2, _, (List.range len).map fun i => (X i).1, rfl, ⟨some a, cap, by simp, by simpa using hl, by unfold maxLen at hm; omega, fun c hc => ?_, fun hp => ?_⟩, by simp, fun i hi => ?_⟩
    · simp at hc; obtain ⟨i, hi, rfl⟩ := hc; exact (hX i (by omega)).1
    · (have hp' : 0 < len := by simpa using hp); have c0 := (hX 0 (by omega)).2.2 0 hpos; have hx0 := (hX 0 (by omega)).1; rw [List.getElem?_eq_getElem (by omega)] at c0; have hcb := zhV c0; have hs := World.cell?_spot c0; simp [Addr.add] at hs hcb; obtain ⟨b, off, sp⟩ := a; simp at hs hcb; subst hs; refine ⟨b, off, rfl, hcb, fun i hi j hj => ?_⟩; simp at hi; rw [hn i hi] at hj ⊢; have hxi := hX i (by omega); have := hxi.2.2 j (by omega); refine Eq.trans ?_ this
      show w.cell? _ = _
      rw [zdq, Nat.add_assoc]
    · simp at hi; rw [hn i hi, hn2 i hi]; exact (hX i (by omega)).2.1
theorem Opens.slC {t e : TypeId} {k : Nat} {α : Type} [Inhabited α] {en : α → List Value} (ht : Tryz.prog.underlying t = some (.slice e)) (hk : Tryz.prog.cellsOf e = k) (hpos : 0 < k) (ho : Opens enc w base spare held e (fun cs (x : α) => cs = en x)) :
    Opens enc w base spare held t (fun cs (l : List α) => ∃ v, cs = [v] ∧ SlC (Frz.all w) v k (l.map en)) := fun fuel cs y h => by
  obtain ⟨l, v, c, h1, h2, h3, h4⟩ := Opens.any ht hk hpos ho _ _ _ h; refine ⟨l, v, h1, ?_⟩
  have : c = l.map en := by
    apply List.ext_getElem (by simpa using h3); intro i hi hi2; rw [← zaW hi, h4 i (by omega), List.getElem_map, zaW (by omega)]
  rw [← this]; exact h2
theorem Opens.bytes {t e : TypeId} (ht : Tryz.prog.underlying t = some (.slice e)) (he : Tryz.prog.underlying e = some (.int .u8)) (hk : Tryz.prog.cellsOf e = 1) :
    Opens enc w base spare held t (fun cs (l : List Int) => ∃ v, cs = [v] ∧ SlC (Frz.all w) v 1 (l.map (eK .u8)) ∧ ∀ x ∈ l, 0 ≤ x ∧ x ≤ 255) := fun fuel cs y h => by
  have ho : Opens enc w base spare held e (fun cs (x : Int) => cs = eK .u8 x ∧ (0 ≤ x ∧ x ≤ 255)) := fun fuel cs y h => by
    obtain ⟨k, h1, _, h2⟩ := DataW.trod_int he h; refine ⟨k, h1, ?_⟩; (have e1 : IntKind.u8.min = 0 := by decide); (have e2 : IntKind.u8.max = 255 := by decide); simp only [Lit.wf, e1, e2, Bool.and_eq_true, decide_eq_true_eq] at h2; exact h2
  obtain ⟨l, v, c, h1, h2, h3, h4⟩ := Opens.any ht hk (by decide) ho _ _ _ h; refine ⟨l, v, h1, ?_, fun x hx => ?_⟩
  · have : c = l.map (eK .u8) := by
      apply List.ext_getElem (by simpa using h3); intro i hi hi2; rw [← zaW hi, (h4 i (by omega)).1, List.getElem_map, zaW (by omega)]
    rw [← this]; exact h2
  · obtain ⟨i, hi, e⟩ := List.mem_iff_getElem.1 hx; have := (h4 i hi).2; rw [zaW hi, e] at this; exact this
theorem Opens.slD {t e : TypeId} {k : Nat} {α : Type} [Inhabited α] {rep : Frz → List Value → α → Prop} (ht : Tryz.prog.underlying t = some (.slice e)) (hk : Tryz.prog.cellsOf e = k) (hpos : 0 < k) (ho : Opens enc w base spare held e (rep (Frz.all w))) :
    Opens enc w base spare held t (fun cs (l : List α) => ∃ v c, cs = [v] ∧ SlD rep (Frz.all w) v k c l) := fun fuel cs y h => by
  obtain ⟨l, v, c, h1, h2, h3, h4⟩ := Opens.any ht hk hpos ho _ _ _ h; exact ⟨l, v, c, h1, h2, h3, h4⟩
end
end Go.Proofs.YtnhdlloidbomdaaGreat
