/- Yl Y1 Pw Cv Lc Ga Gg Ba Lq Na: shortened and put together by squeeze.py. -/
import Derived.Test.YtgoeeefoinkepaaGreatDoorQ12
set_option maxRecDepth 100000
set_option maxHeartbeats 4000000
set_option linter.unusedVariables false
set_option linter.unusedSectionVars false
set_option linter.unusedSimpArgs false
namespace Go.Proofs.YtgoeeefoinkepaaGreatDoor
open Go.RowKit
def kO (a:Int)(b:Int):GPair:=
 (GPair.mk a b 0 14 51)
theorem zdT (F0:Frz)(w:World)(hF0:F0.At w)(a:Int)(b:Int):Calls Tryz.prog 44 #[.int .i64 a, .int .i64 b] w fun e w'=>e= .returned (.agg [.int .i64 ((kO a b).A), .int .i64 ((kO a b).B), .int .i64 ((kO a b).Offset), .int .i64 ((kO a b).Low), .int .i64 ((kO a b).High)].toArray)∧Below w.heap.size w w':=by
 obtain ⟨r,hk⟩:∃r,kO a b=r:=⟨_,rfl⟩;rw [hk];unfold kO at hk;obtain ⟨S0,F1,rfl,hS0,hp0⟩:=fX hF0;refine dB Tryz.func44 rfl rfl rfl hp0 ?_;refine dd ?_;refine iJ ?_;rintro _ _ ⟨g4,rfl,rfl⟩;refine dq ?_;refine ec ?_;refine jm ?_;refine jX ?_;refine gM ?_;subst hk;exact q36
def gA  : GProblem :=
 (GProblem.mk [(GDomain.mk 1 [14,15]),(GDomain.mk 2 [14,15]),(GDomain.mk 3 [14,15])] (GRules.mk [(kO 1 2),(kO 1 3),(kO 2 3)] [] []))
theorem zcG (F0 : Frz)(w : World)(hF0 : F0.At w)  : Calls Tryz.prog 23 #[] w fun e w' => ∃ (y : Value × List (List Value) × Value × Value × Value) (G : Frz), (SlD cJ G y.1 2 y.2.1 ((gA).Domains) ∧ SlC G y.2.2.1 5 (((gA).Rules.Pairs).map da) ∧ SlC G y.2.2.2.1 5 (((gA).Rules.Loads).map de) ∧ SlC G y.2.2.2.2 4 (((gA).Rules.Caps).map dk)) ∧ e = .returned (.agg [y.1, y.2.2.1, y.2.2.2.1, y.2.2.2.2].toArray) ∧ Fx F0 w G w' := by
 obtain ⟨r,hk⟩:∃r,gA=r:=⟨_,rfl⟩;rw [hk];unfold gA at hk;obtain ⟨S0,F1,rfl,hS0,hp0⟩:=fX hF0;refine dB Tryz.func23 rfl rfl rfl hp0 ?_;refine dd ?_;refine iJ ?_;rintro _ _ ⟨g0,rfl,rfl⟩;refine dq ?_;refine q08 ?_;rintro _ _ ⟨g1,rfl,rfl⟩;refine q3U ?_;rintro F2 ⟨le1_2,hz2⟩;refine iI ?_;have hf2:SlC F2.toFrz (.slice (some ⟨g1,0,none⟩) 2 2) 1 ([14,15].map eI):=(SlK.lit hz2 rfl (Nat.le_refl _) a7).toF (xs:=[14,15]) rfl (fun _=>rfl);refine q3Q ?_;rintro _ _ ⟨g3,rfl,rfl⟩;refine q3U ?_;rintro F3 ⟨le2_3,hz3⟩;refine iI ?_;have le1_3:=le1_2.trans le2_3;have hf3:SlC F3.toFrz (.slice (some ⟨g3,0,none⟩) 2 2) 1 ([14,15].map eI):=(SlK.lit hz3 rfl (Nat.le_refl _) a7).toF (xs:=[14,15]) rfl (fun _=>rfl);refine q3Q ?_;rintro _ _ ⟨g5,rfl,rfl⟩;refine q3U ?_;rintro F4 ⟨le3_4,hz4⟩;refine iI ?_;have le1_4:=le1_3.trans le3_4;have le2_4:=le2_3.trans le3_4;have hf4:SlC F4.toFrz (.slice (some ⟨g5,0,none⟩) 2 2) 1 ([14,15].map eI):=(SlK.lit hz4 rfl (Nat.le_refl _) a7).toF (xs:=[14,15]) rfl (fun _=>rfl);refine q3Q ?_;rintro _ _ ⟨g7,rfl,rfl⟩;have hl7:OwnD cJ F4.toFrz 2 [[.int .i64 1,(.slice (some ⟨g1,0,none⟩) 2 2)],[.int .i64 2,(.slice (some ⟨g3,0,none⟩) 2 2)],[.int .i64 3,(.slice (some ⟨g5,0,none⟩) 2 2)]] [(GDomain.mk 1 [14,15]),(GDomain.mk 2 [14,15]),(GDomain.mk 3 [14,15])]:=(dl (dl (dl (OwnD.nil _ _ 2) ⟨_,rfl,(SlC.mono hf2 le2_4)⟩) ⟨_,rfl,(SlC.mono hf3 le3_4)⟩) ⟨_,rfl,hf4⟩);refine df (cL rfl rfl rfl (fun w hw=>zdT _ w (hw.fr (i:=2) rfl) 1 2)) ?_;refine eB ?_;refine df (cL rfl rfl rfl (fun w hw=>zdT _ w (hw.fr (i:=2) rfl) 1 3)) ?_;refine eB ?_;refine df (cL rfl rfl rfl (fun w hw=>zdT _ w (hw.fr (i:=2) rfl) 2 3)) ?_;refine eB ?_;refine q08 ?_;rintro _ _ ⟨g11,rfl,rfl⟩;refine jm ?_;refine jm ?_;refine fM (dG 2) ?_;refine eB ?_;refine gM ?_;refine K.aQ (fun w hw=>hw.freezeR (i:=3) (j:=1) a7 rfl rfl) ?_;rintro F5 ⟨le4_5,hz5⟩;refine iI ?_;have le1_5:=le1_4.trans le4_5;have hf5:SlD cJ F5.toFrz (.slice (some ⟨g7,0,none⟩) 3 3) 2 [[.int .i64 1,(.slice (some ⟨g1,0,none⟩) 2 2)],[.int .i64 2,(.slice (some ⟨g3,0,none⟩) 2 2)],[.int .i64 3,(.slice (some ⟨g5,0,none⟩) 2 2)]] [(GDomain.mk 1 [14,15]),(GDomain.mk 2 [14,15]),(GDomain.mk 3 [14,15])]:=(SlK.lit hz5 rfl (Nat.le_refl _) a7).toD (OwnD.mono (rep:=cJ) (fun _ _ _ _=>GDomain.mono) hl7 le4_5) rfl;refine q20 ?_;rintro F6 ⟨le5_6,hz6⟩;refine iI ?_;have le1_6:=le1_5.trans le5_6;have hf6:SlC F6.toFrz (.slice (some ⟨g11,0,none⟩) 3 3) 5 ([(kO 1 2),(kO 1 3),(kO 2 3)].map da):=(SlK.lit hz6 rfl (Nat.le_refl _) a7).toF (xs:=[(kO 1 2),(kO 1 3),(kO 2 3)]) rfl GPair.len;subst hk;exact mG 0 rfl rfl rfl rfl (fun w' hw=>⟨((.slice (some ⟨g7,0,none⟩) 3 3),[[.int .i64 1,(.slice (some ⟨g1,0,none⟩) 2 2)],[.int .i64 2,(.slice (some ⟨g3,0,none⟩) 2 2)],[.int .i64 3,(.slice (some ⟨g5,0,none⟩) 2 2)]],(.slice (some ⟨g11,0,none⟩) 3 3),(.slice none 0 0),(.slice none 0 0)),F6.toFrz,⟨(SlD.mono (rep:=cJ) (fun _ _ _ _=>GDomain.mono) hf5 le5_6),hf6,(SlC.nil _ 5),(SlC.nil _ 4)⟩,rfl,jp hw (i:=1) rfl hS0 le1_6⟩)
def zbU (fuel:Nat)(p:GProblem)(hints:List GChoice)(budget:Int)(want:GResult):Option Bool:=
 (zbT fuel p hints budget).bind fun r15=>
 some ((decide (r15.2=0))&&(zcK r15.1 want))
theorem zbD (F0:Frz)(w:World)(hF0:F0.At w)(p:GProblem)(vp_0:Value)(cp_0:List (List Value))(hp_0:SlD cJ F0 vp_0 2 cp_0 p.Domains)(vp_1:Value)(hp_1:SlC F0 vp_1 5 (p.Rules.Pairs.map da))(vp_2:Value)(hp_2:SlC F0 vp_2 5 (p.Rules.Loads.map de))(vp_3:Value)(hp_3:SlC F0 vp_3 4 (p.Rules.Caps.map dk))(hints:List GChoice)(vhints:Value)(hhints:SlC F0 vhints 2 (hints.map cG))(budget:Int)(want:GResult)(vwant_1:Value)(hwant_1:SlC F0 vwant_1 2 (want.Assignment.map cG))(vwant_2:Value)(cwant_2:List (List Value))(hwant_2:SlD cI F0 vwant_2 1 cwant_2 want.Learned)(htab:Tab w)(fuel:Nat)(hfu:100000≤fuel)(r:Bool)(hr:zbU fuel p hints budget want=some r):Calls Tryz.prog 24 #[.agg [vp_0,vp_1,vp_2,vp_3].toArray,vhints, .int .i64 budget, .agg [.int .i64 want.Kind,vwant_1,vwant_2, .int .i64 want.Steps].toArray] w fun e w'=>e= .returned (.bool r)∧Below w.heap.size w w':=by
 have hk:=hr;unfold zbU at hk;haveI:=hp_0.1.oneC;haveI:=hp_1.oneC;haveI:=hp_2.oneC;haveI:=hp_3.oneC;haveI:=hhints.oneC;haveI:=hwant_1.oneC;haveI:=hwant_2.1.oneC;obtain ⟨S0,F1,rfl,hS0,hp0⟩:=fX hF0;have hM0:¬(fun _:Nat=>False) 0:=fun h=>h;have htk:∀ {hs:HS} {w':World},Hp w (fun _=>False) hs w'→Tab w':=fun hw=>htab.keptF hw;refine dB Tryz.func24 rfl rfl rfl hp0 ?_;refine jI ?_;rintro _ _ ⟨g4,rfl,rfl⟩;refine df (dv) ?_;rintro _ _ ⟨g7,rfl,rfl⟩;refine j6 ?_;have hq:=fD hk;clear hk;obtain ⟨r15,hr15,hk⟩:=hq; (try dsimp only at hk);refine fN ?_;refine q2F ?_;refine ec ?_;refine df (fw 2 rfl rfl rfl rfl (fun w hw hF=>zev _ w hF p vp_0 cp_0 hp_0 vp_1 hp_1 vp_2 hp_2 vp_3 hp_3 hints vhints hhints budget (htab.keptF hw) fuel hfu r15 hr15)) ?_;rintro _ _ ⟨⟨v15_0_1,v15_0_2,cs15_0_2⟩,F2,le1_2,⟨hf15_0_1,hf15_0_2⟩,rfl,rfl⟩;dsimp only at hf15_0_1 hf15_0_2 ⊢;haveI:=hf15_0_1.oneC;haveI:=hf15_0_2.1.oneC;refine fb ?_;refine iJ ?_;rintro _ _ ⟨g9,rfl,rfl⟩;refine jX ?_;refine j6 ?_;refine dg (ι:=Unit) (fun z=>[(8, .bool ((decide (r15.2=0))&&(zcK r15.1 want)))]) (fun z=>[.row g9 46 [.int .i64 r15.1.Kind,v15_0_1,v15_0_2, .int .i64 r15.1.Steps], .row g7 46 [.int .i64 want.Kind,vwant_1,vwant_2, .int .i64 want.Steps], .row g4 31 [vp_0,vp_1,vp_2,vp_3], .fr F2]) (fun z=>True) ?_ ?_
 ·refine q3L ?_;refine du rfl rfl rfl (fun h1=>?_) (fun h1=>?_)
  ·have p1:=of_decide_eq_true h1;refine jd ?_;refine q2F ?_;refine df (cL rfl rfl rfl (fun w hw=>ziy _ w (hw.fr (i:=3) rfl) r15.1 v15_0_1 hf15_0_1 v15_0_2 cs15_0_2 hf15_0_2 want vwant_1 (SlC.mono hwant_1 le1_2) vwant_2 cwant_2 (SlD.mono (rep:=cI) (fun _ _ _ _=>R_List_GChoice.mono) hwant_2 le1_2))) ?_;refine eB ?_;refine lH ?_;exact q4j
  ·have p1:=of_decide_eq_false h1;refine q3k ?_;exact q37
 ·rintro _ _;refine T.ret ?_;obtain rfl:=Option.some.inj hk;exact eX
def zbw (fuel : Nat)  : Option Bool :=
 (za0 [(GDomain.mk 1 [14,15,16]),(GDomain.mk 2 [14]),(GDomain.mk 3 [14,15]),(GDomain.mk 4 [15,16])] [(GChoice.mk 3 15)]).bind fun r18=>
 (bif (((decide (¬r18.2=0))||(decide (¬r18.1.Station=3)))||(decide (¬r18.1.Channel=15))) then
  some false
  else
  ex (0≤2∧2≤(((gA).Rules.Pairs).length:Int)) <|
  (zbU fuel (gA) [] 0 (GResult.mk 0 [] [] 0)).bind fun r50=>
  dO (fun (x_4:Bool)=>
   some x_4)
  (fun k5=>
   (bif r50 then
    ex (0≤1∧1≤([(GChoice.mk 1 14),(GChoice.mk 2 15),(GChoice.mk 3 15)].length:Int)) <|
    (zbU fuel (gA) [] 1 (GResult.mk 2 [] [([(GChoice.mk 1 14),(GChoice.mk 2 15),(GChoice.mk 3 15)].take 1),[]] 1)).bind fun r57=>
    (bif r57 then
     (zbU fuel (GProblem.mk ((gA).Domains) (GRules.mk (((gA).Rules.Pairs).take 2) ((gA).Rules.Loads) ((gA).Rules.Caps))) [] 1 (GResult.mk 1 [(GChoice.mk 1 14),(GChoice.mk 2 15),(GChoice.mk 3 15)] [] 1)).bind fun r63=>
     (bif r63 then
      ex (0≤1∧1≤([(GChoice.mk 1 15),(GChoice.mk 2 14),(GChoice.mk 3 14)].length:Int)) <|
      (zbU fuel (GProblem.mk ((gA).Domains) (GRules.mk (((gA).Rules.Pairs).take 2) ((gA).Rules.Loads) ((gA).Rules.Caps))) ([(GChoice.mk 1 15),(GChoice.mk 2 14),(GChoice.mk 3 14)].take 1) 1 (GResult.mk 1 [(GChoice.mk 1 15),(GChoice.mk 2 14),(GChoice.mk 3 14)] [] 1)).bind fun r71=>
      k5 r71
      else
      k5 false)
     else
     k5 false)
    else
    k5 false)))
theorem zdH (F0 : Frz)(w : World)(hF0 : F0.At w)  (htab : Tab w)(fuel : Nat)(hfu : 100000 ≤ fuel)(r : Bool)(hr : zbw fuel = some r) : Calls Tryz.prog 9 #[] w fun e w' => e = .returned (.bool r) ∧ Below w.heap.size w w' := by
 have hk:=hr;unfold zbw at hk;obtain ⟨S0,F1,rfl,hS0,hp0⟩:=fX hF0;have hM0:¬(fun _:Nat=>False) 0:=fun h=>h;have htk:∀ {hs:HS} {w':World},Hp w (fun _=>False) hs w'→Tab w':=fun hw=>htab.keptF hw;refine dB Tryz.func9 rfl rfl rfl hp0 ?_;refine fk ?_;have hq:=fD hk;clear hk;obtain ⟨r18,hr18,hk⟩:=hq; (try dsimp only at hk);refine fN ?_;refine q08 ?_;rintro _ _ ⟨g7,rfl,rfl⟩;refine q1Z ?_;rintro F2 ⟨le1_2,hz2⟩;refine iI ?_;have hf2:SlC F2.toFrz (.slice (some ⟨g7,0,none⟩) 3 3) 1 ([14,15,16].map eI):=(SlK.lit hz2 rfl (Nat.le_refl _) a7).toF (xs:=[14,15,16]) rfl (fun _=>rfl);refine q3Q ?_;rintro _ _ ⟨g9,rfl,rfl⟩;refine q1Z ?_;rintro F3 ⟨le2_3,hz3⟩;refine iI ?_;have hf3:SlC F3.toFrz (.slice (some ⟨g9,0,none⟩) 1 1) 1 ([14].map eI):=(SlK.lit hz3 rfl (Nat.le_refl _) a7).toF (xs:=[14]) rfl (fun _=>rfl);refine q3Q ?_;rintro _ _ ⟨g11,rfl,rfl⟩;refine q1Z ?_;rintro F4 ⟨le3_4,hz4⟩;refine iI ?_;have le2_4:=le2_3.trans le3_4;have hf4:SlC F4.toFrz (.slice (some ⟨g11,0,none⟩) 2 2) 1 ([14,15].map eI):=(SlK.lit hz4 rfl (Nat.le_refl _) a7).toF (xs:=[14,15]) rfl (fun _=>rfl);refine q3Q ?_;rintro _ _ ⟨g13,rfl,rfl⟩;refine q1Z ?_;rintro F5 ⟨le4_5,hz5⟩;refine iI ?_;have le2_5:=le2_4.trans le4_5;have le3_5:=le3_4.trans le4_5;have hf5:SlC F5.toFrz (.slice (some ⟨g13,0,none⟩) 2 2) 1 ([15,16].map eI):=(SlK.lit hz5 rfl (Nat.le_refl _) a7).toF (xs:=[15,16]) rfl (fun _=>rfl);refine q3Q ?_;rintro _ _ ⟨g15,rfl,rfl⟩;have hl15:OwnD cJ F5.toFrz 2 [[.int .i64 1,(.slice (some ⟨g7,0,none⟩) 3 3)],[.int .i64 2,(.slice (some ⟨g9,0,none⟩) 1 1)],[.int .i64 3,(.slice (some ⟨g11,0,none⟩) 2 2)],[.int .i64 4,(.slice (some ⟨g13,0,none⟩) 2 2)]] [(GDomain.mk 1 [14,15,16]),(GDomain.mk 2 [14]),(GDomain.mk 3 [14,15]),(GDomain.mk 4 [15,16])]:=(dl (dl (dl (dl (OwnD.nil _ _ 2) ⟨_,rfl,(SlC.mono hf2 le2_5)⟩) ⟨_,rfl,(SlC.mono hf3 le3_5)⟩) ⟨_,rfl,(SlC.mono hf4 le4_5)⟩) ⟨_,rfl,hf5⟩);refine q1Z ?_;rintro F6 ⟨le5_6,hz6⟩;refine iI ?_;have hf6:SlD cJ F6.toFrz (.slice (some ⟨g15,0,none⟩) 4 4) 2 [[.int .i64 1,(.slice (some ⟨g7,0,none⟩) 3 3)],[.int .i64 2,(.slice (some ⟨g9,0,none⟩) 1 1)],[.int .i64 3,(.slice (some ⟨g11,0,none⟩) 2 2)],[.int .i64 4,(.slice (some ⟨g13,0,none⟩) 2 2)]] [(GDomain.mk 1 [14,15,16]),(GDomain.mk 2 [14]),(GDomain.mk 3 [14,15]),(GDomain.mk 4 [15,16])]:=(SlK.lit hz6 rfl (Nat.le_refl _) a7).toD (OwnD.mono (rep:=cJ) (fun _ _ _ _=>GDomain.mono) hl15 le5_6) rfl;refine q3Q ?_;rintro _ _ ⟨g17,rfl,rfl⟩;refine q1Z ?_;rintro F7 ⟨le6_7,hz7⟩;refine iI ?_;have hf7:SlC F7.toFrz (.slice (some ⟨g17,0,none⟩) 1 1) 2 ([(GChoice.mk 3 15)].map cG):=(SlK.lit hz7 rfl (Nat.le_refl _) a7).toF (xs:=[(GChoice.mk 3 15)]) rfl GChoice.len;refine df (cL rfl rfl rfl (fun w hw=>zc5 _ w (hw.fr (i:=0) rfl) [(GDomain.mk 1 [14,15,16]),(GDomain.mk 2 [14]),(GDomain.mk 3 [14,15]),(GDomain.mk 4 [15,16])] (.slice (some ⟨g15,0,none⟩) 4 4) [[.int .i64 1,(.slice (some ⟨g7,0,none⟩) 3 3)],[.int .i64 2,(.slice (some ⟨g9,0,none⟩) 1 1)],[.int .i64 3,(.slice (some ⟨g11,0,none⟩) 2 2)],[.int .i64 4,(.slice (some ⟨g13,0,none⟩) 2 2)]] (SlD.mono (rep:=cJ) (fun _ _ _ _=>GDomain.mono) hf6 le6_7) [(GChoice.mk 3 15)] (.slice (some ⟨g17,0,none⟩) 1 1) hf7 r18 hr18)) ?_;refine eB ?_;refine fb ?_;refine iJ ?_;rintro _ _ ⟨g1,rfl,rfl⟩;refine jX ?_;refine q2q ?_;refine dg (ι:=Unit) (fun z=>[(32, .bool (((decide (¬r18.2=0))||(decide (¬r18.1.Station=3)))||(decide (¬r18.1.Channel=15))))]) (fun z=>[.row g1 34 [.int .i64 r18.1.Station, .int .i64 r18.1.Channel], .fr F7]) (fun z=>True) ?_ ?_
 ·refine q3L ?_;refine du rfl rfl rfl (fun h1=>?_) (fun h1=>?_)
  ·have p1:=of_decide_eq_true h1;refine TL.run 9 rfl ?_;refine fO ?_;exact cP () trivial (.b (iz (iz h1)).symm .nil) (List.Sublist.refl _)
  ·have p1:=of_decide_eq_false h1;refine em ?_;refine fb ?_;refine du rfl rfl rfl (fun h2=>?_) (fun h2=>?_)
   ·have p2:=of_decide_eq_true h2;refine mv ?_;exact cP () trivial (.b (iz (i2 h1 h2)).symm .nil) (List.Sublist.refl _)
   ·have p2:=of_decide_eq_false h2;refine em ?_;refine lH ?_;exact cP () trivial (.b (iA (i2 h1 h2)) .nil) (List.Sublist.refl _)
 ·rintro _ _;refine T.cond rfl (fun h3=>?_) (fun h3=>?_)
  ·replace hk:=dH hk h3;refine ja ?_;obtain rfl:=Option.some.inj hk;exact eX
  ·have p3:=h3; (try simp only [cT] at p3);replace hk:=dL hk h3;refine i1 ?_;refine df (fw 1 rfl rfl rfl rfl (fun w hw hF=>zcG _ w hF )) ?_;rintro _ _ ⟨⟨v33_0_0,cs33_0_0,v33_0_1,v33_0_2,v33_0_3⟩,F8,le7_8,⟨hf33_0_0,hf33_0_1,hf33_0_2,hf33_0_3⟩,rfl,rfl⟩;dsimp only at hf33_0_0 hf33_0_1 hf33_0_2 hf33_0_3 ⊢;haveI:=hf33_0_0.1.oneC;haveI:=hf33_0_1.oneC;haveI:=hf33_0_2.oneC;haveI:=hf33_0_3.oneC;refine iJ ?_;rintro _ _ ⟨g3,rfl,rfl⟩;refine q2H ?_;have hq:(0≤2∧2≤(((gA).Rules.Pairs).length:Int))∧_:=gZ hk;clear hk;obtain ⟨g37h,hk⟩:=hq; (try dsimp only at hk);refine fN ?_;refine ft ?_;refine em ?_;refine cK (lC (i:=2) rfl rfl rfl hf33_0_1 (List.length_map _) (show (2:Int)=((2:Nat):Int) from rfl) a6) ?_;have hs37_:SlC F8.toFrz (jC v33_0_1 0 2 5) 5 ((((gA).Rules.Pairs).take 2).map da):=hf33_0_1.sliceh (i:=2) a6;haveI:=hs37_.oneC;refine ft ?_;refine ft ?_;refine fM (ei 0 rfl rfl rfl rfl b2) ?_;refine eB ?_;refine dq ?_;refine jm ?_;refine jm ?_;refine q3Q ?_;rintro _ _ ⟨g43,rfl,rfl⟩;refine gN ?_;refine jm ?_;refine jm ?_;refine q3Q ?_;rintro _ _ ⟨g47,rfl,rfl⟩;refine j6 ?_;refine li (fun w hw=>hw.freezeR (i:=4) (j:=1) a7 rfl rfl) ?_;rintro F9 ⟨le8_9,hz9⟩;refine iI ?_;have hf9:SlC F9.toFrz (.slice (some ⟨g43,0,none⟩) 3 3) 2 ([(GChoice.mk 1 14),(GChoice.mk 2 15),(GChoice.mk 3 15)].map cG):=(SlK.lit hz9 rfl (Nat.le_refl _) a7).toF (xs:=[(GChoice.mk 1 14),(GChoice.mk 2 15),(GChoice.mk 3 15)]) rfl GChoice.len;refine li (fun w hw=>hw.freezeR (i:=3) (j:=0) a7 rfl rfl) ?_;rintro F10 ⟨le9_10,hz10⟩;refine iI ?_;have le8_10:=le8_9.trans le9_10;have hf10:SlC F10.toFrz (.slice (some ⟨g47,0,none⟩) 3 3) 2 ([(GChoice.mk 1 15),(GChoice.mk 2 14),(GChoice.mk 3 14)].map cG):=(SlK.lit hz10 rfl (Nat.le_refl _) a7).toF (xs:=[(GChoice.mk 1 15),(GChoice.mk 2 14),(GChoice.mk 3 14)]) rfl GChoice.len;have hq:=fD hk;clear hk;obtain ⟨r50,hr50,hk⟩:=hq; (try dsimp only at hk);have hq:=fq hk;clear hk;obtain ⟨k5,hk5,hk⟩:=hq; (try dsimp only at hk);refine dg (ι:=Bool×FzB w (fun _=>False) S0) (fun z=>[(0, .bool z.1)]) (fun z=>[.fr z.2]) (fun z=>k5 z.1=some r∧F10.toFrz.Le z.2.toFrz) ?_ ?_
   ·refine dF (.still 1 (.eff 0 (.eff 2 (.still 3 (.still 5 (.still 6 (.two 4 7 (.eff 7 (.still 8 (.eff 9 (sN 10 5 (.eff 15 (sN 16 7 (.eff 23 (.still 24 (.still 25 .done))))))))) (.still 8 (.eff 4 (.eff 9 (sN 10 5 (.eff 15 (sN 16 7 (.eff 23 (.still 24 (.still 25 .done)))))))))))))))) _ a8 (List.Sublist.refl _) ?_;refine q1X ?_;refine cQ rfl (Wt.none) rfl rfl (fw 2 rfl rfl rfl rfl (fun w hw hF=>zcG _ w hF )) ?_;rintro _ _ ⟨⟨v48_0_0,cs48_0_0,v48_0_1,v48_0_2,v48_0_3⟩,F12,le10_12,⟨hf48_0_0,hf48_0_1,hf48_0_2,hf48_0_3⟩,rfl,rfl⟩;dsimp only at hf48_0_0 hf48_0_1 hf48_0_2 hf48_0_3 ⊢;have le8_12:=le8_10.trans le10_12;have le9_12:=le9_10.trans le10_12;haveI:=hf48_0_0.1.oneC;haveI:=hf48_0_1.oneC;haveI:=hf48_0_2.oneC;haveI:=hf48_0_3.oneC;refine ⟨(fun w hw=>(hw.frLe (i:=2) rfl le10_12).sub Sx),?_⟩;refine dx ?_;refine cQ rfl (Wt.none) rfl rfl (cL rfl rfl rfl (fun w hw=>zbD _ w (hw.fr (i:=2) rfl) (gA) v48_0_0 cs48_0_0 hf48_0_0 v48_0_1 hf48_0_1 v48_0_2 hf48_0_2 v48_0_3 hf48_0_3 [] (.slice none 0 0) (SlC.nil _ 2) 0 (GResult.mk 0 [] [] 0) (.slice none 0 0) (SlC.nil _ 2) (.slice none 0 0) [] (SlD.nil _ _ 1) (htab.keptF hw) fuel hfu r50 hr50)) ?_;refine eB ?_;refine ⟨(fun w hw=>(hw.frLe (i:=2) rfl le10_12).sub Sx),?_⟩;refine eR ?_;refine dz rfl rfl rfl rfl (fun h6=>?_) (fun h6=>?_)
    ·replace hk:=dH hk h6;refine eR ?_;have hq:(0≤1∧1≤([(GChoice.mk 1 14),(GChoice.mk 2 15),(GChoice.mk 3 15)].length:Int))∧_:=gZ hk;clear hk;obtain ⟨g54h,hk⟩:=hq;refine cN rfl (lC (i:=1) rfl rfl rfl (SlC.mono hf9 le9_12) (List.length_map _) (show (1:Int)=((1:Nat):Int) from rfl) a6) ?_;have hs54_:SlC F9.toFrz (jC (.slice (some ⟨g43,0,none⟩) 3 3) 0 1 2) 2 (([(GChoice.mk 1 14),(GChoice.mk 2 15),(GChoice.mk 3 15)].take 1).map cG):=hf9.sliceh (i:=1) a6;haveI:=hs54_.oneC;refine TS.two ?_ ?_
     ·refine cQ rfl (Wt.some) rfl rfl (fw 2 rfl rfl rfl rfl (fun w hw hF=>zcG _ w hF )) ?_;rintro _ _ ⟨⟨v52_0_0,cs52_0_0,v52_0_1,v52_0_2,v52_0_3⟩,F13,le12_13,⟨hf52_0_0,hf52_0_1,hf52_0_2,hf52_0_3⟩,rfl,rfl⟩;dsimp only at hf52_0_0 hf52_0_1 hf52_0_2 hf52_0_3 ⊢;have le8_13:=le8_12.trans le12_13;have le9_13:=le9_12.trans le12_13;have le10_13:=le10_12.trans le12_13;haveI:=hf52_0_0.1.oneC;haveI:=hf52_0_1.oneC;haveI:=hf52_0_2.oneC;haveI:=hf52_0_3.oneC;refine ⟨(fun w hw=>(hw.frLe (i:=2) rfl le10_13).sub Sx),?_⟩;refine dx ?_;refine cQ rfl (Wt.some) rfl rfl (Ew.buildSlice rfl rfl rfl a7) ?_;rintro _ _ ⟨g55,rfl,rfl⟩;have hl55:OwnD cI F13.toFrz 1 [[(jC (.slice (some ⟨g43,0,none⟩) 3 3) 0 1 2)],[(.slice none 0 0)]] [([(GChoice.mk 1 14),(GChoice.mk 2 15),(GChoice.mk 3 15)].take 1),[]]:=(dl (dl (OwnD.nil _ _ 1) ⟨_,rfl,(SlC.mono hs54_ le9_13)⟩) ⟨_,rfl,(SlC.nil _ 2)⟩);refine ⟨(fun w hw=>(hw.frLe (i:=3) rfl le10_13).sub Sx),?_⟩;refine i5 (fun w hw=>hw.freezeR (i:=3) (j:=0) a7 rfl rfl) ?_;rintro F14 ⟨le13_14,hz14⟩;refine iI ?_;have le8_14:=le8_13.trans le13_14;have le9_14:=le9_13.trans le13_14;have le10_14:=le10_13.trans le13_14;have hf14:SlD cI F14.toFrz (.slice (some ⟨g55,0,none⟩) 2 2) 1 [[(jC (.slice (some ⟨g43,0,none⟩) 3 3) 0 1 2)],[(.slice none 0 0)]] [([(GChoice.mk 1 14),(GChoice.mk 2 15),(GChoice.mk 3 15)].take 1),[]]:=(SlK.lit hz14 rfl (Nat.le_refl _) a7).toD (OwnD.mono (rep:=cI) (fun _ _ _ _=>R_List_GChoice.mono) hl55 le13_14) rfl;refine q1X ?_;have hq:=fD hk;clear hk;obtain ⟨r57,hr57,hk⟩:=hq;refine cQ rfl (Wt.some) rfl rfl (cL rfl rfl rfl (fun w hw=>zbD _ w (hw.fr (i:=2) rfl) (gA) v52_0_0 cs52_0_0 (SlD.mono (rep:=cJ) (fun _ _ _ _=>GDomain.mono) hf52_0_0 le13_14) v52_0_1 (SlC.mono hf52_0_1 le13_14) v52_0_2 (SlC.mono hf52_0_2 le13_14) v52_0_3 (SlC.mono hf52_0_3 le13_14) [] (.slice none 0 0) (SlC.nil _ 2) 1 (GResult.mk 2 [] [([(GChoice.mk 1 14),(GChoice.mk 2 15),(GChoice.mk 3 15)].take 1),[]] 1) (.slice none 0 0) (SlC.nil _ 2) (.slice (some ⟨g55,0,none⟩) 2 2) [[(jC (.slice (some ⟨g43,0,none⟩) 3 3) 0 1 2)],[(.slice none 0 0)]] hf14 (htab.keptF hw) fuel hfu r57 hr57)) ?_;refine q3J ?_;refine gE ?_;refine dz rfl rfl rfl rfl (fun h7=>?_) (fun h7=>?_)
      ·replace hk:=dH hk h7;refine jM ?_;refine eR ?_;refine q1X ?_;have hq:=fD hk;clear hk;obtain ⟨r63,hr63,hk⟩:=hq;refine cQ rfl (Wt.some) rfl rfl (cL rfl rfl rfl (fun w hw=>zbD _ w (hw.fr (i:=2) rfl) (GProblem.mk ((gA).Domains) (GRules.mk (((gA).Rules.Pairs).take 2) ((gA).Rules.Loads) ((gA).Rules.Caps))) v33_0_0 cs33_0_0 (SlD.mono (rep:=cJ) (fun _ _ _ _=>GDomain.mono) hf33_0_0 le8_14) (jC v33_0_1 0 2 5) (SlC.mono hs37_ le8_14) v33_0_2 (SlC.mono hf33_0_2 le8_14) v33_0_3 (SlC.mono hf33_0_3 le8_14) [] (.slice none 0 0) (SlC.nil _ 2) 1 (GResult.mk 1 [(GChoice.mk 1 14),(GChoice.mk 2 15),(GChoice.mk 3 15)] [] 1) (.slice (some ⟨g43,0,none⟩) 3 3) (SlC.mono hf9 le9_14) (.slice none 0 0) [] (SlD.nil _ _ 1) (htab.keptF hw) fuel hfu r63 hr63)) ?_;refine q3J ?_;refine gE ?_;refine dz rfl rfl rfl rfl (fun h8=>?_) (fun h8=>?_)
       ·replace hk:=dH hk h8;refine jM ?_;refine eR ?_;have hq:(0≤1∧1≤([(GChoice.mk 1 15),(GChoice.mk 2 14),(GChoice.mk 3 14)].length:Int))∧_:=gZ hk;clear hk;obtain ⟨g68h,hk⟩:=hq;refine cN rfl (lC (i:=1) rfl rfl rfl (SlC.mono hf10 le10_14) (List.length_map _) (show (1:Int)=((1:Nat):Int) from rfl) a6) ?_;have hs68_:SlC F10.toFrz (jC (.slice (some ⟨g47,0,none⟩) 3 3) 0 1 2) 2 (([(GChoice.mk 1 15),(GChoice.mk 2 14),(GChoice.mk 3 14)].take 1).map cG):=hf10.sliceh (i:=1) a6;haveI:=hs68_.oneC;refine eR ?_;refine q1X ?_;have hq:=fD hk;clear hk;obtain ⟨r71,hr71,hk⟩:=hq;refine cQ rfl (Wt.some) rfl rfl (cL rfl rfl rfl (fun w hw=>zbD _ w (hw.fr (i:=2) rfl) (GProblem.mk ((gA).Domains) (GRules.mk (((gA).Rules.Pairs).take 2) ((gA).Rules.Loads) ((gA).Rules.Caps))) v33_0_0 cs33_0_0 (SlD.mono (rep:=cJ) (fun _ _ _ _=>GDomain.mono) hf33_0_0 le8_14) (jC v33_0_1 0 2 5) (SlC.mono hs37_ le8_14) v33_0_2 (SlC.mono hf33_0_2 le8_14) v33_0_3 (SlC.mono hf33_0_3 le8_14) ([(GChoice.mk 1 15),(GChoice.mk 2 14),(GChoice.mk 3 14)].take 1) (jC (.slice (some ⟨g47,0,none⟩) 3 3) 0 1 2) (SlC.mono hs68_ le10_14) 1 (GResult.mk 1 [(GChoice.mk 1 15),(GChoice.mk 2 14),(GChoice.mk 3 14)] [] 1) (.slice (some ⟨g47,0,none⟩) 3 3) (SlC.mono hf10 le10_14) (.slice none 0 0) [] (SlD.nil _ _ 1) (htab.keptF hw) fuel hfu r71 hr71)) ?_;refine q3J ?_;refine q1I ?_;exact cP (r71,F14) ⟨hk,le10_14⟩ (.c .nil) (List.Sublist.refl _)
       ·replace hk:=dL hk h8;refine TS.run 5 rfl ?_;refine iZ ?_;refine q1I ?_;exact cP (false,F14) ⟨hk,le10_14⟩ (.c .nil) (List.Sublist.refl _)
      ·replace hk:=dL hk h7;refine fU ?_;refine iZ ?_;refine q2U ?_;refine q1I ?_;exact cP (false,F14) ⟨hk,le10_14⟩ (.c .nil) (List.Sublist.refl _)
     ·refine cQ rfl (Wt.some) rfl rfl (Ew.buildSlice rfl rfl rfl a7) ?_;rintro _ _ ⟨g55,rfl,rfl⟩;have hl55:OwnD cI F12.toFrz 1 [[(jC (.slice (some ⟨g43,0,none⟩) 3 3) 0 1 2)],[(.slice none 0 0)]] [([(GChoice.mk 1 14),(GChoice.mk 2 15),(GChoice.mk 3 15)].take 1),[]]:=(dl (dl (OwnD.nil _ _ 1) ⟨_,rfl,(SlC.mono hs54_ le9_12)⟩) ⟨_,rfl,(SlC.nil _ 2)⟩);refine ⟨(fun w hw=>(hw.frLe (i:=3) rfl le10_12).sub Sx),?_⟩;refine i5 (fun w hw=>hw.freezeR (i:=3) (j:=0) a7 rfl rfl) ?_;rintro F15 ⟨le12_15,hz15⟩;refine iI ?_;have le8_15:=le8_12.trans le12_15;have le9_15:=le9_12.trans le12_15;have le10_15:=le10_12.trans le12_15;have hf15:SlD cI F15.toFrz (.slice (some ⟨g55,0,none⟩) 2 2) 1 [[(jC (.slice (some ⟨g43,0,none⟩) 3 3) 0 1 2)],[(.slice none 0 0)]] [([(GChoice.mk 1 14),(GChoice.mk 2 15),(GChoice.mk 3 15)].take 1),[]]:=(SlK.lit hz15 rfl (Nat.le_refl _) a7).toD (OwnD.mono (rep:=cI) (fun _ _ _ _=>R_List_GChoice.mono) hl55 le12_15) rfl;refine q1X ?_;refine cQ rfl (Wt.some) rfl rfl (fw 2 rfl rfl rfl rfl (fun w hw hF=>zcG _ w hF )) ?_;rintro _ _ ⟨⟨v52_0_0,cs52_0_0,v52_0_1,v52_0_2,v52_0_3⟩,F16,le15_16,⟨hf52_0_0,hf52_0_1,hf52_0_2,hf52_0_3⟩,rfl,rfl⟩;dsimp only at hf52_0_0 hf52_0_1 hf52_0_2 hf52_0_3 ⊢;have le8_16:=le8_15.trans le15_16;have le9_16:=le9_15.trans le15_16;have le10_16:=le10_15.trans le15_16;haveI:=hf52_0_0.1.oneC;haveI:=hf52_0_1.oneC;haveI:=hf52_0_2.oneC;haveI:=hf52_0_3.oneC;refine q3p ?_;refine dx ?_;have hq:=fD hk;clear hk;obtain ⟨r57,hr57,hk⟩:=hq;refine cQ rfl (Wt.some) rfl rfl (cL rfl rfl rfl (fun w hw=>zbD _ w (hw.fr (i:=2) rfl) (gA) v52_0_0 cs52_0_0 hf52_0_0 v52_0_1 hf52_0_1 v52_0_2 hf52_0_2 v52_0_3 hf52_0_3 [] (.slice none 0 0) (SlC.nil _ 2) 1 (GResult.mk 2 [] [([(GChoice.mk 1 14),(GChoice.mk 2 15),(GChoice.mk 3 15)].take 1),[]] 1) (.slice none 0 0) (SlC.nil _ 2) (.slice (some ⟨g55,0,none⟩) 2 2) [[(jC (.slice (some ⟨g43,0,none⟩) 3 3) 0 1 2)],[(.slice none 0 0)]] (SlD.mono (rep:=cI) (fun _ _ _ _=>R_List_GChoice.mono) hf15 le15_16) (htab.keptF hw) fuel hfu r57 hr57)) ?_;refine eB ?_;refine q3p ?_;refine gE ?_;refine dz rfl rfl rfl rfl (fun h9=>?_) (fun h9=>?_)
      ·replace hk:=dH hk h9;refine jM ?_;refine eR ?_;refine q1X ?_;have hq:=fD hk;clear hk;obtain ⟨r63,hr63,hk⟩:=hq;refine cQ rfl (Wt.some) rfl rfl (cL rfl rfl rfl (fun w hw=>zbD _ w (hw.fr (i:=2) rfl) (GProblem.mk ((gA).Domains) (GRules.mk (((gA).Rules.Pairs).take 2) ((gA).Rules.Loads) ((gA).Rules.Caps))) v33_0_0 cs33_0_0 (SlD.mono (rep:=cJ) (fun _ _ _ _=>GDomain.mono) hf33_0_0 le8_16) (jC v33_0_1 0 2 5) (SlC.mono hs37_ le8_16) v33_0_2 (SlC.mono hf33_0_2 le8_16) v33_0_3 (SlC.mono hf33_0_3 le8_16) [] (.slice none 0 0) (SlC.nil _ 2) 1 (GResult.mk 1 [(GChoice.mk 1 14),(GChoice.mk 2 15),(GChoice.mk 3 15)] [] 1) (.slice (some ⟨g43,0,none⟩) 3 3) (SlC.mono hf9 le9_16) (.slice none 0 0) [] (SlD.nil _ _ 1) (htab.keptF hw) fuel hfu r63 hr63)) ?_;refine eB ?_;refine q3p ?_;refine gE ?_;refine dz rfl rfl rfl rfl (fun h10=>?_) (fun h10=>?_)
       ·replace hk:=dH hk h10;refine jM ?_;refine eR ?_;have hq:(0≤1∧1≤([(GChoice.mk 1 15),(GChoice.mk 2 14),(GChoice.mk 3 14)].length:Int))∧_:=gZ hk;clear hk;obtain ⟨g68h,hk⟩:=hq;refine cN rfl (lC (i:=1) rfl rfl rfl (SlC.mono hf10 le10_16) (List.length_map _) (show (1:Int)=((1:Nat):Int) from rfl) a6) ?_;have hs68_:SlC F10.toFrz (jC (.slice (some ⟨g47,0,none⟩) 3 3) 0 1 2) 2 (([(GChoice.mk 1 15),(GChoice.mk 2 14),(GChoice.mk 3 14)].take 1).map cG):=hf10.sliceh (i:=1) a6;haveI:=hs68_.oneC;refine eR ?_;refine q1X ?_;have hq:=fD hk;clear hk;obtain ⟨r71,hr71,hk⟩:=hq;refine cQ rfl (Wt.some) rfl rfl (cL rfl rfl rfl (fun w hw=>zbD _ w (hw.fr (i:=2) rfl) (GProblem.mk ((gA).Domains) (GRules.mk (((gA).Rules.Pairs).take 2) ((gA).Rules.Loads) ((gA).Rules.Caps))) v33_0_0 cs33_0_0 (SlD.mono (rep:=cJ) (fun _ _ _ _=>GDomain.mono) hf33_0_0 le8_16) (jC v33_0_1 0 2 5) (SlC.mono hs37_ le8_16) v33_0_2 (SlC.mono hf33_0_2 le8_16) v33_0_3 (SlC.mono hf33_0_3 le8_16) ([(GChoice.mk 1 15),(GChoice.mk 2 14),(GChoice.mk 3 14)].take 1) (jC (.slice (some ⟨g47,0,none⟩) 3 3) 0 1 2) (SlC.mono hs68_ le10_16) 1 (GResult.mk 1 [(GChoice.mk 1 15),(GChoice.mk 2 14),(GChoice.mk 3 14)] [] 1) (.slice (some ⟨g47,0,none⟩) 3 3) (SlC.mono hf10 le10_16) (.slice none 0 0) [] (SlD.nil _ _ 1) (htab.keptF hw) fuel hfu r71 hr71)) ?_;refine eB ?_;refine q3p ?_;refine q1I ?_;exact cP (r71,F16) ⟨hk,le10_16⟩ (.c .nil) (List.Sublist.refl _)
       ·replace hk:=dL hk h10;refine TS.run 5 rfl ?_;refine iZ ?_;refine q1I ?_;exact cP (false,F16) ⟨hk,le10_16⟩ (.c .nil) (List.Sublist.refl _)
      ·replace hk:=dL hk h9;refine fU ?_;refine iZ ?_;refine q2U ?_;refine q1I ?_;exact cP (false,F16) ⟨hk,le10_16⟩ (.c .nil) (List.Sublist.refl _)
    ·replace hk:=dL hk h6;refine gE ?_;refine TS.two ?_ ?_
     ·refine TSo.off rfl (Wt.not rfl rfl rfl rfl) rfl rfl ?_;refine iZ ?_;refine eR ?_;refine iZ ?_;refine TS.run 5 rfl ?_;refine iZ ?_;refine q2U ?_;refine q1I ?_;exact cP (false,F12) ⟨hk,le10_12⟩ (.c .nil) (List.Sublist.refl _)
     ·refine TSo.off rfl (Wt.not rfl rfl rfl rfl) rfl rfl ?_;refine eR ?_;refine iZ ?_;refine iZ ?_;refine TS.run 5 rfl ?_;refine iZ ?_;refine q2U ?_;refine q1I ?_;exact cP (false,F12) ⟨hk,le10_12⟩ (.c .nil) (List.Sublist.refl _)
   ·rintro ⟨x_4,F11⟩ ⟨hk,le10_11⟩; (try dsimp only at *);rw [←hk5] at hk; (try dsimp only at hk);refine T.ret ?_;obtain rfl:=Option.some.inj hk;exact eX
def kx:List Int→List Int→Bool
 |a :: x,b :: y=>if a=b then kx x y else decide (a<b)
 |_,_=>false
theorem zj8 {x y:List Int}{k:Nat}(h:k<x.length)(h2:k<y.length):kx (x.drop k) (y.drop k)=if cH x k=cH y k then kx (x.drop (k+1)) (y.drop (k+1)) else decide (cH x k<cH y k):=by
 rw [List.drop_eq_getElem_cons h,List.drop_eq_getElem_cons h2,d4 h,d4 h2];rfl
def zhD (ds:List Dx)(s:Int):Int:=match ds.findIdx? (fun d=>decide (d.st=s)) with|some i=>(i:Int)|none=> -1
theorem gy {n a b:Int}:inB n a b=true↔a≤n∧n≤b:=by simp [inB]
def zhe (xs:List Pr)(k:Nat):Bool:=decide ((inB (cH xs k).a 0 511=true∧inB (cH xs k).b 0 511=true∧(cH xs k).a<(cH xs k).b∧ -1≤(cH xs k).off∧(cH xs k).off≤1∧eY (cH xs k).lo (cH xs k).hi=true)∧(0<k→kx [(cH xs (k - 1)).a,(cH xs (k - 1)).b,(cH xs (k - 1)).off,(cH xs (k - 1)).lo,(cH xs (k - 1)).hi] [(cH xs k).a,(cH xs k).b,(cH xs k).off,(cH xs k).lo,(cH xs k).hi]=true))
def zhb (xs:List Ld)(k:Nat):Bool:=decide ((inB (cH xs k).to 0 511=true∧inB (cH xs k).fr 0 511=true∧¬(cH xs k).to=(cH xs k).fr∧1≤(cH xs k).wt∧(cH xs k).wt≤1073741824∧eY (cH xs k).lo (cH xs k).hi=true)∧(0<k→kx [(cH xs (k - 1)).to,(cH xs (k - 1)).fr,(cH xs (k - 1)).wt,(cH xs (k - 1)).lo,(cH xs (k - 1)).hi] [(cH xs k).to,(cH xs k).fr,(cH xs k).wt,(cH xs k).lo,(cH xs k).hi]=true))
def zhr (xs:List Cp)(k:Nat):Bool:=decide ((inB (cH xs k).st 0 511=true∧0≤(cH xs k).mx∧(cH xs k).mx≤1099511627776∧eY (cH xs k).lo (cH xs k).hi=true)∧(0<k→kx [(cH xs (k - 1)).st,(cH xs (k - 1)).mx,(cH xs (k - 1)).lo,(cH xs (k - 1)).hi] [(cH xs k).st,(cH xs k).mx,(cH xs k).lo,(cH xs k).hi]=true))
def zg2 (P:Pb):Bool:=decide (P.ps.length≤4096∧P.ls.length≤1024∧P.cs.length≤1024)&&((List.range P.ps.length).all (zhe P.ps)&&((List.range P.ls.length).all (zhb P.ls)&&(List.range P.cs.length).all (zhr P.cs)))
def ziz (cs:List Int)(j:Nat):Bool:=decide (2≤cH cs j∧cH cs j≤51∧(0<j→cH cs (j - 1)<cH cs j))
def zkw (ds:List Dx)(k:Nat):Bool:=decide ((inB (cH ds k).st 0 511=true∧(0<k→(cH ds (k - 1)).st<(cH ds k).st)∧(cH ds k).chs.length≤50)∧(List.range (cH ds k).chs.length).all (ziz (cH ds k).chs)=true)
def zkk (P:Pb)(k:Nat):Bool:=decide (0≤zhD P.ds (cH P.ps k).a∧0≤zhD P.ds (cH P.ps k).b)
def zks (P:Pb)(k:Nat):Bool:=decide (0≤zhD P.ds (cH P.ls k).to∧0≤zhD P.ds (cH P.ls k).fr)
def zkg (P:Pb)(k:Nat):Bool:=decide (0≤zhD P.ds (cH P.cs k).st)
def zlM (P:Pb):Bool:=decide (P.ds.length≤512)&&(zg2 P&&((List.range P.ds.length).all (zkw P.ds)&&((List.range P.ps.length).all (zkk P)&&((List.range P.ls.length).all (zks P)&&(List.range P.cs.length).all (zkg P)))))
theorem zfW {α:Type}[Inhabited α]{c:α→α→Int}{xs:List α}:fg c xs=true↔∀k,0<k→k<xs.length→c (cH xs (k - 1)) (cH xs k)<0:=by
 unfold fg;rw [List.all_eq_true];constructor
 ·intro h k h0 hk;have:=h k (List.mem_range.2 hk);simp only [Bool.or_eq_true,decide_eq_true_eq,Bool.not_eq_true',decide_eq_false_iff_not] at this;omega
 ·intro h k hk;simp only [Bool.or_eq_true,decide_eq_true_eq,Bool.not_eq_true',decide_eq_false_iff_not];by_cases h0:k=0
  ·exact .inl h0
  ·have:=h k a6 (List.mem_range.1 hk);exact .inr a6
theorem iO {f:Nat→Bool}{n:Nat}:(List.range n).all f=true↔∀k,k<n→f k=true:=by
 rw [List.all_eq_true];exact ⟨fun h k hk=>h k (List.mem_range.2 hk),fun h k hk=>h k (List.mem_range.1 hk)⟩
theorem ze9 {a b:Int}:dC a b<0↔a<b:=by unfold dC;split <;> (try split) <;> omega
theorem jZ {a b:Int}:dC a b=0↔a=b:=by unfold dC;split <;> (try split) <;> omega
theorem zhm:∀(xs ys:List Int),xs.length=ys.length→(kx xs ys=true↔kg (List.zipWith dC xs ys)<0)
 | [],[],_=>by simp [kx,kg]
 |a :: x,b :: y,h=>by
  have ih:=zhm x y (by simpa using h);unfold kx;rw [List.zipWith_cons_cons];unfold kg;by_cases e:a=b
  ·rw [if_pos e,if_pos (jZ.2 e)];exact ih
  ·rw [if_neg e,if_neg (fun hh=>e (jZ.1 hh)),ze9,decide_eq_true_eq]
 | [],_ :: _,h=>by simp at h
 |_ :: _,[],h=>by simp at h
theorem zk3 {xs:List Pr}{k:Nat}:zhe xs k=true↔(cH xs k).ok=true∧(0<k→Pr.cmp (cH xs (k - 1)) (cH xs k)<0):=by
 have e:=zhm [(cH xs (k - 1)).a,(cH xs (k - 1)).b,(cH xs (k - 1)).off,(cH xs (k - 1)).lo,(cH xs (k - 1)).hi] [(cH xs k).a,(cH xs k).b,(cH xs k).off,(cH xs k).lo,(cH xs k).hi] rfl;simp only [zhe,decide_eq_true_eq,e,Pr.ok,Bool.and_eq_true,gy,Pr.cmp,List.zipWith,and_assoc]
theorem zl8 {xs:List Ld}{k:Nat}:zhb xs k=true↔(cH xs k).ok=true∧(0<k→Ld.cmp (cH xs (k - 1)) (cH xs k)<0):=by
 have e:=zhm [(cH xs (k - 1)).to,(cH xs (k - 1)).fr,(cH xs (k - 1)).wt,(cH xs (k - 1)).lo,(cH xs (k - 1)).hi] [(cH xs k).to,(cH xs k).fr,(cH xs k).wt,(cH xs k).lo,(cH xs k).hi] rfl;simp only [zhb,decide_eq_true_eq,e,Ld.ok,Bool.and_eq_true,gy,Ld.cmp,List.zipWith,and_assoc]
theorem zly {xs:List Cp}{k:Nat}:zhr xs k=true↔(cH xs k).ok=true∧(0<k→Cp.cmp (cH xs (k - 1)) (cH xs k)<0):=by
 have e:=zhm [(cH xs (k - 1)).st,(cH xs (k - 1)).mx,(cH xs (k - 1)).lo,(cH xs (k - 1)).hi] [(cH xs k).st,(cH xs k).mx,(cH xs k).lo,(cH xs k).hi] rfl;simp only [zhr,decide_eq_true_eq,e,Cp.ok,Bool.and_eq_true,gy,Cp.cmp,List.zipWith,and_assoc]
theorem zfQ {α:Type}[Inhabited α]{r:List α→Nat→Bool}{q:α→Bool}{c:α→α→Int}{xs:List α}(h:∀k,r xs k=true↔q (cH xs k)=true∧(0<k→c (cH xs (k - 1)) (cH xs k)<0)):(List.range xs.length).all (r xs)=true↔fm q xs=true∧fg c xs=true:=by
 rw [iO,zem,zfW];exact ⟨fun hh=>⟨fun k hk=>((h k).1 (hh k hk)).1,fun k h0 hk=>((h k).1 (hh k hk)).2 h0⟩,fun hh k hk=>(h k).2 ⟨hh.1 k hk,fun h0=>hh.2 k h0 hk⟩⟩
theorem zlS (P:Pb):zg2 P=P.rulesOk:=by
 rw [Bool.eq_iff_iff];simp only [zg2,Pb.rulesOk,Bool.and_eq_true,decide_eq_true_eq,zfQ (r:=zhe) (q:=Pr.ok) (c:=Pr.cmp) (xs:=P.ps) (fun k=>zk3),zfQ (r:=zhb) (q:=Ld.ok) (c:=Ld.cmp) (xs:=P.ls) (fun k=>zl8),zfQ (r:=zhr) (q:=Cp.ok) (c:=Cp.cmp) (xs:=P.cs) (fun k=>zly)];constructor
 ·rintro ⟨⟨h1,h2,h3⟩,⟨h4,h5⟩,⟨h6,h7⟩,h8,h9⟩;exact ⟨by omega,h4,h5,by omega,h6,h7,by omega,h8,h9⟩
 ·rintro ⟨h1,h4,h5,h2,h6,h7,h3,h8,h9⟩;exact ⟨⟨by omega,by omega,by omega⟩,⟨h4,h5⟩,⟨h6,h7⟩,h8,h9⟩
theorem zjL {f:Nat→Int}{lo hi:Int}{n:Nat}(h0:∀k,k<n→lo≤f k∧f k≤hi)(h:∀k,0<k→k<n→f (k - 1)<f k):(n:Int)≤hi - lo+1∨n=0:=by
 have key:∀k,k<n→lo+(k:Int)≤f k:=by
  intro k
  induction k with
  |zero=>intro hk;have:=h0 0 hk;omega
  |succ k ih=>intro hk;have:=ih a6;have:=h (k+1) a6 hk;rw [Nat.add_sub_cancel] at this;omega
 rcases Nat.eq_zero_or_pos n with h1|h1
 ·exact .inr h1
 ·have:=key (n - 1) a6;have:=h0 (n - 1) a6;exact .inl a6
theorem zhQ {ds:List Dx}{s:Int}:0≤zhD ds s↔∃i,i<ds.length∧(cH ds i).st=s:=by
 unfold zhD
 cases hf:ds.findIdx? (fun d=>decide (d.st=s)) with
 |none=>
  refine ⟨fun h=>by simp at h,fun ⟨i,hi,h⟩=>?_⟩;rw [List.findIdx?_eq_none_iff] at hf;have:=hf (cH ds i) (iR hi);simp [h] at this
 |some i=>
  refine ⟨fun _=>?_,fun _=>by simp⟩;obtain ⟨hi,h1,_⟩:=List.findIdx?_eq_some_iff_getElem.1 hf;exact ⟨i,hi,by rw [d4 hi];simpa using h1⟩
theorem zdg {P:Pb}(hst:∀d∈P.ds,0≤d.st∧d.st≤511){s:Int}:P.has s=true↔0≤zhD P.ds s:=by
 unfold Pb.has;rw [zhO (P.ds.map fun d:Dx=>d.st) (fun y hy=>by obtain ⟨d,hd,rfl⟩:=List.mem_map.1 hy;exact hst d hd),zhQ,List.mem_map];constructor
 ·rintro ⟨d,hd,rfl⟩;obtain ⟨i,hi,rfl⟩:=List.mem_iff_getElem.1 hd;exact ⟨i,hi,by rw [d4 hi]⟩
 ·rintro ⟨i,hi,rfl⟩;exact ⟨_,iR hi,rfl⟩
theorem jV {cs:List Int}:(List.range cs.length).all (ziz cs)=true↔fm (fun c=>inB c 2 51) cs=true∧fg dC cs=true:=by
 refine zfQ (r:=ziz) (q:=fun c=>inB c 2 51) (c:=dC) fun k=>?_;simp only [ziz,decide_eq_true_eq,gy,ze9,and_assoc]
theorem zmh (P:Pb):zlM P=P.ok:=by
 rw [Bool.eq_iff_iff];simp only [zlM,Pb.ok,Bool.and_eq_true,decide_eq_true_eq,zlS,iO,zem,zfW,ze9,zkw,zkk,zks,zkg,Dx.ok]
 have stOf:(∀k,k<P.ds.length→inB (cH P.ds k).st 0 511=true)→∀d∈P.ds,0≤d.st∧d.st≤511:=fun h d hd=>by
  obtain ⟨i,hi,rfl⟩:=List.mem_iff_getElem.1 hd;have:=gy.1 (h i hi)
  rwa [d4 hi] at this
 constructor
 ·rintro ⟨h1,h2,h3,h4,h5,h6⟩;have hst:=stOf fun k hk=>(h3 k hk).1.1;refine ⟨fun k hk=>⟨(h3 k hk).1.1,?_⟩,h2,fun k h0 hk=>(h3 k hk).1.2.1 h0,fun k hk=>⟨(zdg hst).2 (h4 k hk).1,(zdg hst).2 (h4 k hk).2⟩,fun k hk=>⟨(zdg hst).2 (h5 k hk).1,(zdg hst).2 (h5 k hk).2⟩,fun k hk=>(zdg hst).2 (h6 k hk)⟩;have:=jV.1 (iO.2 (h3 k hk).2);simp only [zem,zfW,ze9] at this;exact this
 ·rintro ⟨h1,h2,h3,h4,h5,h6⟩;have hst:=stOf fun k hk=>(h1 k hk).1;refine ⟨?_,h2,fun k hk=>⟨⟨(h1 k hk).1,fun h0=>h3 k h0 hk,?_⟩,?_⟩,fun k hk=>⟨(zdg hst).1 (h4 k hk).1,(zdg hst).1 (h4 k hk).2⟩,fun k hk=>⟨(zdg hst).1 (h5 k hk).1,(zdg hst).1 (h5 k hk).2⟩,fun k hk=>(zdg hst).1 (h6 k hk)⟩
  ·have:=zjL (f:=fun k=>(cH P.ds k).st) (lo:=0) (hi:=511) (n:=P.ds.length) (fun k hk=>gy.1 (h1 k hk).1) h3;omega
  ·have:=zjL (f:=cH (cH P.ds k).chs) (lo:=2) (hi:=51) (n:=(cH P.ds k).chs.length) (fun j hj=>gy.1 ((h1 k hk).2.1 j hj)) (h1 k hk).2.2;omega
  ·exact iO.1 (jV.2 (by simp only [zem,zfW,ze9];exact (h1 k hk).2))
theorem zcj {ρ:Type}{f:Nat→(Unit→ρ)→Unit→ρ}{k:Unit→ρ}{n:Nat}{z:ρ}(q:Nat→Bool)(hf:∀i next,i<n→f i next ()=bif q i then next () else z):dh f k n 0 ()=bif (List.range n).all q then k () else z:=by
 have key:∀m i,i+m=n→dh f k m i ()=bif (List.range' i m).all q then k () else z:=by
  intro m
  induction m with
  |zero=>intro i _;rfl
  |succ m ih=>
   intro i e
   show f i (dh f k m (i+1)) ()=_
   rw [hf i _ a6,ih (i+1) a6,List.range'_succ,List.all_cons]
   cases q i <;> rfl
 rw [key n 0 a6,List.range_eq_range']
theorem zdW {n:Int}:ki n=inB n 0 511:=rfl
theorem zlo {a b:Int}:mP a b=eY a b:=by
 unfold mP eY;by_cases h1:2≤a <;> by_cases h2:a≤b <;> by_cases h3:b≤51 <;> simp [h1,h2,h3]
theorem zk2 {a b:List Int}(h:a.length=b.length):zbi a b=some (kx a b):=by
 unfold zbi;refine kj ?_
 have key:∀m i,i+m=a.length→dh (fun (i:Nat) (next:Unit→Option Bool) (_:Unit)=>ex (0≤(i:Int)∧(i:Int)<(b.length:Int)) (bif decide (¬cH a i=cH b i) then some (decide (cH a i<cH b i)) else next ())) (fun _=>some false) m i ()=some (kx (a.drop i) (b.drop i)):=by
  intro m
  induction m with
  |zero=>intro i e;rw [List.drop_eq_nil_of_le (show a.length≤i by omega)];rfl
  |succ m ih=>
   intro i e;have h2:=ih (i+1) a6
   show ex _ _=_
   rw [fo ⟨by omega,by omega⟩,zj8 a6 a6];by_cases e2:cH a i=cH b i
   ·rw [if_pos e2,decide_eq_false (fun hn=>hn e2),cond_false];exact h2
   ·rw [if_neg e2,decide_eq_true e2,cond_true]
 exact key a.length 0 a6
def hasS (p:GProblem)(s:Int):Bool:=p.Domains.any fun d=>decide (d.Station=s)
theorem znp {p:GProblem}{s:Int}:iT p s<0↔hasS p s=false:=by
 unfold iT hasS;refine kj ?_
 have key:∀m i,i+m=p.Domains.length→(dh (fun (i:Nat) (next:Unit→Int) (_:Unit)=>bif decide ((cH p.Domains i).Station=s) then (i:Int) else next ()) (fun _=>(-1)) m i ()<0↔((p.Domains.drop i).any fun d=>decide (d.Station=s))=false):=by
  intro m
  induction m with
  |zero=>intro i e;rw [List.drop_eq_nil_of_le (show p.Domains.length≤i by omega)];exact ⟨fun _=>rfl,fun _=>by show (-1:Int)<0;omega⟩
  |succ m ih=>
   intro i e;have h2:=ih (i+1) a6;rw [List.drop_eq_getElem_cons (show i<p.Domains.length by omega),List.any_cons,←d4 (show i<p.Domains.length by omega)]
   show (bif decide ((cH p.Domains i).Station=s) then (i:Int) else _)<0↔_
   cases decide ((cH p.Domains i).Station=s) with
   |true=>simp
   |false=>rw [cond_false,Bool.false_or];exact h2
 have:=key p.Domains.length 0 a6
 rwa [List.drop_zero] at this
theorem zch (i:Nat):((i:Int) - 1).toNat=i - 1:=by omega
theorem znQ {p : GProblem} {i : Nat} {next : Unit → Option Bool} (hi : i < p.Rules.Pairs.length) :
    (bif !(ki ((cH p.Rules.Pairs i).A)) then (bif true then some false else next ()) else
      (bif !(ki ((cH p.Rules.Pairs i).B)) then (bif true then some false else next ()) else
      (bif decide ((cH p.Rules.Pairs i).B ≤ (cH p.Rules.Pairs i).A) then (bif true then some false else next ()) else
      (bif decide ((cH p.Rules.Pairs i).Offset < (-1)) then (bif true then some false else next ()) else
      (bif decide (1 < (cH p.Rules.Pairs i).Offset) then (bif true then some false else next ()) else
      (bif !(mP ((cH p.Rules.Pairs i).Low) ((cH p.Rules.Pairs i).High)) then (bif true then some false else next ()) else
      (bif decide (0 < (i : Int)) then (zbi (lE (cH p.Rules.Pairs (((i : Int) - 1).toNat))) (lE (cH p.Rules.Pairs i))).bind fun r => (bif !r then some false else next ()) else (bif false then some false else next ())))))))) = bif zhe (d6 p).ps i then next () else some false := by
  have e1 : cH (d6 p).ps i = (cH p.Rules.Pairs i).b := jy hi; have e2 : cH (d6 p).ps (i - 1) = (cH p.Rules.Pairs (i - 1)).b := jy a6; rw [zch, zk2 (by rfl), Option.bind_some];simp only [zdW, zlo]
  have hr : zhe (d6 p).ps i = (inB (cH p.Rules.Pairs i).A 0 511 && (inB (cH p.Rules.Pairs i).B 0 511 && (!decide ((cH p.Rules.Pairs i).B ≤ (cH p.Rules.Pairs i).A) && (!decide ((cH p.Rules.Pairs i).Offset < (-1)) && (!decide (1 < (cH p.Rules.Pairs i).Offset) && (eY (cH p.Rules.Pairs i).Low (cH p.Rules.Pairs i).High && (!decide (0 < (i : Int)) || kx (lE (cH p.Rules.Pairs (i - 1))) (lE (cH p.Rules.Pairs i))))))))) := by
    unfold zhe; rw [e1, e2, Bool.eq_iff_iff, decide_eq_true_eq];simp only [Bool.and_eq_true, Bool.or_eq_true, Bool.not_eq_true', decide_eq_false_iff_not, GPair.b, lE]; constructor
    · rintro ⟨⟨h1, h2, h3, h4, h5, h6⟩, h9⟩; refine ⟨h1, h2, by omega, by omega, by omega, h6, ?_⟩; rcases Nat.eq_zero_or_pos i with h | h
      · exact .inl a6
      · exact .inr (h9 h)
    · rintro ⟨h1, h2, h3, h4, h5, h6, h9⟩; refine ⟨⟨h1, h2, by omega, by omega, by omega, h6⟩, fun h => ?_⟩; rcases h9 with h9 | h9
      · omega
      · exact h9
  rw [hr]
  cases inB (cH p.Rules.Pairs i).A 0 511
  · rfl
  cases inB (cH p.Rules.Pairs i).B 0 511
  · rfl
  cases decide ((cH p.Rules.Pairs i).B ≤ (cH p.Rules.Pairs i).A)
  rotate_left
  · rfl
  cases decide ((cH p.Rules.Pairs i).Offset < (-1))
  rotate_left
  · rfl
  cases decide (1 < (cH p.Rules.Pairs i).Offset)
  rotate_left
  · rfl
  cases eY (cH p.Rules.Pairs i).Low (cH p.Rules.Pairs i).High
  · rfl
  cases decide (0 < (i : Int))
  · rfl
  cases kx (lE (cH p.Rules.Pairs (i - 1))) (lE (cH p.Rules.Pairs i)) <;> rfl
theorem zn3 {p : GProblem} {i : Nat} {next : Unit → Option Bool} (hi : i < p.Rules.Loads.length) :
    (bif !(ki ((cH p.Rules.Loads i).To)) then (bif true then some false else next ()) else
      (bif !(ki ((cH p.Rules.Loads i).From)) then (bif true then some false else next ()) else
      (bif decide ((cH p.Rules.Loads i).To = (cH p.Rules.Loads i).From) then (bif true then some false else next ()) else
      (bif decide ((cH p.Rules.Loads i).Weight < 1) then (bif true then some false else next ()) else
      (bif decide (1073741824 < (cH p.Rules.Loads i).Weight) then (bif true then some false else next ()) else
      (bif !(mP ((cH p.Rules.Loads i).Low) ((cH p.Rules.Loads i).High)) then (bif true then some false else next ()) else
      (bif decide (0 < (i : Int)) then (zbi (lv (cH p.Rules.Loads (((i : Int) - 1).toNat))) (lv (cH p.Rules.Loads i))).bind fun r => (bif !r then some false else next ()) else (bif false then some false else next ())))))))) = bif zhb (d6 p).ls i then next () else some false := by
  have e1 : cH (d6 p).ls i = (cH p.Rules.Loads i).b := jy hi; have e2 : cH (d6 p).ls (i - 1) = (cH p.Rules.Loads (i - 1)).b := jy a6; rw [zch, zk2 (by rfl), Option.bind_some];simp only [zdW, zlo]
  have hr : zhb (d6 p).ls i = (inB (cH p.Rules.Loads i).To 0 511 && (inB (cH p.Rules.Loads i).From 0 511 && (!decide ((cH p.Rules.Loads i).To = (cH p.Rules.Loads i).From) && (!decide ((cH p.Rules.Loads i).Weight < 1) && (!decide (1073741824 < (cH p.Rules.Loads i).Weight) && (eY (cH p.Rules.Loads i).Low (cH p.Rules.Loads i).High && (!decide (0 < (i : Int)) || kx (lv (cH p.Rules.Loads (i - 1))) (lv (cH p.Rules.Loads i))))))))) := by
    unfold zhb; rw [e1, e2, Bool.eq_iff_iff, decide_eq_true_eq];simp only [Bool.and_eq_true, Bool.or_eq_true, Bool.not_eq_true', decide_eq_false_iff_not, GLoad.b, lv]; constructor
    · rintro ⟨⟨h1, h2, h3, h4, h5, h6⟩, h9⟩; refine ⟨h1, h2, by omega, by omega, by omega, h6, ?_⟩; rcases Nat.eq_zero_or_pos i with h | h
      · exact .inl a6
      · exact .inr (h9 h)
    · rintro ⟨h1, h2, h3, h4, h5, h6, h9⟩; refine ⟨⟨h1, h2, by omega, by omega, by omega, h6⟩, fun h => ?_⟩; rcases h9 with h9 | h9
      · omega
      · exact h9
  rw [hr]
  cases inB (cH p.Rules.Loads i).To 0 511
  · rfl
  cases inB (cH p.Rules.Loads i).From 0 511
  · rfl
  cases decide ((cH p.Rules.Loads i).To = (cH p.Rules.Loads i).From)
  rotate_left
  · rfl
  cases decide ((cH p.Rules.Loads i).Weight < 1)
  rotate_left
  · rfl
  cases decide (1073741824 < (cH p.Rules.Loads i).Weight)
  rotate_left
  · rfl
  cases eY (cH p.Rules.Loads i).Low (cH p.Rules.Loads i).High
  · rfl
  cases decide (0 < (i : Int))
  · rfl
  cases kx (lv (cH p.Rules.Loads (i - 1))) (lv (cH p.Rules.Loads i)) <;> rfl
theorem zoc {p : GProblem} {i : Nat} {next : Unit → Option Bool} (hi : i < p.Rules.Caps.length) :
    (bif !(ki ((cH p.Rules.Caps i).Station)) then (bif true then some false else next ()) else
      (bif decide ((cH p.Rules.Caps i).Max < 0) then (bif true then some false else next ()) else
      (bif decide (1099511627776 < (cH p.Rules.Caps i).Max) then (bif true then some false else next ()) else
      (bif !(mP ((cH p.Rules.Caps i).Low) ((cH p.Rules.Caps i).High)) then (bif true then some false else next ()) else
      (bif decide (0 < (i : Int)) then (zbi (lF (cH p.Rules.Caps (((i : Int) - 1).toNat))) (lF (cH p.Rules.Caps i))).bind fun r => (bif !r then some false else next ()) else (bif false then some false else next ())))))) = bif zhr (d6 p).cs i then next () else some false := by
  have e1 : cH (d6 p).cs i = (cH p.Rules.Caps i).b := jy hi; have e2 : cH (d6 p).cs (i - 1) = (cH p.Rules.Caps (i - 1)).b := jy a6; rw [zch, zk2 (by rfl), Option.bind_some];simp only [zdW, zlo]
  have hr : zhr (d6 p).cs i = (inB (cH p.Rules.Caps i).Station 0 511 && (!decide ((cH p.Rules.Caps i).Max < 0) && (!decide (1099511627776 < (cH p.Rules.Caps i).Max) && (eY (cH p.Rules.Caps i).Low (cH p.Rules.Caps i).High && (!decide (0 < (i : Int)) || kx (lF (cH p.Rules.Caps (i - 1))) (lF (cH p.Rules.Caps i))))))) := by
    unfold zhr; rw [e1, e2, Bool.eq_iff_iff, decide_eq_true_eq];simp only [Bool.and_eq_true, Bool.or_eq_true, Bool.not_eq_true', decide_eq_false_iff_not, GCap.b, lF]; constructor
    · rintro ⟨⟨h1, h2, h3, h4⟩, h9⟩; refine ⟨h1, by omega, by omega, h4, ?_⟩; rcases Nat.eq_zero_or_pos i with h | h
      · exact .inl a6
      · exact .inr (h9 h)
    · rintro ⟨h1, h2, h3, h4, h9⟩; refine ⟨⟨h1, by omega, by omega, h4⟩, fun h => ?_⟩; rcases h9 with h9 | h9
      · omega
      · exact h9
  rw [hr]
  cases inB (cH p.Rules.Caps i).Station 0 511
  · rfl
  cases decide ((cH p.Rules.Caps i).Max < 0)
  rotate_left
  · rfl
  cases decide (1099511627776 < (cH p.Rules.Caps i).Max)
  rotate_left
  · rfl
  cases eY (cH p.Rules.Caps i).Low (cH p.Rules.Caps i).High
  · rfl
  cases decide (0 < (i : Int))
  · rfl
  cases kx (lF (cH p.Rules.Caps (i - 1))) (lF (cH p.Rules.Caps i)) <;> rfl
theorem ziJ {p:GProblem}:zbv p.Rules=some (zg2 (d6 p)):=by
 unfold zbv;refine kj ?_;rw [zcj (n:=p.Rules.Pairs.length) (z:=some false) (zhe (d6 p).ps) (fun i next hi=>znQ hi),zcj (n:=p.Rules.Loads.length) (z:=some false) (zhb (d6 p).ls) (fun i next hi=>zn3 hi),zcj (n:=p.Rules.Caps.length) (z:=some false) (zhr (d6 p).cs) (fun i next hi=>zoc hi)];have l1:(d6 p).ps.length=p.Rules.Pairs.length:=List.length_map _;have l2:(d6 p).ls.length=p.Rules.Loads.length:=List.length_map _;have l3:(d6 p).cs.length=p.Rules.Caps.length:=List.length_map _;unfold zg2;rw [l1,l2,l3];by_cases h:p.Rules.Pairs.length≤4096∧p.Rules.Loads.length≤1024∧p.Rules.Caps.length≤1024
 ·rw [decide_eq_true h,decide_eq_false a6,decide_eq_false a6,decide_eq_false a6]
  cases (List.range p.Rules.Pairs.length).all (zhe (d6 p).ps)
  ·rfl
  cases (List.range p.Rules.Loads.length).all (zhb (d6 p).ls)
  ·rfl
  cases (List.range p.Rules.Caps.length).all (zhr (d6 p).cs) <;> rfl
 ·rw [decide_eq_false h];by_cases h1:(4096:Int)<p.Rules.Pairs.length
  ·rw [decide_eq_true h1];rfl
  ·by_cases h2:(1024:Int)<p.Rules.Loads.length
   ·rw [decide_eq_true h2,Bool.or_true];rfl
   ·rw [decide_eq_true (show (1024:Int)<p.Rules.Caps.length by omega),Bool.or_true];rfl
theorem ziR {p:GProblem}{s:Int}:iT p s<0↔¬0≤zhD (d6 p).ds s:=by
 rw [znp,zhQ];unfold hasS;rw [List.any_eq_false];have l:(d6 p).ds.length=p.Domains.length:=List.length_map _;constructor
 ·rintro h ⟨i,hi,e⟩;rw [l] at hi;have e1:cH (d6 p).ds i=(cH p.Domains i).b:=jy hi;rw [e1] at e;exact h _ (eh hi) (decide_eq_true e)
 ·intro h x hx hd;obtain ⟨i,hi,rfl⟩:=fW hx;refine h ⟨i,by rw [l];exact hi,?_⟩;have e1:cH (d6 p).ds i=(cH p.Domains i).b:=jy hi;rw [e1];exact of_decide_eq_true hd
theorem zod {p:GProblem}:zb2 p=some (eF p):=by
 have l0:(d6 p).ds.length=p.Domains.length:=List.length_map _;have l1:(d6 p).ps.length=p.Rules.Pairs.length:=List.length_map _;have l2:(d6 p).ls.length=p.Rules.Loads.length:=List.length_map _;have l3:(d6 p).cs.length=p.Rules.Caps.length:=List.length_map _;have n0:∀k,k<p.Domains.length→cH (d6 p).ds k=(cH p.Domains k).b:=fun k hk=>jy hk;have n1:∀k,k<p.Rules.Pairs.length→cH (d6 p).ps k=(cH p.Rules.Pairs k).b:=fun k hk=>jy hk;have n2:∀k,k<p.Rules.Loads.length→cH (d6 p).ls k=(cH p.Rules.Loads k).b:=fun k hk=>jy hk;have n3:∀k,k<p.Rules.Caps.length→cH (d6 p).cs k=(cH p.Rules.Caps k).b:=fun k hk=>jy hk;unfold zb2 eF;rw [←zmh];simp only [dO,Nat.sub_zero,ziJ,Option.bind_some];rw [zcj (n:=p.Domains.length) (z:=some false) (zkw (d6 p).ds) (fun i next hi=>?_),zcj (n:=p.Rules.Pairs.length) (z:=some false) (zkk (d6 p)) (fun i next hi=>?_),zcj (n:=p.Rules.Loads.length) (z:=some false) (zks (d6 p)) (fun i next hi=>?_),zcj (n:=p.Rules.Caps.length) (z:=some false) (zkg (d6 p)) (fun i next hi=>?_)]
 ·unfold zlM;rw [l0,l1,l2,l3];by_cases h:p.Domains.length≤512
  ·rw [decide_eq_true h,decide_eq_false a6]
   cases zg2 (d6 p)
   ·rfl
   cases (List.range p.Domains.length).all (zkw (d6 p).ds)
   ·rfl
   cases (List.range p.Rules.Pairs.length).all (zkk (d6 p))
   ·rfl
   cases (List.range p.Rules.Loads.length).all (zks (d6 p))
   ·rfl
   cases (List.range p.Rules.Caps.length).all (zkg (d6 p)) <;> rfl
  ·rw [decide_eq_false h,decide_eq_true a6];rfl
 ·have hr:zkg (d6 p) i= !decide (iT p (cH p.Rules.Caps i).Station<0):=by
   unfold zkg;rw [n3 i hi,Bool.eq_iff_iff,decide_eq_true_eq];simp only [Bool.not_eq_true',decide_eq_false_iff_not,ziR,Decidable.not_not,GCap.b]
  rw [hr]
  cases decide (iT p (cH p.Rules.Caps i).Station<0) <;> rfl
 ·have hr:zks (d6 p) i=(!decide (iT p (cH p.Rules.Loads i).To<0)&& !decide (iT p (cH p.Rules.Loads i).From<0)):=by
   unfold zks;rw [n2 i hi,Bool.eq_iff_iff,decide_eq_true_eq];simp only [Bool.and_eq_true,Bool.not_eq_true',decide_eq_false_iff_not,ziR,Decidable.not_not,GLoad.b]
  rw [hr]
  cases decide (iT p (cH p.Rules.Loads i).To<0) <;> cases decide (iT p (cH p.Rules.Loads i).From<0) <;> rfl
 ·have hr:zkk (d6 p) i=(!decide (iT p (cH p.Rules.Pairs i).A<0)&& !decide (iT p (cH p.Rules.Pairs i).B<0)):=by
   unfold zkk;rw [n1 i hi,Bool.eq_iff_iff,decide_eq_true_eq];simp only [Bool.and_eq_true,Bool.not_eq_true',decide_eq_false_iff_not,ziR,Decidable.not_not,GPair.b]
  rw [hr]
  cases decide (iT p (cH p.Rules.Pairs i).A<0) <;> cases decide (iT p (cH p.Rules.Pairs i).B<0) <;> rfl
 ·rw [zcj (n:=(cH p.Domains i).Channels.length) (z:=some false) (ziz (cH p.Domains i).Channels) (fun k nx hk=>?_)]
  ·have hr:zkw (d6 p).ds i=(inB (cH p.Domains i).Station 0 511&&(!(decide (0<(i:Int))&&decide ((cH p.Domains i).Station≤(cH p.Domains (i - 1)).Station))&&(!decide (50<((cH p.Domains i).Channels.length:Int))&&(List.range (cH p.Domains i).Channels.length).all (ziz (cH p.Domains i).Channels)))):=by
    unfold zkw;rw [n0 i hi,n0 (i - 1) a6,Bool.eq_iff_iff,decide_eq_true_eq];simp only [Bool.and_eq_true,Bool.not_eq_true',Bool.and_eq_false_iff,decide_eq_false_iff_not,GDomain.b];constructor
    ·rintro ⟨⟨h1,h2,h3⟩,h4⟩;exact ⟨h1,by rcases Nat.eq_zero_or_pos i with h|h;exact .inl a6;exact .inr (by have:=h2 h;omega),by omega,h4⟩
    ·rintro ⟨h1,h2,h3,h4⟩;exact ⟨⟨h1,fun h=>by omega,by omega⟩,h4⟩
   rw [hr,zch,zdW]
   cases inB (cH p.Domains i).Station 0 511
   ·rfl
   cases (decide (0<(i:Int))&&decide ((cH p.Domains i).Station≤(cH p.Domains (i - 1)).Station))
   rotate_left
   ·rfl
   cases decide (50<((cH p.Domains i).Channels.length:Int))
   rotate_left
   ·rfl
   rfl
  ·have hr:ziz (cH p.Domains i).Channels k=(!decide (cH (cH p.Domains i).Channels k<2)&&(!decide (51<cH (cH p.Domains i).Channels k)&& !(decide (0<(k:Int))&&decide (cH (cH p.Domains i).Channels k≤cH (cH p.Domains i).Channels (k - 1))))):=by
    unfold ziz;rw [Bool.eq_iff_iff,decide_eq_true_eq];simp only [Bool.and_eq_true,Bool.not_eq_true',Bool.and_eq_false_iff,decide_eq_false_iff_not];omega
   rw [hr,zch]
   cases decide (cH (cH p.Domains i).Channels k<2)
   rotate_left
   ·rfl
   cases decide (51<cH (cH p.Domains i).Channels k)
   rotate_left
   ·rfl
   cases (decide (0<(k:Int))&&decide (cH (cH p.Domains i).Channels k≤cH (cH p.Domains i).Channels (k - 1))) <;> rfl
theorem fZ {s c:Int}{x:GDomain}{q:Int}:q∈(iQ s c x).Channels↔q∈x.Channels∧(x.Station=s→q=c):=by
 unfold iQ;dsimp only;by_cases hs:x.Station=s
 ·rw [decide_eq_true hs,cond_true]
  cases ha:x.Channels.any (fun k=>decide (k=c)) with
  |true=>
   rw [cond_true];obtain ⟨k,hk,he⟩:=List.any_eq_true.1 ha;have:=of_decide_eq_true he;subst this;simp only [List.mem_singleton];exact ⟨fun h=>by subst h;exact ⟨hk,fun _=>rfl⟩,fun h=>h.2 hs⟩
  |false=>
   rw [cond_false];refine ⟨(fun h=>by cases h),fun h=>?_⟩;have:=h.2 hs;subst this;have:=List.any_eq_false.1 ha q h.1;simp at this
 ·rw [decide_eq_false hs,cond_false];exact ⟨fun h=>⟨h,fun h2=>absurd h2 hs⟩,fun h=>h.1⟩
theorem zh6 {s c:Int}{x:GDomain}:(iQ s c x).Channels.Sublist x.Channels:=by
 unfold iQ;dsimp only
 cases decide (x.Station=s)
 ·exact fQ
 ·cases ha:x.Channels.any (fun k=>decide (k=c))
  ·exact List.nil_sublist _
  ·obtain ⟨k,hk,he⟩:=List.any_eq_true.1 ha;have:=of_decide_eq_true he;subst this;exact List.singleton_sublist.2 hk
section
variable {p:GProblem}{a b d:List GDomain}
theorem mV {s c:Int}:SubD (d.map (iQ s c)) d∧OrdD (d.map (iQ s c)) d:=by
 refine ⟨⟨List.length_map _,fun i hi=>?_⟩,fun i hi=>?_⟩
 ·rw [gr hi];exact ⟨rfl,fun k hk=>(fZ.1 hk).1⟩
 ·rw [gr hi];exact zh6
theorem zlQ {s c:Int}(h:SubD a b):SubD (a.map (iQ s c)) (b.map (iQ s c)):=by
 refine ⟨by rw [List.length_map,List.length_map,h.1],fun i hi=>?_⟩;rw [List.length_map] at hi;rw [gr hi,gr (by rw [h.1];exact hi)];have h2:=h.2 i hi;refine ⟨h2.1,fun k hk=>?_⟩;rw [fZ] at hk ⊢;exact ⟨h2.2 k hk.1,fun e=>hk.2 (h2.1.trans e)⟩
theorem OrdD.trans {c:List GDomain}(h:OrdD a b)(k:OrdD b c)(hl:b.length=c.length):OrdD a c:=fun i hi=>(h i (by rw [hl];exact hi)).trans (k i hi)
theorem Bd.ord (hb:Bd b)(hl:a.length=b.length)(h:OrdD a b):Bd a:=by
 refine ⟨by rw [hl];exact hb.len,fun x hx=>?_⟩;obtain ⟨i,hi,rfl⟩:=fW hx; (have hi':i<b.length:=by rw [←hl];exact hi);have h2:=hb.ch _ (eh hi');exact ⟨Nat.le_trans (h i hi').length_le h2.1,h2.2.sublist (h i hi')⟩
theorem zdI:∀ {a b:List GDomain},a.length=b.length→OrdD a b→ep a≤ep b
 | [],[],_,_=>Nat.le_refl _
 |x :: r,y :: q,hl,h=>by
  have h0:=(h 0 b2).length_le
  have ih:=zdI (a:=r) (b:=q) (by simpa using hl) (fun i hi=>by
   have:=h (i+1) cE
   simpa [cH] using this)
  simp only [ep,List.map_cons,List.sum_cons] at ih ⊢;have e1:cH (x :: r) 0=x:=rfl;have e2:cH (y :: q) 0=y:=rfl;rw [e1,e2] at h0;omega
theorem PropD.eq {r r':List GDomain×Bool}(hb:Bd d)(h:PropD p d r)(h':PropD p d r'):r=r':=by
 rcases h with ⟨h1,h2,h3,h4⟩|⟨h1,h2⟩
 ·rcases h' with ⟨g1,g2,g3,g4⟩|⟨g1,g2⟩
  ·have e1:=h4 _ g2 g3.1;have e2:=g4 _ h2 h3.1
   have:r.1=r'.1:=by
    refine zdG (by rw [e2.1]) fun i hi=>?_; (have hi1:i<r'.1.length:=by rw [←e2.1];exact hi); (have hid:i<d.length:=by rw [←h3.1.1];exact hi);have a1:=e1.2 i hi;have a2:=e2.2 i hi1;have hch:(cH r.1 i).Channels=(cH r'.1 i).Channels:=zc4 (h3.2 i hid) (g3.2 i hid) (hb.ch _ (eh hid)).2 (fun x=>⟨a2.2 x,a1.2 x⟩)
    cases hx:cH r.1 i with
    |mk s1 c1=>
     cases hy:cH r'.1 i with
     |mk s2 c2=>
      have b1:=a2.1;rw [hx,hy] at b1 hch;simp only at b1 hch;rw [b1,hch]
   exact Prod.ext this (h1.trans g1.symm)
  ·exact absurd h3.1 (g2 _ h2)
 ·rcases h' with ⟨g1,g2,g3,g4⟩|⟨g1,g2⟩
  ·exact absurd g3.1 (h2 _ g2)
  ·rw [h1,g1]
theorem PropD.keep {m r:List GDomain×Bool}{s c:Int}(h:PropD p d m)(hm:m.2=true)(hr:PropD p (m.1.map (iQ s c)) r):PropD p (d.map (iQ s c)) r:=by
 rcases h with ⟨_,h2,h3,h4⟩|⟨h1,_⟩
 ·have hsup:∀S,ClosedD p S→SubD S (d.map (iQ s c))→SubD S (m.1.map (iQ s c)):=fun S hS hs=>by
   have h5:=h4 S hS (hs.trans mV.1);refine ⟨by rw [List.length_map];exact h5.1,fun i hi=>?_⟩;rw [List.length_map] at hi; (have hid:i<d.length:=by rw [←h3.1.1];exact hi);rw [gr hi];have h6:=h5.2 i hi;refine ⟨h6.1,fun k hk=>fZ.2 ⟨h6.2 k hk,fun e=>?_⟩⟩;have h7:=(hs.2 i (by rw [List.length_map];exact hid)).2 k hk;rw [gr hid] at h7;exact (fZ.1 h7).2 (by rw [←(h3.1.2 i hid).1];exact e)
  rcases hr with ⟨g1,g2,g3,g4⟩|⟨g1,g2⟩
  ·refine .inl ⟨g1,g2,⟨g3.1.trans (zlQ h3.1),fun i hi=>?_⟩,fun S hS hs=>g4 S hS (hsup S hS hs)⟩;rw [List.length_map] at hi; (have hi':i<m.1.length:=by rw [h3.1.1];exact hi);have h8:=g3.2 i (by rw [List.length_map];exact hi');rw [gr hi'] at h8;rw [gr hi];refine h8.trans ?_;have hst:=(h3.1.2 i hi).1;have hsb:=h3.2 i hi;unfold iQ;dsimp only;rw [hst]
   cases decide ((cH d i).Station=s)
   ·exact hsb
   ·cases ha:(cH m.1 i).Channels.any (fun k=>decide (k=c))
    ·exact List.nil_sublist _
    ·obtain ⟨k,hk,he⟩:=List.any_eq_true.1 ha;rw [List.any_eq_true.2 ⟨k,hsb.subset hk,he⟩];exact fQ
  ·exact .inr ⟨g1,fun S hS hs=>g2 S hS (hsup S hS hs)⟩
 ·rw [h1] at hm;cases hm
theorem PropD.keepBad {m:List GDomain×Bool}{d':List GDomain}(h:PropD p d m)(hm:m.2=false)(hs:SubD d' d):PropD p d' m:=by
 rcases h with ⟨h1,_⟩|⟨h1,h2⟩
 ·rw [h1] at hm;cases hm
 ·exact .inr ⟨h1,fun S hS hh=>h2 S hS (hh.trans hs)⟩
theorem PropD.ord {m:List GDomain×Bool}(h:PropD p d m)(hm:m.2=true):m.1.length=d.length∧OrdD m.1 d:=by
 rcases h with ⟨_,_,h3,_⟩|⟨h1,_⟩
 ·exact ⟨h3.1.1,h3.2⟩
 ·rw [h1] at hm;cases hm
def ln (l:List GChoice)(i:Nat):Bool:=inB (cH l i).Station 0 511&&(inB (cH l i).Channel 2 51&& !(decide (0<(i:Int))&&decide ((cH l i).Station≤(cH l (i - 1)).Station)))
theorem zfx {l:List GChoice}:mR l=(List.range l.length).all (ln l):=by
 unfold mR;refine kj ?_;rw [zdV (ln l) (fun i next _=>?_),Bool.and_true];rw [zch,zdW]
 have e:ln l i=(inB (cH l i).Station 0 511&&(!decide ((cH l i).Channel<2)&&(!decide (51<(cH l i).Channel)&& !(decide (0<(i:Int))&&decide ((cH l i).Station≤(cH l (i - 1)).Station))))):=by
  unfold ln;rw [←Bool.and_assoc (!decide _)]
  congr 1
  congr 1
  unfold inB;by_cases h1:2≤(cH l i).Channel <;> by_cases h2:(cH l i).Channel≤51 <;> simp [h1,h2,Int.not_lt,Int.not_le] <;> omega
 rw [e]
 cases inB (cH l i).Station 0 511 <;> cases decide ((cH l i).Channel<2) <;> cases decide (51<(cH l i).Channel) <;> cases (decide (0<(i:Int))&&decide ((cH l i).Station≤(cH l (i - 1)).Station)) <;> rfl
theorem zoE (p:GProblem):(d6 p).er=p:=by
 unfold d6 Pb.er;dsimp only;rw [zex (g:=Dx.er) (fun _=>rfl),zex (g:=Pr.er) (fun _=>rfl),zex (g:=Ld.er) (fun _=>rfl),zex (g:=Cp.er) (fun _=>rfl)]
theorem zjq {d:List GDomain}{n:Nat}(h:∀x∈d,x.Channels.length≤n):ep d≤d.length*n:=by
 induction d with
 |nil=>simp [ep]
 |cons x r ih=>
  have h1:=h x b2;have h2:=ih (fun y hy=>h y (by simp [hy]));simp only [ep,List.map_cons,List.sum_cons,List.length_cons,Nat.add_mul] at h2 ⊢;omega
theorem zfB (h:eF p=true):WtP p∧Bd p.Domains∧ep p.Domains≤30000∧p.Domains.length≤512:=by
 have hG:=Pb.good h;have hw:=znz h;rw [zoE] at hw;have hl:(d6 p).ds.length=p.Domains.length:=List.length_map _; (have hn:p.Domains.length≤512:=by rw [←hl];exact hG.n)
 have hc:∀x∈p.Domains,x.Channels.length≤52∧x.Channels.Nodup:=fun x hx=>by
  obtain ⟨i,hi,rfl⟩:=fW hx;have e:cH (d6 p).ds i=(cH p.Domains i).b:=jy hi;have h1:=hG.chs _ (eh (show i<(d6 p).ds.length by rw [hl];exact hi));have h2:=zl4 h (i:=i) (by rw [hl];exact hi);rw [e] at h1 h2;exact ⟨h1.1,(zei List.nodup_range').sublist h2⟩
 refine ⟨hw,⟨by omega,fun x hx=>⟨by have:=(hc x hx).1;omega,(hc x hx).2⟩⟩,?_,hn⟩;have:=zjq (d:=p.Domains) (n:=52) (fun x hx=>(hc x hx).1);omega
end
structure GG (p:GProblem):Prop where
 n:p.Domains.length≤512
 st:∀x∈p.Domains,0≤x.Station∧x.Station≤511
 chs:∀x∈p.Domains,x.Channels.length≤52∧∀c∈x.Channels,2≤c∧c≤51
 inc:∀i j,i<j→j<p.Domains.length→(cH p.Domains i).Station<(cH p.Domains j).Station
 ps:∀x∈p.Rules.Pairs,(fS p x.A=true∧fS p x.B=true)∧(x.A<x.B∧ -1≤x.Offset∧x.Offset≤1)∧2≤x.Low∧x.Low≤x.High∧x.High≤51
 ls:∀x∈p.Rules.Loads,(fS p x.To=true∧fS p x.From=true)∧(x.To≠x.From∧1≤x.Weight∧x.Weight≤1073741824)∧2≤x.Low∧x.Low≤x.High∧x.High≤51
 cs:∀x∈p.Rules.Caps,fS p x.Station=true∧(0≤x.Max∧x.Max≤1099511627776)∧2≤x.Low∧x.Low≤x.High∧x.High≤51
 lls:p.Rules.Loads.length≤1024
 lps:p.Rules.Pairs.length≤4096
 lcs:p.Rules.Caps.length≤1024
theorem d7 {p:GProblem}{s:Int}:fS p s=true↔∃x∈p.Domains,x.Station=s:=by
 unfold fS;rw [List.any_eq_true];simp only [decide_eq_true_eq]
theorem zey {p:GProblem}(h:eF p=true):GG p:=by
 have hG:=Pb.good h;have hl:(d6 p).ds.length=p.Domains.length:=List.length_map _;have hn:∀i,i<p.Domains.length→cH (d6 p).ds i=(cH p.Domains i).b:=fun i hi=>gr hi
 have hs:∀ {s:Int},(∃i,i<(d6 p).ds.length∧s=(cH (d6 p).ds i).st)→fS p s=true:=fun ⟨i,hi,e⟩=>by
  rw [hl] at hi;rw [hn i hi] at e;exact d7.2 ⟨_,eh hi,e.symm⟩
 refine ⟨by rw [←hl];exact hG.n,fun x hx=>hG.st x.b (List.mem_map.2 ⟨x,hx,rfl⟩),fun x hx=>hG.chs x.b (List.mem_map.2 ⟨x,hx,rfl⟩),fun i j hij hj=>?_,fun x hx=>?_,fun x hx=>?_,fun x hx=>?_,?_,?_,?_⟩
 ·have:=hG.inc i j hij (by rw [hl];exact hj);rw [hn i a6,hn j hj] at this;exact this
 ·obtain ⟨h1,h2,h3⟩:=hG.ps x.b (List.mem_map.2 ⟨x,hx,rfl⟩);simp only [Pr.ok,eY,inB,Bool.and_eq_true,decide_eq_true_eq] at h1;exact ⟨⟨hs h2,hs h3⟩,by show x.A<x.B∧_;exact ⟨h1.2.2.1,h1.2.2.2.1.1,h1.2.2.2.1.2⟩,h1.2.2.2.2.1,h1.2.2.2.2.2.1,h1.2.2.2.2.2.2⟩
 ·obtain ⟨h1,h2,h3⟩:=hG.ls x.b (List.mem_map.2 ⟨x,hx,rfl⟩);simp only [Ld.ok,eY,inB,Bool.and_eq_true,decide_eq_true_eq] at h1;exact ⟨⟨hs h2,hs h3⟩,⟨h1.2.2.1,h1.2.2.2.1.1,h1.2.2.2.1.2⟩,h1.2.2.2.2.1,h1.2.2.2.2.2.1,h1.2.2.2.2.2.2⟩
 ·obtain ⟨h1,h2⟩:=hG.cs x.b (List.mem_map.2 ⟨x,hx,rfl⟩);simp only [Cp.ok,eY,inB,Bool.and_eq_true,decide_eq_true_eq] at h1;exact ⟨hs h2,⟨h1.2.1.1,h1.2.1.2⟩,h1.2.2.1,h1.2.2.2.1,h1.2.2.2.2⟩
 ·have:=hG.lls;have e:(d6 p).ls.length=p.Rules.Loads.length:=List.length_map _;omega
 ·have:=hG.lps;have e:(d6 p).ps.length=p.Rules.Pairs.length:=List.length_map _;omega
 ·have:=hG.lcs;have e:(d6 p).cs.length=p.Rules.Caps.length:=List.length_map _;omega
theorem zbP {σ ρ:Type}{f:Nat→(σ→ρ)→σ→ρ}{k:σ→ρ}{n:Nat}{s:σ}(q:Nat→Bool)(v:Nat→ρ)(hf:∀i next,i<n→f i next s=bif q i then v i else next s):dh f k n 0 s=match (List.range n).find? q with|some i=>v i|none=>k s:=by
 have key:∀m i,i+m=n→dh f k m i s=match (List.range' i m).find? q with|some i=>v i|none=>k s:=by
  intro m
  induction m with
  |zero=>intro i _;rfl
  |succ m ih=>
   intro i e
   show f i (dh f k m (i+1)) s=_
   rw [hf i _ a6,ih (i+1) a6,List.range'_succ,List.find?_cons]
   cases q i <;> rfl
 rw [key n 0 a6,List.range_eq_range']
def eU (l:List GChoice)(n:Int):Int:=match l.find? (fun c=>decide (c.Station=n)) with|some c=>c.Channel|none=>0
theorem zku {α:Type}[Inhabited α]{l:List α}{q:α→Bool}:((List.range l.length).find? fun i=>q (cH l i)).map (cH l)=l.find? q:=by
 induction l with
 |nil=>rfl
 |cons x r ih=>
  rw [List.length_cons,List.range_succ_eq_map,List.find?_cons,List.find?_cons];have e:cH (x :: r) 0=x:=rfl;rw [e]
  cases q x with
  |true=>rfl
  |false=>
   show Option.map (cH (x :: r)) (List.find? (fun i=>q (cH (x :: r) i)) ((List.range r.length).map Nat.succ))=r.find? q
   rw [List.find?_map,Option.map_map,←ih]
   congr 1
theorem mK {l:List GChoice}{n:Int}:gw l n=eU l n:=by
 unfold gw eU;refine kj ?_;rw [zbP (fun i=>decide ((cH l i).Station=n)) (fun i=>(cH l i).Channel) (fun i next _=>rfl),←zku (l:=l) (q:=fun c=>decide (c.Station=n))]
 cases (List.range l.length).find? fun i=>decide ((cH l i).Station=n) <;> rfl
structure ValidL (l:List GChoice):Prop where
 good:∀c∈l,0≤c.Station∧c.Station≤511∧2≤c.Channel∧c.Channel≤51
 inc:∀i j,i<j→j<l.length→(cH l i).Station<(cH l j).Station
theorem eG {l:List GChoice}:(List.range l.length).all (ln l)=true↔ValidL l:=by
 rw [List.all_eq_true];simp only [List.mem_range,ln,inB,Bool.and_eq_true,decide_eq_true_eq,Bool.not_eq_true',Bool.and_eq_false_iff,decide_eq_false_iff_not];constructor
 ·intro h;refine ⟨fun c hc=>?_,fun i j hij hj=>?_⟩
  ·obtain ⟨i,hi,rfl⟩:=fW hc;have:=h i hi;omega
  ·have key:∀m,i+m+1<l.length→(cH l i).Station<(cH l (i+m+1)).Station:=by
    intro m
    induction m with
    |zero=>intro hm;have:=(h (i+1) hm).2.2;rw [show i+1 - 1=i by omega] at this;rw [Nat.add_zero];omega
    |succ m ih=>intro hm;have h1:=ih a6;have:=(h (i+(m+1)+1) hm).2.2;rw [show i+(m+1)+1 - 1=i+m+1 by omega] at this;omega
   have:=key (j - i - 1) a6
   rwa [show i+(j - i - 1)+1=j by omega] at this
 ·intro h i hi;have:=h.good _ (eh hi);refine ⟨by omega,by omega,?_⟩;rcases Nat.eq_zero_or_pos i with h0|h0
  ·subst h0;left;omega
  ·right;have:=h.inc (i - 1) i a6 hi;omega
theorem ValidL.inj {l:List GChoice}(h:ValidL l){a b:GChoice}(ha:a∈l)(hb:b∈l)(e:a.Station=b.Station):a=b:=by
 obtain ⟨i,hi,rfl⟩:=fW ha;obtain ⟨j,hj,rfl⟩:=fW hb;rcases Nat.lt_trichotomy i j with h1|h1|h1
 ·have:=h.inc i j h1 hj;omega
 ·rw [h1]
 ·have:=h.inc j i h1 hi;omega
theorem zmx {l:List GChoice}{n:Int}(h:∀c∈l,c.Station≠n):eU l n=0:=by
 unfold eU;rw [List.find?_eq_none.2 (fun c hc=>by simpa using h c hc)]
theorem zhB {l:List GChoice}(h:ValidL l){c:GChoice}(hc:c∈l):eU l c.Station=c.Channel:=by
 unfold eU
 cases hf:l.find? (fun d=>decide (d.Station=c.Station)) with
 |none=>have:=List.find?_eq_none.1 hf c hc;simp at this
 |some d=>
  have h1:=List.find?_some hf;have h2:=List.mem_of_find?_eq_some hf;rw [h.inj h2 hc (by simpa using h1)]
theorem zmb {l:List GChoice}{n:Int}(h:eU l n≠0):∃c∈l,c.Station=n∧c.Channel=eU l n:=by
 unfold eU at h ⊢
 cases hf:l.find? (fun d=>decide (d.Station=n)) with
 |none=>rw [hf] at h;exact absurd rfl h
 |some d=>exact ⟨d,List.mem_of_find?_eq_some hf,by simpa using List.find?_some hf,rfl⟩
def zi5 (p:GProblem)(f:Int→Int)(t c:Int):Int:=p.Rules.Loads.foldl (fun n x=>bif decide (x.To=t)&&decide (f x.From=c)&&decide (x.Low≤c)&&decide (c≤x.High) then wI (n+x.Weight) else n) 0
theorem zoh {p:GProblem}{l:List GChoice}{t c:Int}:zb1 p t c l=zi5 p (eU l) t c:=by
 unfold zb1 zi5;simp only [dO,Nat.sub_zero,mK];rw [zgM (fun i n=>bif decide ((cH p.Rules.Loads i).To=t)&&decide (eU l (cH p.Rules.Loads i).From=c)&&decide ((cH p.Rules.Loads i).Low≤c)&&decide (c≤(cH p.Rules.Loads i).High) then wI (n+(cH p.Rules.Loads i).Weight) else n) (fun i next n _=>?_),zc2 (l:=p.Rules.Loads) (g:=fun n x=>bif decide (x.To=t)&&decide (eU l x.From=c)&&decide (x.Low≤c)&&decide (c≤x.High) then wI (n+x.Weight) else n)]
 cases (decide ((cH p.Rules.Loads i).To=t)&&decide (eU l (cH p.Rules.Loads i).From=c)&&decide ((cH p.Rules.Loads i).Low≤c)&&decide (c≤(cH p.Rules.Loads i).High)) <;> rfl
def mo (f:Int→Int)(x:GPair):Bool:=decide (¬f x.A=0)&&decide (¬f x.B=0)&&decide (x.Low≤f x.A)&&decide (f x.A≤x.High)&&decide (f x.B=wI (f x.A+x.Offset))
def ml (p:GProblem)(f:Int→Int)(x:GCap):Bool:=decide (¬f x.Station=0)&&decide (x.Low≤f x.Station)&&decide (f x.Station≤x.High)&&decide (x.Max<zi5 p f x.Station (f x.Station))
theorem brP_x {l:List GChoice}{x:GPair}:zbe x l=mo (eU l) x:=by unfold zbe mo;simp only [mK]
theorem brC_x {p:GProblem}{l:List GChoice}{x:GCap}:zbl p x l=ml p (eU l) x:=by unfold zbl ml;simp only [mK,zoh]
def lO (l:List GChoice)(all:Bool)(x:GDomain):Bool:=(decide (eU l x.Station=0)&&all)||(decide (¬eU l x.Station=0)&& !(x.Channels.any fun k=>decide (k=eU l x.Station)))
def orV (k:Int)(o:Option Nat)(r:GViolation):GViolation:=match o with
 |some i=>⟨k,(i:Int)⟩
 |none=>r
theorem zfR {k:Int}{o:Option Nat}{r:GViolation}(hk:k≠0):orV k o r=⟨0,0⟩↔o=none∧r=⟨0,0⟩:=by
 cases o <;> simp [orV,hk]
theorem zfS {k:Int}{o:Option Nat}{r:GViolation}(hk:k≠0)(hr:r.Kind=0→r=⟨0,0⟩):(orV k o r).Kind=0→orV k o r=⟨0,0⟩:=by
 cases o
 ·exact hr
 ·intro h;exact absurd h hk
def zes (p:GProblem)(l:List GChoice)(all:Bool):GViolation:=
 orV 1 ((List.range p.Domains.length).find? fun i=>lO l all (cH p.Domains i)) <|
 orV 2 ((List.range l.length).find? fun i=> !fS p (cH l i).Station) <|
 orV 3 ((List.range p.Rules.Pairs.length).find? fun i=>mo (eU l) (cH p.Rules.Pairs i)) <|
 orV 4 ((List.range p.Rules.Caps.length).find? fun i=>ml p (eU l) (cH p.Rules.Caps i)) ⟨0,0⟩
theorem znu {p:GProblem}{s:Int}:decide (iT p s<0)= !fS p s:=by
 have:=znp (p:=p) (s:=s);unfold hasS at this;unfold fS
 cases h:p.Domains.any fun d=>decide (d.Station=s) with
 |true=>
  rw [h] at this;exact decide_eq_false (fun e=>by have:=this.1 e;cases this)
 |false=>exact decide_eq_true (this.2 h)
theorem znL {p:GProblem}{l:List GChoice}{all:Bool}:za7 p l all=zes p l all:=by
 unfold za7 zes;simp only [dO,Nat.sub_zero,mK,znA,znu,brP_x,brC_x];rw [zbP (fun i=>lO l all (cH p.Domains i)) (fun i=>GViolation.mk 1 (i:Int)) (fun i next _=>rfl)]
 cases (List.range p.Domains.length).find? (fun i=>lO l all (cH p.Domains i)) with
 |some i=>rfl
 |none=>
  dsimp only;rw [zbP (fun i=> !fS p (cH l i).Station) (fun i=>GViolation.mk 2 (i:Int)) (fun i next _=>rfl)]
  cases (List.range l.length).find? (fun i=> !fS p (cH l i).Station) with
  |some i=>rfl
  |none=>
   dsimp only;rw [zbP (fun i=>mo (eU l) (cH p.Rules.Pairs i)) (fun i=>GViolation.mk 3 (i:Int)) (fun i next _=>rfl)]
   cases (List.range p.Rules.Pairs.length).find? (fun i=>mo (eU l) (cH p.Rules.Pairs i)) with
   |some i=>rfl
   |none=>
    dsimp only;rw [zbP (fun i=>ml p (eU l) (cH p.Rules.Caps i)) (fun i=>GViolation.mk 4 (i:Int)) (fun i next _=>rfl)]
    cases (List.range p.Rules.Caps.length).find? (fun i=>ml p (eU l) (cH p.Rules.Caps i)) <;> rfl
theorem zfT {α:Type}[Inhabited α]{l:List α}{q:α→Bool}:(List.range l.length).find? (fun i=>q (cH l i))=none↔∀x∈l,q x=false:=by
 rw [List.find?_eq_none];constructor
 ·intro h x hx;obtain ⟨i,hi,rfl⟩:=fW hx;simpa using h i (List.mem_range.2 hi)
 ·intro h i hi;simpa using h _ (eh (List.mem_range.1 hi))
structure FineP (p:GProblem) (l:List GChoice):Prop where
 val:ValidL l
 dom:∀x∈p.Domains,eU l x.Station∈x.Channels∧eU l x.Station≠0
 own:∀c∈l,fS p c.Station=true
 pr:∀x∈p.Rules.Pairs,mo (eU l) x=false
 cp:∀x∈p.Rules.Caps,ml p (eU l) x=false
theorem zkh {p:GProblem}{l:List GChoice}{all:Bool}:zes p l all=⟨0,0⟩↔(∀x∈p.Domains,lO l all x=false)∧(∀c∈l,fS p c.Station=true)∧(∀x∈p.Rules.Pairs,mo (eU l) x=false)∧∀x∈p.Rules.Caps,ml p (eU l) x=false:=by
 rw [←zfT,←zfT (q:=mo (eU l)),←zfT (q:=ml p (eU l))]
 have e:(∀c∈l,fS p c.Station=true)↔(List.range l.length).find? (fun i=> !fS p (cH l i).Station)=none:=by
  rw [zfT (q:=fun c:GChoice=> !fS p c.Station)];simp
 rw [e];unfold zes;rw [zfR a7,zfR a7,zfR a7,zfR a7];simp
theorem zkq {p:GProblem}{l:List GChoice}{all:Bool}:(zes p l all).Kind=0→zes p l all=⟨0,0⟩:=by
 unfold zes;exact zfS a7 (zfS a7 (zfS a7 (zfS a7 fun _=>rfl)))
theorem zmN {l:List GChoice}{x:GDomain}:lO l true x=false↔eU l x.Station∈x.Channels∧eU l x.Station≠0:=by
 unfold lO;by_cases h:eU l x.Station=0 <;> simp [h]
theorem zoy {p:GProblem}{l:List GChoice}:zcm p l=true↔FineP p l:=by
 unfold zcm;rw [zfx,znL,Bool.and_eq_true,eG,Bool.and_eq_true,decide_eq_true_eq,decide_eq_true_eq];have e:((zes p l true).Kind=0∧(zes p l true).At=0)↔zes p l true=⟨0,0⟩:=⟨fun h=>zkq h.1,fun h=>by rw [h];exact ⟨rfl,rfl⟩⟩;rw [e,zkh];simp only [zmN];exact ⟨fun ⟨h1,h2,h3,h4,h5⟩=>⟨h1,h2,h3,h4,h5⟩,fun h=>⟨h.val,h.dom,h.own,h.pr,h.cp⟩⟩
def fF (d:List GDomain)(f:Int→Int):List GDomain:=d.map fun x=>⟨x.Station,[f x.Station]⟩
section
variable {p:GProblem}{f:Int→Int}
theorem zdp {s c:Int}(h:fS p s=true):iC (fF p.Domains f) s c=decide (f s=c):=by
 rw [Bool.eq_iff_iff,eO,decide_eq_true_eq];obtain ⟨x,hx,rfl⟩:=d7.1 h;constructor
 ·intro h1;exact h1 _ (List.mem_map.2 ⟨x,hx,rfl⟩) rfl _ b2
 ·intro e y hy hs k hk;obtain ⟨z,hz,rfl⟩:=List.mem_map.1 hy;simp at hk;dsimp only at hs;rw [hk,hs,e]
theorem zfu {α β:Type}{g h:β→α→β}:∀ {l:List α} {b:β},(∀x∈l,∀b,g b x=h b x)→l.foldl g b=l.foldl h b
 | [],_,_=>rfl
 |x :: r,b,e=>by rw [List.foldl_cons,List.foldl_cons,e x b2,zfu (fun y hy=>e y (by simp [hy]))]
theorem zhy (hG:GG p){t c fr:Int}(hfr:fr<0∨f fr=c):gQ p (fF p.Domains f) t c fr=zi5 p f t c:=by
 unfold gQ zi5;refine zfu fun x hx n=>?_;obtain ⟨⟨h1,h2⟩,_⟩:=hG.ls x hx
 congr 1
 unfold loadC;rw [zdp h2,Bool.eq_iff_iff];simp only [Bool.and_eq_true,Bool.or_eq_true,decide_eq_true_eq];constructor
 ·rintro ⟨⟨a1,a2,a3⟩,a4⟩;refine ⟨⟨⟨a1,?_⟩,a2⟩,a3⟩;rcases a4 with a4|a4
  ·rcases hfr with h3|h3
   ·obtain ⟨y,hy,e⟩:=d7.1 h2;have:=(hG.st y hy).1;omega
   ·rw [a4];exact h3
  ·exact a4
 ·rintro ⟨⟨⟨a1,a2⟩,a3⟩,a4⟩;exact ⟨⟨a1,a3,a4⟩, .inr a2⟩
theorem kC {s c l:Int}:kz p s c l=true↔∃x∈p.Rules.Caps,(x.Station=s∧x.Low≤c∧c≤x.High)∧x.Max<l:=by
 unfold kz;rw [List.any_eq_true];simp only [Bool.and_eq_true,decide_eq_true_eq]
theorem zgr (hG:GG p)(hf:∀x∈p.Domains,1≤f x.Station∧f x.Station≤1000):ClosedD p (fF p.Domains f)↔(∀x∈p.Rules.Pairs,mo f x=false)∧∀x∈p.Rules.Caps,ml p f x=false:=by
 have hfs:∀ {s},fS p s=true→1≤f s∧f s≤1000:=fun h=>by
  obtain ⟨x,hx,rfl⟩:=d7.1 h;exact hf x hx
 constructor
 ·intro h
  have calm:∀ {s},fS p s=true→ir p (fF p.Domains f) s (f s)=false:=fun hs=>by
   obtain ⟨x,hx,rfl⟩:=d7.1 hs;exact h.calm ⟨x.Station,[f x.Station]⟩ (List.mem_map.2 ⟨x,hx,rfl⟩) _ b2
  refine ⟨fun x hx=>?_,fun x hx=>?_⟩
  ·obtain ⟨⟨h1,h2⟩,_⟩:=hG.ps x hx
   cases hb:mo f x with
   |false=>rfl
   |true=>
    unfold mo at hb;simp only [Bool.and_eq_true,decide_eq_true_eq] at hb;have h3:=calm h1
    have h4:me (fF p.Domains f) x.A (f x.A) x=true:=by
     unfold me;rw [zdp h2];simp only [Bool.or_eq_true,Bool.and_eq_true,decide_eq_true_eq];exact .inl ⟨⟨trivial,hb.1.1.2,hb.1.2⟩,hb.2⟩
    unfold ir at h3;rw [List.any_eq_true.2 ⟨x,hx,h4⟩] at h3
    cases h3
  ·obtain ⟨h1,_⟩:=hG.cs x hx
   cases hb:ml p f x with
   |false=>rfl
   |true=>
    unfold ml at hb;simp only [Bool.and_eq_true,decide_eq_true_eq] at hb;have h3:=calm h1
    have h4:kz p x.Station (f x.Station) (gQ p (fF p.Domains f) x.Station (f x.Station) (-1))=true:=by
     rw [zhy hG (.inl a6)];exact kC.2 ⟨x,hx,⟨rfl,hb.1.1.2,hb.1.2⟩,hb.2⟩
    unfold ir at h3;rw [h4] at h3;simp at h3
 ·rintro ⟨hp,hc⟩
  have hov:∀ {s},fS p s=true→kz p s (f s) (zi5 p f s (f s))=false:=fun {s} hs=>by
   cases ho:kz p s (f s) (zi5 p f s (f s)) with
   |false=>rfl
   |true=>
    obtain ⟨x,hx,⟨rfl,h2,h3⟩,h4⟩:=kC.1 ho;have h5:=hc x hx;have:=hfs hs;unfold ml at h5;rw [decide_eq_true (show ¬f x.Station=0 by omega),decide_eq_true h2,decide_eq_true h3,decide_eq_true h4] at h5
    cases h5
  refine ⟨fun x hx=>?_,fun x hx c hcx=>?_⟩
  ·obtain ⟨y,hy,rfl⟩:=List.mem_map.1 hx;simp
  ·obtain ⟨y,hy,rfl⟩:=List.mem_map.1 hx;simp at hcx;subst hcx;have hs:fS p y.Station=true:=d7.2 ⟨y,hy,rfl⟩;have hfy:=hfs hs;dsimp only;unfold ir;rw [zhy hG (.inl a6),hov hs,Bool.or_false,Bool.or_eq_false_iff,List.any_eq_false,List.any_eq_false];refine ⟨fun x hx=>?_,fun x hx=>?_⟩
   ·obtain ⟨⟨h1,h2⟩,⟨_,h3,h4⟩,_⟩:=hG.ps x hx;have h5:=hp x hx;have hA:=hfs h1;have hB:=hfs h2;unfold me;rw [zdp h1,zdp h2];intro hh;simp only [Bool.or_eq_true,Bool.and_eq_true,decide_eq_true_eq] at hh;unfold mo at h5;rw [zgE a6] at h5;simp only [Bool.and_eq_false_iff,decide_eq_false_iff_not] at h5;rcases hh with ⟨⟨a1,a2,a3⟩,a4⟩|⟨⟨a1,a2,a3⟩,a4⟩
    ·subst_vars
     rw [zgE a6] at a4;rw [←a1] at a2 a3 a4;omega
    ·rw [zgE a6] at a2 a3 a4;rw [←a1] at a2 a3 a4;omega
   ·obtain ⟨⟨h1,h2⟩,_⟩:=hG.ls x hx;unfold loadR;rw [zdp h1];intro hh;simp only [Bool.and_eq_true,decide_eq_true_eq] at hh;obtain ⟨⟨⟨a1,a2⟩,a3⟩,a4⟩:=hh;have h6:=hov h1;rw [zhy hG (.inr rfl),←a3] at a4;rw [h6] at a4
    cases a4
end
theorem zlW (n:Nat):zbw (n+100000)=some true:=by kernel_rfl
theorem zlx {fuel:Nat}(hf:100000≤fuel):zbw fuel=some true:=by
 obtain ⟨n,rfl⟩:∃n,fuel=n+100000:=⟨fuel - 100000,by omega⟩;exact zlW n
theorem zfv {l:List GChoice}:kR l=(List.range l.length).all (ln l):=by
 unfold kR;refine kj ?_;rw [zdV (ln l) (fun i next _=>?_),Bool.and_true];rw [zch];unfold ln
 show (bif !(inB (cH l i).Station 0 511)|| !(inB (cH l i).Channel 2 51) then false else _)=_
 cases inB (cH l i).Station 0 511 <;> cases inB (cH l i).Channel 2 51 <;> cases (decide (0<(i:Int))&&decide ((cH l i).Station≤(cH l (i - 1)).Station)) <;> rfl
theorem zg4 (s:List Int)(v:Int):m0 s v=s.any fun x=>decide (x=v):=by
 have e:zaR s v=match (List.range s.length).find? (fun i=>decide (v=cH s i)) with|some i=>(i:Int)|none=> -1:=by
  unfold zaR;refine kj ?_;rw [zbP (fun i=>decide (v=cH s i)) (fun i=>(i:Int)) (fun i next _=>rfl)]
  all_goals (cases (List.range s.length).find? fun i=>decide (v=cH s i) <;> rfl)
 unfold m0;rw [e,Bool.eq_iff_iff,List.any_eq_true]
 cases h:(List.range s.length).find? fun i=>decide (v=cH s i) with
 |none=>
  have h2:=List.find?_eq_none.1 h;constructor
  ·intro h3;exact absurd (of_decide_eq_true h3) a7
  ·rintro ⟨x,hx,h3⟩;obtain ⟨i,hi,rfl⟩:=fW hx;exact absurd (decide_eq_true (of_decide_eq_true h3).symm) (h2 i (List.mem_range.2 hi))
 |some i=>
  have h2:=List.find?_some h;have h3:=List.mem_range.1 (List.mem_of_find?_eq_some h);constructor
  ·intro _;exact ⟨cH s i,eh h3,decide_eq_true (of_decide_eq_true h2).symm⟩
  ·intro _;exact decide_eq_true (show (0:Int)≤(i:Int) by omega)
def eo (l:List GDomain)(i:Int):Int:=((cH l i.toNat).Channels.length:Int)
def stB (l:List GDomain)(i:Nat)(b:Int):Int:=if b<0∨(1<eo l i∧(eo l b≤1∨eo l i<eo l b)) then (i:Int) else b
def stA (l:List GDomain)(i:Nat)(a:Int):Int:=if 1<eo l i∧(a<0∨eo l i<eo l a) then (i:Int) else a
def lJ (l:List GDomain)(n:Nat):Int:=(List.range n).foldl (fun s i=>stB l i s) (-1)
def jj (l:List GDomain)(n:Nat):Int:=(List.range n).foldl (fun s i=>stA l i s) (-1)
theorem znm (l : List GDomain) : ∀ m, (jj l m = -1 ∧ (m = 0 ∧ lJ l m = -1 ∨ 0 ≤ lJ l m ∧ lJ l m < m ∧ eo l (lJ l m) ≤ 1)) ∨ (jj l m = lJ l m ∧ 0 ≤ lJ l m ∧ lJ l m < m ∧ 1 < eo l (lJ l m))
  | 0 => .inl ⟨rfl, .inl ⟨rfl, rfl⟩⟩
  | m + 1 => by
    have ih := znm l m; (have ea : jj l (m + 1) = stA l m (jj l m) := by unfold jj; rw [List.range_succ, List.foldl_append]; rfl); (have eb : lJ l (m + 1) = stB l m (lJ l m) := by unfold lJ; rw [List.range_succ, List.foldl_append]; rfl); rw [ea, eb]; generalize jj l m = a at *; generalize lJ l m = b at *; unfold stA stB; have e0 : eo l (m : Int) = eo l m := rfl; rcases ih with ⟨rfl, h⟩ | ⟨rfl, h1, h2, h3⟩
    · by_cases h1 : 1 < eo l m
      · rw [if_pos ⟨h1, .inl a7⟩]
        have : b < 0 ∨ (1 < eo l m ∧ (eo l b ≤ 1 ∨ eo l m < eo l b)) := by
          rcases h with ⟨_, rfl⟩ | ⟨_, _, h⟩
          · exact .inl a7
          · exact .inr ⟨h1, .inl h⟩
        rw [if_pos this]; exact .inr ⟨rfl, by omega, by omega, h1⟩
      · rw [if_neg (fun h => h1 h.1)];refine .inl ⟨rfl, .inr ?_⟩; rcases h with ⟨rfl, rfl⟩ | ⟨h2, h3, h4⟩
        · rw [if_pos (.inl a7)]; exact ⟨by omega, by omega, by omega⟩
        · rw [if_neg (by rintro (h | h); · omega
                         · exact h1 h.1)]
          exact ⟨h2, by omega, h4⟩
    · by_cases h4 : 1 < eo l m ∧ eo l m < eo l a
      · rw [if_pos ⟨h4.1, .inr h4.2⟩, if_pos (.inr ⟨h4.1, .inr h4.2⟩)]; exact .inr ⟨rfl, by omega, by omega, h4.1⟩
      · rw [if_neg (by rintro ⟨h5, h6 | h6⟩; · omega
                       · exact h4 ⟨h5, h6⟩), if_neg (by rintro (h5 | ⟨h5, h6 | h6⟩); · omega
                                                        · omega
                                                        · exact h4 ⟨h5, h6⟩)]
        exact .inr ⟨rfl, h1, by omega, h3⟩
theorem znU (l : List GDomain) : zaA l = some (lJ l l.length) := by
  unfold zaA;simp only [dO, Nat.sub_zero]; refine (zcZ (fun (i : Nat) (s : Int) => -1 ≤ s ∧ s < (i : Int)) (fun (i : Nat) (s : Int) => stB l i s) ⟨by decide, by decide⟩ (fun i s hi hs => ?_) (fun i next s hi hs => ?_)).1
  · unfold stB; split <;> omega
  · unfold stB; by_cases h : s < 0
    · rw [decide_eq_true h, cond_true, cond_true, if_pos (.inl h)]
    · rw [decide_eq_false h, cond_false, fo ⟨by omega, by omega⟩]
      have e : za5 (cH l i) (cH l s.toNat) = decide (1 < eo l i ∧ (eo l s ≤ 1 ∨ eo l i < eo l s)) := by
        unfold za5 eo; by_cases h1 : 1 < ((cH l i).Channels.length : Int) <;> by_cases h2 : ((cH l s.toNat).Channels.length : Int) ≤ 1 <;> by_cases h3 : ((cH l i).Channels.length : Int) < ((cH l s.toNat).Channels.length : Int) <;> simp [h1, h2, h3, dO]
      rw [e]; by_cases h4 : 1 < eo l i ∧ (eo l s ≤ 1 ∨ eo l i < eo l s)
      · rw [decide_eq_true h4, cond_true, if_pos (.inr h4)]
      · rw [decide_eq_false h4, cond_false, if_neg (by rintro (h5 | h5); · exact h h5
                                                       · exact h4 h5)]
theorem zng (l:List GDomain):∀m,jj l m<0→∀i:Nat,i<m→eo l i≤1
 |0,_,i,hi=>absurd hi (Nat.not_lt_zero i)
 |m+1,h,i,hi=>by
  (have ea:jj l (m+1)=stA l m (jj l m):=by unfold jj;rw [List.range_succ,List.foldl_append];rfl);rw [ea] at h;unfold stA at h;by_cases h1:1<eo l m∧(jj l m<0∨eo l m<eo l (jj l m))
  ·rw [if_pos h1] at h;omega
  ·rw [if_neg h1] at h;rcases Nat.lt_or_ge i m with h2|h2
   ·exact zng l m h i h2
   ·(obtain rfl:i=m:=by omega);exact Int.not_lt.1 fun h3=>h1 ⟨h3, .inl h⟩
theorem ziV {l : List GDomain} {hints : List GChoice} (hok : eF ⟨l, ⟨[], [], []⟩⟩ = true) (hv : ValidL hints) :
    (∃ c, zbj l hints = some (c, true) ∧ za0 l hints = some (c, 0) ∧ ∃ x ∈ l, c.Station = x.Station ∧ c.Channel ∈ x.Channels ∧ 1 < x.Channels.length ∧ ∀ h ∈ hints, h.Station = x.Station → h.Channel ∈ x.Channels → c = h) ∨ (zbj l hints = some (⟨0, 0⟩, false) ∧ za0 l hints = some (⟨0, 0⟩, 9) ∧ ∀ x ∈ l, x.Channels.length ≤ 1) := by
  have hg := zey hok
  have hp : kR hints = true := by
    rw [zfv]; exact eG.2 hv
  have hinv := znm l l.length
  have hall : jj l l.length < 0 → ∀ x ∈ l, x.Channels.length ≤ 1 := fun h x hx => by
    obtain ⟨i, hi, rfl⟩ := fW hx; have h1 := zng l _ h i hi; have h2 : ((cH l i).Channels.length : Int) ≤ 1 := h1; omega
  have hR : zbj l hints = (bif decide (jj l l.length < 0) then some ((GChoice.mk 0 0), false) else
      ex (0 ≤ jj l l.length ∧ jj l l.length < (l.length : Int)) <|
      (bif !(zbC ((cH l (jj l l.length).toNat).Channels) (gw hints ((cH l (jj l l.length).toNat).Station))) then
        ex (0 ≤ 0 ∧ 0 < (((cH l (jj l l.length).toNat).Channels).length : Int)) <|
        some ((GChoice.mk ((cH l (jj l l.length).toNat).Station) (cH ((cH l (jj l l.length).toNat).Channels) 0)), true)
        else
        some ((GChoice.mk ((cH l (jj l l.length).toNat).Station) (gw hints ((cH l (jj l l.length).toNat).Station))), true))) := by
    unfold zbj;simp only [dO, Nat.sub_zero]; refine (zcZ (fun (i : Nat) (s : Int) => -1 ≤ s ∧ s < (i : Int)) (fun (i : Nat) (s : Int) => stA l i s) ⟨by decide, by decide⟩ (fun i s hi hs => ?_) (fun i next s hi hs => ?_)).1
    · unfold stA; split <;> omega
    · unfold stA; by_cases h1 : 1 < eo l i
      · have h1' : 1 < ((cH l i).Channels.length : Int) := h1; rw [decide_eq_true h1', cond_true]; by_cases h : s < 0
        · rw [decide_eq_true h, cond_true, cond_true, if_pos ⟨h1, .inl h⟩]
        · rw [decide_eq_false h, cond_false, fo ⟨by omega, by omega⟩]; by_cases h2 : eo l i < eo l s
          · have h2' : ((cH l i).Channels.length : Int) < ((cH l s.toNat).Channels.length : Int) := h2; rw [decide_eq_true h2', cond_true, if_pos ⟨h1, .inr h2⟩]
          · have h2' : ¬ ((cH l i).Channels.length : Int) < ((cH l s.toNat).Channels.length : Int) := h2
            rw [decide_eq_false h2', cond_false, if_neg (by rintro ⟨_, h3 | h3⟩; · exact h h3
                                                            · exact h2 h3)]
      · have h1' : ¬ 1 < ((cH l i).Channels.length : Int) := h1; rw [decide_eq_false h1', cond_false, cond_false, if_neg (fun h => h1 h.1)]
  rw [hR]; unfold za0; rw [hok, hp, znU, Bool.not_true, Bool.or_false, cond_false, Option.bind_some];simp only [dO, Nat.sub_zero]; generalize jj l l.length = a at *; generalize lJ l l.length = b at *; rcases hinv with ⟨rfl, h⟩ | ⟨rfl, h1, h2, h3⟩
  · right;refine ⟨rfl, ?_, hall a6⟩; rcases h with ⟨_, rfl⟩ | ⟨h1, h2, h3⟩
    · rfl
    · have h3' : ((cH l b.toNat).Channels.length : Int) ≤ 1 := h3; rw [decide_eq_false a6, cond_false, fo ⟨h1, h2⟩, decide_eq_true h3']; rfl
  · left; (have h3' : ¬ ((cH l a.toNat).Channels.length : Int) ≤ 1 := by have : 1 < ((cH l a.toNat).Channels.length : Int) := h3; omega); (have h4 : 0 < ((cH l a.toNat).Channels.length : Int) := by omega); have g1 : 0 ≤ a ∧ a < (l.length : Int) := ⟨h1, h2⟩; have hd : cH l a.toNat ∈ l := eh a6; have hch := (hg.chs (cH l a.toNat) hd).2; rw [decide_eq_false (show ¬ a < 0 by omega), cond_false, cond_false, fo ⟨h1, h2⟩, decide_eq_false h3', cond_false, fo ⟨by omega, h4⟩, mK, znA]; generalize cH l a.toNat = d at *; rw [zbP (fun i => (decide ((cH hints i).Station = d.Station) && m0 d.Channels (cH hints i).Channel)) (fun i => some (cH hints i, 0)) (fun i next _ => rfl)]; by_cases hex : ∃ h ∈ hints, h.Station = d.Station
    · obtain ⟨h, hh, hst⟩ := hex
      have hon : eU hints d.Station = h.Channel := by
        unfold eU
        cases hf : hints.find? (fun c => decide (c.Station = d.Station)) with
        | none => exact absurd (decide_eq_true hst) (List.find?_eq_none.1 hf h hh)
        | some c =>
          have e0 := List.find?_some hf; have e1 := of_decide_eq_true e0; rw [hv.inj (List.mem_of_find?_eq_some hf) hh a6]
      rw [hon]
      cases hc : d.Channels.any fun k => decide (k = h.Channel) with
      | true =>
        cases hf : (List.range hints.length).find? fun i => (decide ((cH hints i).Station = d.Station) && m0 d.Channels (cH hints i).Channel) with
        | none =>
          obtain ⟨i, hi, rfl⟩ := fW hh; have := List.find?_eq_none.1 hf i (List.mem_range.2 hi); rw [decide_eq_true hst, zg4, hc] at this; exact absurd rfl this
        | some i =>
          have e1 := List.find?_some hf; have hi := List.mem_range.1 (List.mem_of_find?_eq_some hf); rw [Bool.and_eq_true, decide_eq_true_eq] at e1; have e2 : cH hints i = h := hv.inj (eh hi) hh a6
          refine ⟨⟨d.Station, h.Channel⟩, rfl, ?_, d, hd, rfl, (by
            obtain ⟨k, hk, h6⟩ := List.any_eq_true.1 hc
            rw [← of_decide_eq_true h6]; exact hk), by omega, fun h' hh' e' _ => by
              rw [hv.inj hh' hh a6, ← hst]⟩
          repeat rw [fo g1]
          rw [fo ⟨by omega, h4⟩]
          show some (cH hints i, (0 : Int)) = _
          rw [e2, ← hst]
      | false =>
        have hf : ((List.range hints.length).find? fun i => (decide ((cH hints i).Station = d.Station) && m0 d.Channels (cH hints i).Channel)) = none := by
          refine List.find?_eq_none.2 fun i hi => ?_; rw [Bool.and_eq_true, decide_eq_true_eq]; rintro ⟨e1, e2⟩; have e3 : cH hints i = h := hv.inj (eh (List.mem_range.1 hi)) hh a6; rw [zg4, e3, hc] at e2; cases e2
        rw [hf]
        refine ⟨_, rfl, ?_, d, hd, rfl, eh a6, by omega, fun h' hh' e' hm => by
          rw [hv.inj hh' hh a6] at hm
          exact absurd (List.any_eq_true.2 ⟨_, hm, decide_eq_true rfl⟩) (by rw [hc]; decide)⟩
        repeat rw [fo g1]
        rw [fo ⟨by omega, h4⟩]
    · have hon : eU hints d.Station = 0 := zmx fun c hc e => hex ⟨c, hc, e⟩
      have hno : (d.Channels.any fun k => decide (k = 0)) = false := by
        rw [Bool.eq_false_iff]; intro h5; obtain ⟨k, hk, h6⟩ := List.any_eq_true.1 h5; have := hch k hk; have := of_decide_eq_true h6; omega
      have hf : ((List.range hints.length).find? fun i => (decide ((cH hints i).Station = d.Station) && m0 d.Channels (cH hints i).Channel)) = none := by
        refine List.find?_eq_none.2 fun i hi => ?_; rw [Bool.and_eq_true, decide_eq_true_eq]; rintro ⟨e1, _⟩; exact hex ⟨_, eh (List.mem_range.1 hi), e1⟩
      rw [hon, hno, hf];refine ⟨_, rfl, ?_, d, hd, rfl, eh a6, by omega, fun h' hh' e' _ => absurd ⟨h', hh', e'⟩ hex⟩
      repeat rw [fo g1]
      rw [fo ⟨by omega, h4⟩]
structure FiltD (f:GDomain→GDomain) (φ:Int→Int→Prop):Prop where
 st:∀x,(f x).Station=x.Station
 mem:∀x q,q∈(f x).Channels↔q∈x.Channels∧φ x.Station q
 sub:∀x,(f x).Channels.Sublist x.Channels
 mono:∀x y,x.Station=y.Station→x.Channels.Sublist y.Channels→(f x).Channels.Sublist (f y).Channels
theorem mz:FiltD id (fun _ _=>True):=⟨fun _=>rfl,fun _ _=>by simp,fun _=>List.Sublist.refl _,fun _ _ _ h=>h⟩
theorem FiltD.keep (s c:Int):FiltD (iQ s c) (fun t q=>t=s→q=c):=by
 refine ⟨fun _=>rfl,fun _ _=>fZ,fun _=>zh6,fun x y hst hsb=>?_⟩;unfold iQ;dsimp only;rw [hst]
 cases decide (y.Station=s)
 ·exact hsb
 ·cases ha:x.Channels.any (fun k=>decide (k=c))
  ·exact List.nil_sublist _
  ·obtain ⟨k,hk,he⟩:=List.any_eq_true.1 ha;rw [List.any_eq_true.2 ⟨k,hsb.subset hk,he⟩];exact fQ
theorem FiltD.drop (s c:Int):FiltD (i3 s c) (fun t q=>¬t=s∨¬q=c):=by
 refine ⟨fun _=>rfl,fun x q=>?_,fun _=>List.filter_sublist,fun x y hst hsb=>?_⟩
 ·unfold i3;simp only [List.mem_filter,Bool.or_eq_true,decide_eq_true_eq]
 ·unfold i3;dsimp only;rw [hst];exact hsb.filter _
section
variable {p:GProblem}{a b d:List GDomain}{f:GDomain→GDomain}{φ:Int→Int→Prop}
theorem FiltD.subD (h:FiltD f φ):SubD (d.map f) d∧OrdD (d.map f) d:=by
 refine ⟨⟨List.length_map _,fun i hi=>?_⟩,fun i hi=>?_⟩
 ·rw [gr hi];exact ⟨h.st _,fun c hc=>((h.mem _ _).1 hc).1⟩
 ·rw [gr hi];exact h.sub _
theorem FiltD.monoD (h:FiltD f φ)(hs:SubD a b):SubD (a.map f) (b.map f):=by
 refine ⟨by rw [List.length_map,List.length_map];exact hs.1,fun i hi=>?_⟩;rw [List.length_map] at hi;rw [gr hi,gr (by rw [hs.1];exact hi)];have h2:=hs.2 i hi;refine ⟨by rw [h.st,h.st];exact h2.1,fun c hc=>?_⟩;have h3:=(h.mem _ _).1 hc;exact (h.mem _ _).2 ⟨h2.2 c h3.1,by rw [←h2.1];exact h3.2⟩
theorem la {m r:List GDomain×Bool}(hf:FiltD f φ)(h:PropD p d m)(hm:m.2=true)(hr:PropD p (m.1.map f) r):PropD p (d.map f) r:=by
 rcases h with ⟨_,h2,h3,h4⟩|⟨h1,_⟩
 ·have hsup:∀S,ClosedD p S→SubD S (d.map f)→SubD S (m.1.map f):=fun S hS hs=>by
   have h5:=h4 S hS (hs.trans hf.subD.1);refine ⟨by rw [List.length_map];exact h5.1,fun i hi=>?_⟩;rw [List.length_map] at hi; (have hid:i<d.length:=by rw [←h3.1.1];exact hi);rw [gr hi];have h6:=h5.2 i hi;refine ⟨by rw [hf.st];exact h6.1,fun k hk=>(hf.mem _ _).2 ⟨h6.2 k hk,?_⟩⟩;have h7:=(hs.2 i (by rw [List.length_map];exact hid)).2 k hk;rw [gr hid] at h7;rw [(h3.1.2 i hid).1];exact ((hf.mem _ _).1 h7).2
  rcases hr with ⟨g1,g2,g3,g4⟩|⟨g1,g2⟩
  ·refine .inl ⟨g1,g2,⟨g3.1.trans (hf.monoD h3.1),fun i hi=>?_⟩,fun S hS hs=>g4 S hS (hsup S hS hs)⟩;rw [List.length_map] at hi; (have hi':i<m.1.length:=by rw [h3.1.1];exact hi);have h8:=g3.2 i (by rw [List.length_map];exact hi');rw [gr hi'] at h8;rw [gr hi];exact h8.trans (hf.mono _ _ (h3.1.2 i hi).1 (h3.2 i hi))
  ·exact .inr ⟨g1,fun S hS hs=>g2 S hS (hsup S hS hs)⟩
 ·rw [h1] at hm;cases hm
def fK (keep:Bool)(c:GChoice):GDomain→GDomain:=bif j3 c then (bif keep then iQ c.Station c.Channel else i3 c.Station c.Channel) else id
def actQ (keep:Bool)(c:GChoice)(s q:Int):Prop:=j3 c=true→s=c.Station→(q=c.Channel↔keep=true)
theorem zdA (keep:Bool)(c:GChoice):FiltD (fK keep c) (actQ keep c):=by
 have key:∀ {φ ψ:Int→Int→Prop} {f:GDomain→GDomain},FiltD f φ→(∀s q,φ s q↔ψ s q)→FiltD f ψ:=fun h k=>⟨h.st,fun x q=>by rw [h.mem,k],h.sub,h.mono⟩;unfold fK actQ
 cases j3 c
 ·exact key mz (fun s q=>by simp)
 ·cases keep
  ·exact key (FiltD.drop _ _) (fun s q=>by simp;constructor <;> intro h <;> by_cases e:s=c.Station <;> simp_all)
  ·exact key (FiltD.keep _ _) (fun s q=>by simp)
theorem zln {fuel:Nat}(hf:100000≤fuel)(hok:eF p=true)(hd:SubD d p.Domains∧OrdD d p.Domains){m:List GDomain×Bool}(h:PropD p d m)(keep:Bool)(c:GChoice):∃r,mm fuel p m keep c=some (r,bif !j3 c then 2 else bif !m.2 then 8 else bif !fS p c.Station then 9 else 0)∧PropD p (d.map (fK keep c)) r:=by
 obtain ⟨hw,hbd,ht,hn⟩:=zfB hok;unfold mm
 cases hg:j3 c
 ·refine ⟨m,rfl,?_⟩; (have e:fK keep c=id:=by unfold fK;rw [hg];rfl);rw [e,List.map_id];exact h
 ·cases hm:m.2
  ·exact ⟨m,rfl,h.keepBad hm (zdA keep c).subD.1⟩
  ·cases hh:fS p c.Station
   ·refine ⟨m,rfl,?_⟩
    have e:d.map (fK keep c)=d:=by
     refine (List.map_congr_left (g:=id) fun x hx=>?_).trans (List.map_id _);obtain ⟨i,hi,rfl⟩:=fW hx; (have hi':i<p.Domains.length:=by rw [←hd.1.1];exact hi)
     have hne:¬(cH d i).Station=c.Station:=by
      rw [(hd.1.2 i hi').1];intro e;have:fS p c.Station=true:=List.any_eq_true.2 ⟨_,eh hi',by simpa using e⟩;rw [hh] at this;cases this
     unfold fK;rw [hg,cond_true]
     cases keep
     ·show i3 _ _ _=_
      unfold i3;have:(cH d i).Channels.filter (fun k=>decide (¬(cH d i).Station=c.Station)||decide (¬k=c.Channel))=(cH d i).Channels:=List.filter_eq_self.2 (fun k _=>by simp [hne]);rw [this];rfl
     ·show iQ _ _ _=_
      unfold iQ;rw [decide_eq_false hne];rfl
    rw [e];exact h
   ·have ho:=h.ord hm;have hol:=ho.2.trans hd.2 hd.1.1;have hlen:m.1.length=p.Domains.length:=ho.1.trans hd.1.1;have hb1:=hbd.ord hlen hol;have ht1:=zdI hlen hol;have hs:=(zdA keep c).subD (d:=m.1);have hb2:=hb1.ord hs.1.1 hs.2;have ht2:=zdI hs.1.1 hs.2;obtain ⟨r,h5,h6⟩:=zeM (fuel:=fuel) hw hb2 (by rw [hs.1.1];omega) a6;refine ⟨r,?_,la (zdA keep c) h hm h6⟩
    have e:(bif keep then zbW m.1 c.Station c.Channel else zby m.1 c.Station c.Channel)=some (m.1.map (fK keep c)):=by
     unfold fK;rw [hg]
     cases keep
     ·exact zl0 hb1.len (fun x hx=>(hb1.ch x hx).1)
     ·exact zkU hb1.len (fun x hx=>(hb1.ch x hx).1)
    simp only [Bool.not_true,cond_false];rw [e,Option.bind_some,h5];rfl
end
theorem zfw {l:List GChoice}:kR l=(List.range l.length).all (ln l):=by
 unfold kR;refine kj ?_;rw [zdV (ln l) (fun i next _=>?_),Bool.and_true];rw [zch];unfold ln
 show (bif !(inB (cH l i).Station 0 511)|| !(inB (cH l i).Channel 2 51) then false else _)=_
 cases inB (cH l i).Station 0 511 <;> cases inB (cH l i).Channel 2 51 <;> cases (decide (0<(i:Int))&&decide ((cH l i).Station≤(cH l (i - 1)).Station)) <;> rfl
def l8 (p:GProblem)(i:Nat)(n b:Nat):Prop:=∃j,j<i∧(cH p.Domains j).Station=(n:Int)∧(b=0∨(b:Int)∈(cH p.Domains j).Channels)
theorem znT {c b:Nat}(hc:c<64):((1#64) <<< c).getLsbD b=decide (b=c):=by
 rw [BitVec.getLsbD_shiftLeft];by_cases h:b=c
 ·subst h;simp [hc]
 ·by_cases h1:b<c
  ·simp [h1,h]
  ·(have:b - c≠0:=by omega);rw [decide_eq_false h];by_cases h2:b<64
   ·have e:(1#64).getLsbD (b - c)=false:=by
     rw [BitVec.getLsbD_one];simp;omega
    rw [e,Bool.and_false]
   ·simp [h2]
theorem zlY {p:GProblem}(hG:GG p):∃v,zbS p=some v∧∀n b,n<512→b<64→((Vec.get v n).getLsbD b=true↔l8 p p.Domains.length n b):=by
 unfold zbS;refine kj ?_;refine km (fun i (c:Vec 512 (BitVec 64))=>∀n b,n<512→b<64→((Vec.get c n).getLsbD b=true↔l8 p i n b)) (fun o=>∃v:Vec 512 (BitVec 64),o=some v∧∀n b,n<512→b<64→((Vec.get v n).getLsbD b=true↔l8 p p.Domains.length n b)) ?_ (fun v hv=>⟨v,rfl,hv⟩) (fun i c next hi hc hn=>?_)
 ·intro n b hn hb;rw [iM hn];constructor
  ·intro h;simp at h
  ·rintro ⟨j,hj,_⟩;omega
 have hs:=hG.st _ (eh hi);have hch:=hG.chs _ (eh hi);rw [fo a6]; (have hlt:(cH p.Domains i).Station.toNat<512:=by omega);refine km (fun k (e:Vec 512 (BitVec 64))=>∀n b,n<512→b<64→((Vec.get e n).getLsbD b=true↔l8 p i n b∨((cH p.Domains i).Station=(n:Int)∧(b=0∨∃q,q<k∧cH (cH p.Domains i).Channels q=(b:Int))))) (fun o=>∃v:Vec 512 (BitVec 64),o=some v∧∀n b,n<512→b<64→((Vec.get v n).getLsbD b=true↔l8 p p.Domains.length n b)) ?_ (fun e he=>hn e fun n b h1 h2=>?_) (fun k e next' hk he hn'=>?_)
 ·intro n b h1 h2;rw [fR hlt];by_cases e:n=(cH p.Domains i).Station.toNat
  ·rw [if_pos e,BitVec.getLsbD_one]; (have e':(cH p.Domains i).Station=(n:Int):=by omega);constructor
   ·intro h;simp at h;exact .inr ⟨e', .inl h⟩
   ·rintro (⟨j,hj,h3,_⟩|⟨_,h3|⟨q,hq,_⟩⟩)
    ·have:=hG.inc j i hj hi;omega
    ·simp [h3]
    ·omega
  ·rw [if_neg e,hc n b h1 h2]; (have e':¬(cH p.Domains i).Station=(n:Int):=by omega);simp [e']
 ·rw [he n b h1 h2];constructor
  ·rintro (⟨j,hj,h3⟩|⟨h3,h4⟩)
   ·exact ⟨j,by omega,h3⟩
   ·refine ⟨i,by omega,h3,h4.imp id ?_⟩;rintro ⟨q,hq,e⟩;rw [←e];exact eh hq
  ·rintro ⟨j,hj,h3,h4⟩;rcases Nat.lt_or_ge j i with h5|h5
   ·exact .inl ⟨j,h5,h3,h4⟩
   ·(obtain rfl:j=i:=by omega);refine .inr ⟨h3,h4.imp id fun h=>?_⟩;obtain ⟨q,hq,e⟩:=fW h;exact ⟨q,hq,e⟩
 ·have hc2:=hch.2 _ (eh hk);rw [fo a6];refine hn' _ fun n b h1 h2=>?_;rw [fR hlt];by_cases e:n=(cH p.Domains i).Station.toNat
  ·(have e':(cH p.Domains i).Station=(n:Int):=by omega);rw [if_pos e,BitVec.getLsbD_or,znT a6,Bool.or_eq_true,decide_eq_true_eq,←e,he n b h1 h2];constructor
   ·rintro ((h3|⟨h3,h4|⟨q,hq,h5⟩⟩)|h3)
    ·exact .inl h3
    ·exact .inr ⟨e', .inl h4⟩
    ·exact .inr ⟨e', .inr ⟨q,by omega,h5⟩⟩
    ·exact .inr ⟨e', .inr ⟨k,by omega,by omega⟩⟩
   ·rintro (h3|⟨h3,h4|⟨q,hq,h5⟩⟩)
    ·exact .inl (.inl h3)
    ·exact .inl (.inr ⟨e', .inl h4⟩)
    ·rcases Nat.lt_or_ge q k with h6|h6
     ·exact .inl (.inr ⟨e', .inr ⟨q,h6,h5⟩⟩)
     ·(obtain rfl:q=k:=by omega);exact .inr a6
  ·(have e':¬(cH p.Domains i).Station=(n:Int):=by omega);rw [if_neg e,he n b h1 h2];simp [e']
def TabN (p:GProblem)(v:Vec 512 (BitVec 64)):Prop:=∀n b,n<512→b<64→((Vec.get v n).getLsbD b=true↔l8 p p.Domains.length n b)
theorem TabN.zero {p:GProblem}{v:Vec 512 (BitVec 64)}(hG:GG p)(h:TabN p v){s:Int}(h0:0≤s∧s≤511):decide (((Vec.get v s.toNat).toNat:Int)=((0#64).toNat:Int))= !fS p s:=by
 have key:fS p s=true↔(Vec.get v s.toNat).getLsbD 0=true:=by
  rw [h _ _ a6 a6,d7];constructor
  ·rintro ⟨x,hx,e⟩;obtain ⟨j,hj,rfl⟩:=fW hx;exact ⟨j,hj,by omega, .inl rfl⟩
  ·rintro ⟨j,hj,e,_⟩;exact ⟨_,eh hj,by omega⟩
 have none:fS p s=false→∀b,b<64→(Vec.get v s.toNat).getLsbD b=false:=fun hf b hb=>by
  cases hg:(Vec.get v s.toNat).getLsbD b with
  |false=>rfl
  |true=>
   obtain ⟨j,hj,e,_⟩:=(h _ _ a6 hb).1 hg;have:fS p s=true:=d7.2 ⟨_,eh hj,by omega⟩;rw [hf] at this;cases this
 cases hh:fS p s with
 |true=>
  refine decide_eq_false fun e=>?_;have h1:=key.1 hh;have e2:Vec.get v s.toNat=0#64:=BitVec.eq_of_toNat_eq a6;rw [e2] at h1;simp at h1
 |false=>
  refine decide_eq_true ?_; (have e2:Vec.get v s.toNat=0#64:=BitVec.eq_of_getLsbD_eq fun b hb=>by rw [none hh b hb];simp);rw [e2]
def mQ (p:GProblem)(s c:Int):Bool:=p.Domains.any fun x=>decide (x.Station=s)&&x.Channels.any fun k=>decide (k=c)
theorem ik {p:GProblem}{s c:Int}:mQ p s c=true↔∃x∈p.Domains,x.Station=s∧c∈x.Channels:=by
 unfold mQ;simp only [List.any_eq_true,Bool.and_eq_true,decide_eq_true_eq];constructor
 ·rintro ⟨x,hx,h1,k,hk,rfl⟩;exact ⟨x,hx,h1,hk⟩
 ·rintro ⟨x,hx,h1,hk⟩;exact ⟨x,hx,h1,c,hk,rfl⟩
theorem znI {x:BitVec 64}{c:Nat}:decide ((((x >>> c) &&& (1#64)).toNat:Int)=((0#64).toNat:Int))= !x.getLsbD c:=by
 have e:((x >>> c) &&& (1#64))=bif x.getLsbD c then 1#64 else 0#64:=by
  refine BitVec.eq_of_getLsbD_eq fun b hb=>?_;rw [BitVec.getLsbD_and,BitVec.getLsbD_ushiftRight,BitVec.getLsbD_one];by_cases h0:b=0
  ·subst h0;cases x.getLsbD c <;> simp
  ·cases x.getLsbD c <;> simp [h0]
 rw [e]
 cases x.getLsbD c <;> rfl
theorem TabN.bit {p:GProblem}{v:Vec 512 (BitVec 64)}(h:TabN p v){s c:Int}(h0:0≤s∧s≤511)(h1:2≤c∧c≤51):(Vec.get v s.toNat).getLsbD c.toNat=mQ p s c:=by
 rw [Bool.eq_iff_iff,h _ _ a6 a6,ik];constructor
 ·rintro ⟨j,hj,e,h2|h2⟩
  ·omega
  ·exact ⟨_,eh hj,by omega,by rw [show c=((c.toNat:Nat):Int) by omega];exact h2⟩
 ·rintro ⟨x,hx,e,h2⟩;obtain ⟨j,hj,rfl⟩:=fW hx;exact ⟨j,hj,by omega, .inr (by rw [show ((c.toNat:Nat):Int)=c by omega];exact h2)⟩
def iy (p:GProblem)(g:List GChoice):Bool:=(List.range g.length).all (ln g)&&(List.range g.length).all fun i=>mQ p (cH g i).Station (cH g i).Channel
theorem ff {p:GProblem}{g:List GChoice}:iy p g=true↔ValidL g∧∀c∈g,mQ p c.Station c.Channel=true:=by
 unfold iy;rw [Bool.and_eq_true,eG,List.all_eq_true];constructor
 ·rintro ⟨h1,h2⟩;refine ⟨h1,fun c hc=>?_⟩;obtain ⟨i,hi,rfl⟩:=fW hc;exact h2 i (List.mem_range.2 hi)
 ·rintro ⟨h1,h2⟩;exact ⟨h1,fun i hi=>h2 _ (eh (List.mem_range.1 hi))⟩
theorem zg7 {p:GProblem}{t:GStore}{g:List GChoice}(h:TabN p t.domains):zaD t g=some (iy p g):=by
 unfold zaD iy;rw [zfw]
 cases hv:(List.range g.length).all (ln g) with
 |false=>rfl
 |true=>
  have hl:=eG.1 hv;simp only [dO,Nat.sub_zero,Bool.not_true,cond_false,Bool.true_and];refine (km (fun i _=>(List.range i).all (fun i=>mQ p (cH g i).Station (cH g i).Channel)=true) (fun o=>o=some ((List.range g.length).all fun i=>mQ p (cH g i).Station (cH g i).Channel)) rfl (fun _ h=>by rw [h]) (fun i _ next hi hI hn=>?_));have hg:=hl.good _ (eh hi);rw [fo a6,fo a6,znI,h.bit a6 a6]
  cases hc:mQ p (cH g i).Station (cH g i).Channel with
  |false=>
   have:(List.range g.length).all (fun i=>mQ p (cH g i).Station (cH g i).Channel)=false:=by
    rw [List.all_eq_false];exact ⟨i,List.mem_range.2 hi,by simp [hc]⟩
   rw [this];rfl
  |true=>exact hn () (by rw [List.range_succ,List.all_append,hI];simp [hc])
end Go.Proofs.YtgoeeefoinkepaaGreatDoor
