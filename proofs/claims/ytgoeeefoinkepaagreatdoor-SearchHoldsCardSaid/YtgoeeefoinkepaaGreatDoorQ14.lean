/- Yl Y1 Pw Cv Lc Ga Gg Ba Lq Na: shortened and put together by squeeze.py. -/
import Derived.Test.YtgoeeefoinkepaaGreatDoorQ13
set_option maxRecDepth 100000
set_option maxHeartbeats 4000000
set_option linter.unusedVariables false
set_option linter.unusedSectionVars false
set_option linter.unusedSimpArgs false
namespace Go.Proofs.YtgoeeefoinkepaaGreatDoor
open Go.RowKit
def kW (a:Int)(b:Int):GPair:=
 (GPair.mk a b 0 14 51)
theorem zd0 (F0:Frz)(w:World)(hF0:F0.At w)(a:Int)(b:Int):Calls Tryz.prog 44 #[.int .i64 a, .int .i64 b] w fun e w'=>e= .returned (.agg [.int .i64 ((kW a b).A), .int .i64 ((kW a b).B), .int .i64 ((kW a b).Offset), .int .i64 ((kW a b).Low), .int .i64 ((kW a b).High)].toArray)∧Below w.heap.size w w':=by
 obtain ⟨r,hk⟩:∃r,kW a b=r:=⟨_,rfl⟩;rw [hk];unfold kW at hk;obtain ⟨S0,F1,rfl,hS0,hp0⟩:=fk hF0;refine dA Tryz.func44 rfl rfl rfl hp0 ?_;refine df ?_;refine iD ?_;rintro _ _ ⟨g4,rfl,rfl⟩;refine du ?_;refine ef ?_;refine jo ?_;refine jW ?_;refine gj ?_;subst hk;exact q4O
def gU  : GProblem :=
 (GProblem.mk [(GDomain.mk 1 [14,15]),(GDomain.mk 2 [14,15]),(GDomain.mk 3 [14,15])] (GRules.mk [(kW 1 2),(kW 1 3),(kW 2 3)] [] []))
theorem zcN (F0 : Frz)(w : World)(hF0 : F0.At w)  : Calls Tryz.prog 23 #[] w fun e w' => ∃ (y : Value × List (List Value) × Value × Value × Value) (G : Frz), (SlD cK G y.1 2 y.2.1 ((gU).Domains) ∧ SlC G y.2.2.1 5 (((gU).Rules.Pairs).map cX) ∧ SlC G y.2.2.2.1 5 (((gU).Rules.Loads).map c4) ∧ SlC G y.2.2.2.2 4 (((gU).Rules.Caps).map dg)) ∧ e = .returned (.agg [y.1, y.2.2.1, y.2.2.2.1, y.2.2.2.2].toArray) ∧ Fx F0 w G w' := by
 obtain ⟨r,hk⟩:∃r,gU=r:=⟨_,rfl⟩;rw [hk];unfold gU at hk;obtain ⟨S0,F1,rfl,hS0,hp0⟩:=fk hF0;refine dA Tryz.func23 rfl rfl rfl hp0 ?_;refine df ?_;refine iD ?_;rintro _ _ ⟨g0,rfl,rfl⟩;refine du ?_;refine q01 ?_;rintro _ _ ⟨g1,rfl,rfl⟩;refine q4A ?_;rintro F2 ⟨le1_2,hz2⟩;refine iF ?_;have hf2:SlC F2.toFrz (.slice (some ⟨g1,0,none⟩) 2 2) 1 ([14,15].map eI):=(SlK.lit hz2 rfl (Nat.le_refl _) a7).toF (xs:=[14,15]) rfl (fun _=>rfl);refine q4w ?_;rintro _ _ ⟨g3,rfl,rfl⟩;refine q4A ?_;rintro F3 ⟨le2_3,hz3⟩;refine iF ?_;have le1_3:=le1_2.trans le2_3;have hf3:SlC F3.toFrz (.slice (some ⟨g3,0,none⟩) 2 2) 1 ([14,15].map eI):=(SlK.lit hz3 rfl (Nat.le_refl _) a7).toF (xs:=[14,15]) rfl (fun _=>rfl);refine q4w ?_;rintro _ _ ⟨g5,rfl,rfl⟩;refine q4A ?_;rintro F4 ⟨le3_4,hz4⟩;refine iF ?_;have le1_4:=le1_3.trans le3_4;have le2_4:=le2_3.trans le3_4;have hf4:SlC F4.toFrz (.slice (some ⟨g5,0,none⟩) 2 2) 1 ([14,15].map eI):=(SlK.lit hz4 rfl (Nat.le_refl _) a7).toF (xs:=[14,15]) rfl (fun _=>rfl);refine q4w ?_;rintro _ _ ⟨g7,rfl,rfl⟩;have hl7:OwnD cK F4.toFrz 2 [[.int .i64 1,(.slice (some ⟨g1,0,none⟩) 2 2)],[.int .i64 2,(.slice (some ⟨g3,0,none⟩) 2 2)],[.int .i64 3,(.slice (some ⟨g5,0,none⟩) 2 2)]] [(GDomain.mk 1 [14,15]),(GDomain.mk 2 [14,15]),(GDomain.mk 3 [14,15])]:=(dn (dn (dn (OwnD.nil _ _ 2) ⟨_,rfl,(SlC.mono hf2 le2_4)⟩) ⟨_,rfl,(SlC.mono hf3 le3_4)⟩) ⟨_,rfl,hf4⟩);refine c8 (cM rfl rfl rfl (fun w hw=>zd0 _ w (hw.fr (i:=2) rfl) 1 2)) ?_;refine fG ?_;refine c8 (cM rfl rfl rfl (fun w hw=>zd0 _ w (hw.fr (i:=2) rfl) 1 3)) ?_;refine fG ?_;refine c8 (cM rfl rfl rfl (fun w hw=>zd0 _ w (hw.fr (i:=2) rfl) 2 3)) ?_;refine fG ?_;refine q01 ?_;rintro _ _ ⟨g11,rfl,rfl⟩;refine jo ?_;refine jo ?_;refine eS (dH 2) ?_;refine fG ?_;refine gj ?_;refine kL (fun w hw=>hw.freezeR (i:=3) (j:=1) a7 rfl rfl) ?_;rintro F5 ⟨le4_5,hz5⟩;refine iF ?_;have le1_5:=le1_4.trans le4_5;have hf5:SlD cK F5.toFrz (.slice (some ⟨g7,0,none⟩) 3 3) 2 [[.int .i64 1,(.slice (some ⟨g1,0,none⟩) 2 2)],[.int .i64 2,(.slice (some ⟨g3,0,none⟩) 2 2)],[.int .i64 3,(.slice (some ⟨g5,0,none⟩) 2 2)]] [(GDomain.mk 1 [14,15]),(GDomain.mk 2 [14,15]),(GDomain.mk 3 [14,15])]:=(SlK.lit hz5 rfl (Nat.le_refl _) a7).toD (OwnD.mono (rep:=cK) (fun _ _ _ _=>GDomain.mono) hl7 le4_5) rfl;refine q3p ?_;rintro F6 ⟨le5_6,hz6⟩;refine iF ?_;have le1_6:=le1_5.trans le5_6;have hf6:SlC F6.toFrz (.slice (some ⟨g11,0,none⟩) 3 3) 5 ([(kW 1 2),(kW 1 3),(kW 2 3)].map cX):=(SlK.lit hz6 rfl (Nat.le_refl _) a7).toF (xs:=[(kW 1 2),(kW 1 3),(kW 2 3)]) rfl GPair.len;subst hk;exact nq 0 rfl rfl rfl rfl (fun w' hw=>⟨((.slice (some ⟨g7,0,none⟩) 3 3),[[.int .i64 1,(.slice (some ⟨g1,0,none⟩) 2 2)],[.int .i64 2,(.slice (some ⟨g3,0,none⟩) 2 2)],[.int .i64 3,(.slice (some ⟨g5,0,none⟩) 2 2)]],(.slice (some ⟨g11,0,none⟩) 3 3),(.slice none 0 0),(.slice none 0 0)),F6.toFrz,⟨(SlD.mono (rep:=cK) (fun _ _ _ _=>GDomain.mono) hf5 le5_6),hf6,(SlC.nil _ 5),(SlC.nil _ 4)⟩,rfl,gZ hw (i:=1) rfl hS0 le1_6⟩)
def zcx (fuel:Nat)(p:GProblem):Option Bool:=
 (zcy fuel p 9 40).bind fun r4=>
 some r4
theorem zhG (F0:Frz)(w:World)(hF0:F0.At w)(p:GProblem)(vp_0:Value)(cp_0:List (List Value))(hp_0:SlD cK F0 vp_0 2 cp_0 p.Domains)(vp_1:Value)(hp_1:SlC F0 vp_1 5 (p.Rules.Pairs.map cX))(vp_2:Value)(hp_2:SlC F0 vp_2 5 (p.Rules.Loads.map c4))(vp_3:Value)(hp_3:SlC F0 vp_3 4 (p.Rules.Caps.map dg))(fuel:Nat)(r:Bool)(hr:zcx fuel p=some r):Calls Tryz.prog 14 #[.agg [vp_0,vp_1,vp_2,vp_3].toArray] w fun e w'=>e= .returned (.bool r)∧Below w.heap.size w w':=by
 have hk:=hr;unfold zcx at hk;haveI:=hp_0.1.oneC;haveI:=hp_1.oneC;haveI:=hp_2.oneC;haveI:=hp_3.oneC;obtain ⟨S0,F1,rfl,hS0,hp0⟩:=fk hF0;refine dA Tryz.func14 rfl rfl rfl hp0 ?_;refine iL ?_;rintro _ _ ⟨g1,rfl,rfl⟩;refine jr ?_;have hq:=fu hk;clear hk;obtain ⟨r4,hr4,hk⟩:=hq; (try dsimp only at hk);refine fi ?_;refine iN ?_;refine c8 (cM rfl rfl rfl (fun w hw=>zhI _ w (hw.fr (i:=1) rfl) p vp_0 cp_0 hp_0 vp_1 hp_1 vp_2 hp_2 vp_3 hp_3 9 40 fuel r4 hr4)) ?_;refine fG ?_;refine fI ?_;obtain rfl:=Option.some.inj hk;exact eh
def zb7 (fuel:Nat)(p:GProblem)(hints:List GChoice)(budget:Int)(want:GResult):Option Bool:=
 (zb8 fuel p hints budget).bind fun r15=>
 some ((decide (r15.2=0))&&(zcY r15.1 want))
theorem zbK (F0:Frz)(w:World)(hF0:F0.At w)(p:GProblem)(vp_0:Value)(cp_0:List (List Value))(hp_0:SlD cK F0 vp_0 2 cp_0 p.Domains)(vp_1:Value)(hp_1:SlC F0 vp_1 5 (p.Rules.Pairs.map cX))(vp_2:Value)(hp_2:SlC F0 vp_2 5 (p.Rules.Loads.map c4))(vp_3:Value)(hp_3:SlC F0 vp_3 4 (p.Rules.Caps.map dg))(hints:List GChoice)(vhints:Value)(hhints:SlC F0 vhints 2 (hints.map cH))(budget:Int)(want:GResult)(vwant_1:Value)(hwant_1:SlC F0 vwant_1 2 (want.Assignment.map cH))(vwant_2:Value)(cwant_2:List (List Value))(hwant_2:SlD cJ F0 vwant_2 1 cwant_2 want.Learned)(htab:Tab w)(fuel:Nat)(hfu:100000≤fuel)(r:Bool)(hr:zb7 fuel p hints budget want=some r):Calls Tryz.prog 24 #[.agg [vp_0,vp_1,vp_2,vp_3].toArray,vhints, .int .i64 budget, .agg [.int .i64 want.Kind,vwant_1,vwant_2, .int .i64 want.Steps].toArray] w fun e w'=>e= .returned (.bool r)∧Below w.heap.size w w':=by
 have hk:=hr;unfold zb7 at hk;haveI:=hp_0.1.oneC;haveI:=hp_1.oneC;haveI:=hp_2.oneC;haveI:=hp_3.oneC;haveI:=hhints.oneC;haveI:=hwant_1.oneC;haveI:=hwant_2.1.oneC;obtain ⟨S0,F1,rfl,hS0,hp0⟩:=fk hF0;have hM0:¬(fun _:Nat=>False) 0:=fun h=>h;have htk:∀ {hs:HS} {w':World},Hp w (fun _=>False) hs w'→Tab w':=fun hw=>htab.keptF hw;refine dA Tryz.func24 rfl rfl rfl hp0 ?_;refine iL ?_;rintro _ _ ⟨g4,rfl,rfl⟩;refine c8 (dC) ?_;rintro _ _ ⟨g7,rfl,rfl⟩;refine jr ?_;have hq:=fu hk;clear hk;obtain ⟨r15,hr15,hk⟩:=hq; (try dsimp only at hk);refine fi ?_;refine q2I ?_;refine ef ?_;refine c8 (eP 2 rfl rfl rfl rfl (fun w hw hF=>zez _ w hF p vp_0 cp_0 hp_0 vp_1 hp_1 vp_2 hp_2 vp_3 hp_3 hints vhints hhints budget (htab.keptF hw) fuel hfu r15 hr15)) ?_;rintro _ _ ⟨⟨v15_0_1,v15_0_2,cs15_0_2⟩,F2,le1_2,⟨hf15_0_1,hf15_0_2⟩,rfl,rfl⟩;dsimp only at hf15_0_1 hf15_0_2 ⊢;haveI:=hf15_0_1.oneC;haveI:=hf15_0_2.1.oneC;refine ft ?_;refine iD ?_;rintro _ _ ⟨g9,rfl,rfl⟩;refine jW ?_;refine jr ?_;refine c6 (ι:=Unit) (fun z=>[(8, .bool ((decide (r15.2=0))&&(zcY r15.1 want)))]) (fun z=>[.row g9 46 [.int .i64 r15.1.Kind,v15_0_1,v15_0_2, .int .i64 r15.1.Steps], .row g7 46 [.int .i64 want.Kind,vwant_1,vwant_2, .int .i64 want.Steps], .row g4 31 [vp_0,vp_1,vp_2,vp_3], .fr F2]) (fun z=>True) ?_ ?_
 ·refine nv ?_;refine dj rfl rfl rfl (fun h1=>?_) (fun h1=>?_)
  ·have p1:=of_decide_eq_true h1;refine iN ?_;refine q2I ?_;refine c8 (cM rfl rfl rfl (fun w hw=>zh7 _ w (hw.fr (i:=3) rfl) r15.1 v15_0_1 hf15_0_1 v15_0_2 cs15_0_2 hf15_0_2 want vwant_1 (SlC.mono hwant_1 le1_2) vwant_2 cwant_2 (SlD.mono (rep:=cJ) (fun _ _ _ _=>R_List_GChoice.mono) hwant_2 le1_2))) ?_;refine q4n ?_;exact q4P
  ·have p1:=of_decide_eq_false h1;refine mO ?_;exact q4K
 ·refine mM ?_;obtain rfl:=Option.some.inj hk;exact eh
def zbn (fuel : Nat)  : Option Bool :=
 (za3 [(GDomain.mk 1 [14,15,16]),(GDomain.mk 2 [14]),(GDomain.mk 3 [14,15]),(GDomain.mk 4 [15,16])] [(GChoice.mk 3 15)]).bind fun r18=>
 (bif (((decide (¬r18.2=0))||(decide (¬r18.1.Station=3)))||(decide (¬r18.1.Channel=15))) then
  some false
  else
  eG (0≤2∧2≤(((gU).Rules.Pairs).length:Int)) <|
  (zb7 fuel (gU) [] 0 (GResult.mk 0 [] [] 0)).bind fun r50=>
  dQ (fun (x_4:Bool)=>
   some x_4)
  (fun k5=>
   (bif r50 then
    eG (0≤1∧1≤([(GChoice.mk 1 14),(GChoice.mk 2 15),(GChoice.mk 3 15)].length:Int)) <|
    (zb7 fuel (gU) [] 1 (GResult.mk 2 [] [([(GChoice.mk 1 14),(GChoice.mk 2 15),(GChoice.mk 3 15)].take 1),[]] 1)).bind fun r57=>
    (bif r57 then
     (zb7 fuel (GProblem.mk ((gU).Domains) (GRules.mk (((gU).Rules.Pairs).take 2) ((gU).Rules.Loads) ((gU).Rules.Caps))) [] 1 (GResult.mk 1 [(GChoice.mk 1 14),(GChoice.mk 2 15),(GChoice.mk 3 15)] [] 1)).bind fun r63=>
     (bif r63 then
      eG (0≤1∧1≤([(GChoice.mk 1 15),(GChoice.mk 2 14),(GChoice.mk 3 14)].length:Int)) <|
      (zb7 fuel (GProblem.mk ((gU).Domains) (GRules.mk (((gU).Rules.Pairs).take 2) ((gU).Rules.Loads) ((gU).Rules.Caps))) ([(GChoice.mk 1 15),(GChoice.mk 2 14),(GChoice.mk 3 14)].take 1) 1 (GResult.mk 1 [(GChoice.mk 1 15),(GChoice.mk 2 14),(GChoice.mk 3 14)] [] 1)).bind fun r71=>
      k5 r71
      else
      k5 false)
     else
     k5 false)
    else
    k5 false)))
theorem zc3 (F0 : Frz)(w : World)(hF0 : F0.At w)  (htab : Tab w)(fuel : Nat)(hfu : 100000 ≤ fuel)(r : Bool)(hr : zbn fuel = some r) : Calls Tryz.prog 9 #[] w fun e w' => e = .returned (.bool r) ∧ Below w.heap.size w w' := by
 have hk:=hr;unfold zbn at hk;obtain ⟨S0,F1,rfl,hS0,hp0⟩:=fk hF0;have hM0:¬(fun _:Nat=>False) 0:=fun h=>h;have htk:∀ {hs:HS} {w':World},Hp w (fun _=>False) hs w'→Tab w':=fun hw=>htab.keptF hw;refine dA Tryz.func9 rfl rfl rfl hp0 ?_;refine fA ?_;have hq:=fu hk;clear hk;obtain ⟨r18,hr18,hk⟩:=hq; (try dsimp only at hk);refine fi ?_;refine q01 ?_;rintro _ _ ⟨g7,rfl,rfl⟩;refine q2e ?_;rintro F2 ⟨le1_2,hz2⟩;refine iF ?_;have hf2:SlC F2.toFrz (.slice (some ⟨g7,0,none⟩) 3 3) 1 ([14,15,16].map eI):=(SlK.lit hz2 rfl (Nat.le_refl _) a7).toF (xs:=[14,15,16]) rfl (fun _=>rfl);refine q4w ?_;rintro _ _ ⟨g9,rfl,rfl⟩;refine q2e ?_;rintro F3 ⟨le2_3,hz3⟩;refine iF ?_;have hf3:SlC F3.toFrz (.slice (some ⟨g9,0,none⟩) 1 1) 1 ([14].map eI):=(SlK.lit hz3 rfl (Nat.le_refl _) a7).toF (xs:=[14]) rfl (fun _=>rfl);refine q4w ?_;rintro _ _ ⟨g11,rfl,rfl⟩;refine q2e ?_;rintro F4 ⟨le3_4,hz4⟩;refine iF ?_;have le2_4:=le2_3.trans le3_4;have hf4:SlC F4.toFrz (.slice (some ⟨g11,0,none⟩) 2 2) 1 ([14,15].map eI):=(SlK.lit hz4 rfl (Nat.le_refl _) a7).toF (xs:=[14,15]) rfl (fun _=>rfl);refine q4w ?_;rintro _ _ ⟨g13,rfl,rfl⟩;refine q2e ?_;rintro F5 ⟨le4_5,hz5⟩;refine iF ?_;have le2_5:=le2_4.trans le4_5;have le3_5:=le3_4.trans le4_5;have hf5:SlC F5.toFrz (.slice (some ⟨g13,0,none⟩) 2 2) 1 ([15,16].map eI):=(SlK.lit hz5 rfl (Nat.le_refl _) a7).toF (xs:=[15,16]) rfl (fun _=>rfl);refine q4w ?_;rintro _ _ ⟨g15,rfl,rfl⟩;have hl15:OwnD cK F5.toFrz 2 [[.int .i64 1,(.slice (some ⟨g7,0,none⟩) 3 3)],[.int .i64 2,(.slice (some ⟨g9,0,none⟩) 1 1)],[.int .i64 3,(.slice (some ⟨g11,0,none⟩) 2 2)],[.int .i64 4,(.slice (some ⟨g13,0,none⟩) 2 2)]] [(GDomain.mk 1 [14,15,16]),(GDomain.mk 2 [14]),(GDomain.mk 3 [14,15]),(GDomain.mk 4 [15,16])]:=(dn (dn (dn (dn (OwnD.nil _ _ 2) ⟨_,rfl,(SlC.mono hf2 le2_5)⟩) ⟨_,rfl,(SlC.mono hf3 le3_5)⟩) ⟨_,rfl,(SlC.mono hf4 le4_5)⟩) ⟨_,rfl,hf5⟩);refine q2e ?_;rintro F6 ⟨le5_6,hz6⟩;refine iF ?_;have hf6:SlD cK F6.toFrz (.slice (some ⟨g15,0,none⟩) 4 4) 2 [[.int .i64 1,(.slice (some ⟨g7,0,none⟩) 3 3)],[.int .i64 2,(.slice (some ⟨g9,0,none⟩) 1 1)],[.int .i64 3,(.slice (some ⟨g11,0,none⟩) 2 2)],[.int .i64 4,(.slice (some ⟨g13,0,none⟩) 2 2)]] [(GDomain.mk 1 [14,15,16]),(GDomain.mk 2 [14]),(GDomain.mk 3 [14,15]),(GDomain.mk 4 [15,16])]:=(SlK.lit hz6 rfl (Nat.le_refl _) a7).toD (OwnD.mono (rep:=cK) (fun _ _ _ _=>GDomain.mono) hl15 le5_6) rfl;refine q4w ?_;rintro _ _ ⟨g17,rfl,rfl⟩;refine q2e ?_;rintro F7 ⟨le6_7,hz7⟩;refine iF ?_;have hf7:SlC F7.toFrz (.slice (some ⟨g17,0,none⟩) 1 1) 2 ([(GChoice.mk 3 15)].map cH):=(SlK.lit hz7 rfl (Nat.le_refl _) a7).toF (xs:=[(GChoice.mk 3 15)]) rfl GChoice.len;refine c8 (cM rfl rfl rfl (fun w hw=>zdk _ w (hw.fr (i:=0) rfl) [(GDomain.mk 1 [14,15,16]),(GDomain.mk 2 [14]),(GDomain.mk 3 [14,15]),(GDomain.mk 4 [15,16])] (.slice (some ⟨g15,0,none⟩) 4 4) [[.int .i64 1,(.slice (some ⟨g7,0,none⟩) 3 3)],[.int .i64 2,(.slice (some ⟨g9,0,none⟩) 1 1)],[.int .i64 3,(.slice (some ⟨g11,0,none⟩) 2 2)],[.int .i64 4,(.slice (some ⟨g13,0,none⟩) 2 2)]] (SlD.mono (rep:=cK) (fun _ _ _ _=>GDomain.mono) hf6 le6_7) [(GChoice.mk 3 15)] (.slice (some ⟨g17,0,none⟩) 1 1) hf7 r18 hr18)) ?_;refine fG ?_;refine ft ?_;refine iD ?_;rintro _ _ ⟨g1,rfl,rfl⟩;refine jW ?_;refine q2o ?_;refine c6 (ι:=Unit) (fun z=>[(32, .bool (((decide (¬r18.2=0))||(decide (¬r18.1.Station=3)))||(decide (¬r18.1.Channel=15))))]) (fun z=>[.row g1 34 [.int .i64 r18.1.Station, .int .i64 r18.1.Channel], .fr F7]) (fun z=>True) ?_ ?_
 ·refine nv ?_;refine dj rfl rfl rfl (fun h1=>?_) (fun h1=>?_)
  ·have p1:=of_decide_eq_true h1;refine TL.run 9 rfl ?_;refine ep ?_;exact cP () trivial (.b (gk (gk h1)).symm .nil) (List.Sublist.refl _)
  ·have p1:=of_decide_eq_false h1;refine lr ?_;refine dj rfl rfl rfl (fun h2=>?_) (fun h2=>?_)
   ·have p2:=of_decide_eq_true h2;refine mn ?_;exact cP () trivial (.b (gk (iE h1 h2)).symm .nil) (List.Sublist.refl _)
   ·have p2:=of_decide_eq_false h2;refine eB ?_;refine ef ?_;refine ep ?_;exact cP () trivial (.b (f9 (iE h1 h2)) .nil) (List.Sublist.refl _)
 ·rintro _ _;refine T.cond rfl (fun h3=>?_) (fun h3=>?_)
  ·replace hk:=dy hk h3;refine jc ?_;obtain rfl:=Option.some.inj hk;exact eh
  ·have p3:=h3; (try simp only [cT] at p3);replace hk:=dz hk h3;refine ja ?_;refine c8 (eP 1 rfl rfl rfl rfl (fun w hw hF=>zcN _ w hF )) ?_;rintro _ _ ⟨⟨v33_0_0,cs33_0_0,v33_0_1,v33_0_2,v33_0_3⟩,F8,le7_8,⟨hf33_0_0,hf33_0_1,hf33_0_2,hf33_0_3⟩,rfl,rfl⟩;dsimp only at hf33_0_0 hf33_0_1 hf33_0_2 hf33_0_3 ⊢;haveI:=hf33_0_0.1.oneC;haveI:=hf33_0_1.oneC;haveI:=hf33_0_2.oneC;haveI:=hf33_0_3.oneC;refine iD ?_;rintro _ _ ⟨g3,rfl,rfl⟩;refine ms ?_;have hq:(0≤2∧2≤(((gU).Rules.Pairs).length:Int))∧_:=gQ hk;clear hk;obtain ⟨g37h,hk⟩:=hq; (try dsimp only at hk);refine fi ?_;refine fg ?_;refine eB ?_;refine cL (kN (i:=2) rfl rfl rfl hf33_0_1 (List.length_map _) (show (2:Int)=((2:Nat):Int) from rfl) a6) ?_;have hs37_:SlC F8.toFrz (jl v33_0_1 0 2 5) 5 ((((gU).Rules.Pairs).take 2).map cX):=hf33_0_1.sliceh (i:=2) a6;haveI:=hs37_.oneC;refine fg ?_;refine fg ?_;refine eS (ed 0 rfl rfl rfl rfl b2) ?_;refine fG ?_;refine du ?_;refine jo ?_;refine jo ?_;refine q4w ?_;rintro _ _ ⟨g43,rfl,rfl⟩;refine gn ?_;refine jo ?_;refine jo ?_;refine q4w ?_;rintro _ _ ⟨g47,rfl,rfl⟩;refine jr ?_;refine kO (fun w hw=>hw.freezeR (i:=4) (j:=1) a7 rfl rfl) ?_;rintro F9 ⟨le8_9,hz9⟩;refine iF ?_;have hf9:SlC F9.toFrz (.slice (some ⟨g43,0,none⟩) 3 3) 2 ([(GChoice.mk 1 14),(GChoice.mk 2 15),(GChoice.mk 3 15)].map cH):=(SlK.lit hz9 rfl (Nat.le_refl _) a7).toF (xs:=[(GChoice.mk 1 14),(GChoice.mk 2 15),(GChoice.mk 3 15)]) rfl GChoice.len;refine kO (fun w hw=>hw.freezeR (i:=3) (j:=0) a7 rfl rfl) ?_;rintro F10 ⟨le9_10,hz10⟩;refine iF ?_;have le8_10:=le8_9.trans le9_10;have hf10:SlC F10.toFrz (.slice (some ⟨g47,0,none⟩) 3 3) 2 ([(GChoice.mk 1 15),(GChoice.mk 2 14),(GChoice.mk 3 14)].map cH):=(SlK.lit hz10 rfl (Nat.le_refl _) a7).toF (xs:=[(GChoice.mk 1 15),(GChoice.mk 2 14),(GChoice.mk 3 14)]) rfl GChoice.len;have hq:=fu hk;clear hk;obtain ⟨r50,hr50,hk⟩:=hq; (try dsimp only at hk);have hq:=eD hk;clear hk;obtain ⟨k5,hk5,hk⟩:=hq; (try dsimp only at hk);refine c6 (ι:=Bool×FzB w (fun _=>False) S0) (fun z=>[(0, .bool z.1)]) (fun z=>[.fr z.2]) (fun z=>k5 z.1=some r∧F10.toFrz.Le z.2.toFrz) ?_ ?_
   ·refine dF (.still 1 (.eff 0 (.eff 2 (.still 3 (.still 5 (.still 6 (.two 4 7 (.eff 7 (.still 8 (.eff 9 (sN 10 5 (.eff 15 (sN 16 7 (.eff 23 (.still 24 (.still 25 .done))))))))) (.still 8 (.eff 4 (.eff 9 (sN 10 5 (.eff 15 (sN 16 7 (.eff 23 (.still 24 (.still 25 .done)))))))))))))))) _ a8 (List.Sublist.refl _) ?_;refine m7 ?_;refine cR rfl (Wt.none) rfl rfl (eP 2 rfl rfl rfl rfl (fun w hw hF=>zcN _ w hF )) ?_;rintro _ _ ⟨⟨v48_0_0,cs48_0_0,v48_0_1,v48_0_2,v48_0_3⟩,F12,le10_12,⟨hf48_0_0,hf48_0_1,hf48_0_2,hf48_0_3⟩,rfl,rfl⟩;dsimp only at hf48_0_0 hf48_0_1 hf48_0_2 hf48_0_3 ⊢;have le8_12:=le8_10.trans le10_12;have le9_12:=le9_10.trans le10_12;haveI:=hf48_0_0.1.oneC;haveI:=hf48_0_1.oneC;haveI:=hf48_0_2.oneC;haveI:=hf48_0_3.oneC;refine ⟨(fun w hw=>(hw.frLe (i:=2) rfl le10_12).sub Sx),?_⟩;refine dw ?_;refine cR rfl (Wt.none) rfl rfl (cM rfl rfl rfl (fun w hw=>zbK _ w (hw.fr (i:=2) rfl) (gU) v48_0_0 cs48_0_0 hf48_0_0 v48_0_1 hf48_0_1 v48_0_2 hf48_0_2 v48_0_3 hf48_0_3 [] (.slice none 0 0) (SlC.nil _ 2) 0 (GResult.mk 0 [] [] 0) (.slice none 0 0) (SlC.nil _ 2) (.slice none 0 0) [] (SlD.nil _ _ 1) (htab.keptF hw) fuel hfu r50 hr50)) ?_;refine fG ?_;refine ⟨(fun w hw=>(hw.frLe (i:=2) rfl le10_12).sub Sx),?_⟩;refine eY ?_;refine dt rfl rfl rfl rfl (fun h6=>?_) (fun h6=>?_)
    ·replace hk:=dy hk h6;refine eY ?_;have hq:(0≤1∧1≤([(GChoice.mk 1 14),(GChoice.mk 2 15),(GChoice.mk 3 15)].length:Int))∧_:=gQ hk;clear hk;obtain ⟨g54h,hk⟩:=hq;refine cO rfl (kN (i:=1) rfl rfl rfl (SlC.mono hf9 le9_12) (List.length_map _) (show (1:Int)=((1:Nat):Int) from rfl) a6) ?_;have hs54_:SlC F9.toFrz (jl (.slice (some ⟨g43,0,none⟩) 3 3) 0 1 2) 2 (([(GChoice.mk 1 14),(GChoice.mk 2 15),(GChoice.mk 3 15)].take 1).map cH):=hf9.sliceh (i:=1) a6;haveI:=hs54_.oneC;refine TS.two ?_ ?_
     ·refine cR rfl (Wt.some) rfl rfl (eP 2 rfl rfl rfl rfl (fun w hw hF=>zcN _ w hF )) ?_;rintro _ _ ⟨⟨v52_0_0,cs52_0_0,v52_0_1,v52_0_2,v52_0_3⟩,F13,le12_13,⟨hf52_0_0,hf52_0_1,hf52_0_2,hf52_0_3⟩,rfl,rfl⟩;dsimp only at hf52_0_0 hf52_0_1 hf52_0_2 hf52_0_3 ⊢;have le8_13:=le8_12.trans le12_13;have le9_13:=le9_12.trans le12_13;have le10_13:=le10_12.trans le12_13;haveI:=hf52_0_0.1.oneC;haveI:=hf52_0_1.oneC;haveI:=hf52_0_2.oneC;haveI:=hf52_0_3.oneC;refine ⟨(fun w hw=>(hw.frLe (i:=2) rfl le10_13).sub Sx),?_⟩;refine dw ?_;refine cR rfl (Wt.some) rfl rfl (Ew.buildSlice rfl rfl rfl a7) ?_;rintro _ _ ⟨g55,rfl,rfl⟩;have hl55:OwnD cJ F13.toFrz 1 [[(jl (.slice (some ⟨g43,0,none⟩) 3 3) 0 1 2)],[(.slice none 0 0)]] [([(GChoice.mk 1 14),(GChoice.mk 2 15),(GChoice.mk 3 15)].take 1),[]]:=(dn (dn (OwnD.nil _ _ 1) ⟨_,rfl,(SlC.mono hs54_ le9_13)⟩) ⟨_,rfl,(SlC.nil _ 2)⟩);refine ⟨(fun w hw=>(hw.frLe (i:=3) rfl le10_13).sub Sx),?_⟩;refine jR (fun w hw=>hw.freezeR (i:=3) (j:=0) a7 rfl rfl) ?_;rintro F14 ⟨le13_14,hz14⟩;refine iF ?_;have le8_14:=le8_13.trans le13_14;have le9_14:=le9_13.trans le13_14;have le10_14:=le10_13.trans le13_14;have hf14:SlD cJ F14.toFrz (.slice (some ⟨g55,0,none⟩) 2 2) 1 [[(jl (.slice (some ⟨g43,0,none⟩) 3 3) 0 1 2)],[(.slice none 0 0)]] [([(GChoice.mk 1 14),(GChoice.mk 2 15),(GChoice.mk 3 15)].take 1),[]]:=(SlK.lit hz14 rfl (Nat.le_refl _) a7).toD (OwnD.mono (rep:=cJ) (fun _ _ _ _=>R_List_GChoice.mono) hl55 le13_14) rfl;refine m7 ?_;have hq:=fu hk;clear hk;obtain ⟨r57,hr57,hk⟩:=hq;refine cR rfl (Wt.some) rfl rfl (cM rfl rfl rfl (fun w hw=>zbK _ w (hw.fr (i:=2) rfl) (gU) v52_0_0 cs52_0_0 (SlD.mono (rep:=cK) (fun _ _ _ _=>GDomain.mono) hf52_0_0 le13_14) v52_0_1 (SlC.mono hf52_0_1 le13_14) v52_0_2 (SlC.mono hf52_0_2 le13_14) v52_0_3 (SlC.mono hf52_0_3 le13_14) [] (.slice none 0 0) (SlC.nil _ 2) 1 (GResult.mk 2 [] [([(GChoice.mk 1 14),(GChoice.mk 2 15),(GChoice.mk 3 15)].take 1),[]] 1) (.slice none 0 0) (SlC.nil _ 2) (.slice (some ⟨g55,0,none⟩) 2 2) [[(jl (.slice (some ⟨g43,0,none⟩) 3 3) 0 1 2)],[(.slice none 0 0)]] hf14 (htab.keptF hw) fuel hfu r57 hr57)) ?_;refine q4j ?_;refine gG ?_;refine dt rfl rfl rfl rfl (fun h7=>?_) (fun h7=>?_)
      ·replace hk:=dy hk h7;refine jf ?_;refine eY ?_;refine m7 ?_;have hq:=fu hk;clear hk;obtain ⟨r63,hr63,hk⟩:=hq;refine cR rfl (Wt.some) rfl rfl (cM rfl rfl rfl (fun w hw=>zbK _ w (hw.fr (i:=2) rfl) (GProblem.mk ((gU).Domains) (GRules.mk (((gU).Rules.Pairs).take 2) ((gU).Rules.Loads) ((gU).Rules.Caps))) v33_0_0 cs33_0_0 (SlD.mono (rep:=cK) (fun _ _ _ _=>GDomain.mono) hf33_0_0 le8_14) (jl v33_0_1 0 2 5) (SlC.mono hs37_ le8_14) v33_0_2 (SlC.mono hf33_0_2 le8_14) v33_0_3 (SlC.mono hf33_0_3 le8_14) [] (.slice none 0 0) (SlC.nil _ 2) 1 (GResult.mk 1 [(GChoice.mk 1 14),(GChoice.mk 2 15),(GChoice.mk 3 15)] [] 1) (.slice (some ⟨g43,0,none⟩) 3 3) (SlC.mono hf9 le9_14) (.slice none 0 0) [] (SlD.nil _ _ 1) (htab.keptF hw) fuel hfu r63 hr63)) ?_;refine q4j ?_;refine gG ?_;refine dt rfl rfl rfl rfl (fun h8=>?_) (fun h8=>?_)
       ·replace hk:=dy hk h8;refine jf ?_;refine eY ?_;have hq:(0≤1∧1≤([(GChoice.mk 1 15),(GChoice.mk 2 14),(GChoice.mk 3 14)].length:Int))∧_:=gQ hk;clear hk;obtain ⟨g68h,hk⟩:=hq;refine cO rfl (kN (i:=1) rfl rfl rfl (SlC.mono hf10 le10_14) (List.length_map _) (show (1:Int)=((1:Nat):Int) from rfl) a6) ?_;have hs68_:SlC F10.toFrz (jl (.slice (some ⟨g47,0,none⟩) 3 3) 0 1 2) 2 (([(GChoice.mk 1 15),(GChoice.mk 2 14),(GChoice.mk 3 14)].take 1).map cH):=hf10.sliceh (i:=1) a6;haveI:=hs68_.oneC;refine eY ?_;refine m7 ?_;have hq:=fu hk;clear hk;obtain ⟨r71,hr71,hk⟩:=hq;refine cR rfl (Wt.some) rfl rfl (cM rfl rfl rfl (fun w hw=>zbK _ w (hw.fr (i:=2) rfl) (GProblem.mk ((gU).Domains) (GRules.mk (((gU).Rules.Pairs).take 2) ((gU).Rules.Loads) ((gU).Rules.Caps))) v33_0_0 cs33_0_0 (SlD.mono (rep:=cK) (fun _ _ _ _=>GDomain.mono) hf33_0_0 le8_14) (jl v33_0_1 0 2 5) (SlC.mono hs37_ le8_14) v33_0_2 (SlC.mono hf33_0_2 le8_14) v33_0_3 (SlC.mono hf33_0_3 le8_14) ([(GChoice.mk 1 15),(GChoice.mk 2 14),(GChoice.mk 3 14)].take 1) (jl (.slice (some ⟨g47,0,none⟩) 3 3) 0 1 2) (SlC.mono hs68_ le10_14) 1 (GResult.mk 1 [(GChoice.mk 1 15),(GChoice.mk 2 14),(GChoice.mk 3 14)] [] 1) (.slice (some ⟨g47,0,none⟩) 3 3) (SlC.mono hf10 le10_14) (.slice none 0 0) [] (SlD.nil _ _ 1) (htab.keptF hw) fuel hfu r71 hr71)) ?_;refine q4j ?_;refine jt ?_;refine mN ?_;exact cP (r71,F14) ⟨hk,le10_14⟩ (.c .nil) (List.Sublist.refl _)
       ·replace hk:=dz hk h8;refine TS.run 5 rfl ?_;refine gK ?_;refine jt ?_;refine mN ?_;exact cP (false,F14) ⟨hk,le10_14⟩ (.c .nil) (List.Sublist.refl _)
      ·replace hk:=dz hk h7;refine ik ?_;refine q4t ?_;exact cP (false,F14) ⟨hk,le10_14⟩ (.c .nil) (List.Sublist.refl _)
     ·refine cR rfl (Wt.some) rfl rfl (Ew.buildSlice rfl rfl rfl a7) ?_;rintro _ _ ⟨g55,rfl,rfl⟩;have hl55:OwnD cJ F12.toFrz 1 [[(jl (.slice (some ⟨g43,0,none⟩) 3 3) 0 1 2)],[(.slice none 0 0)]] [([(GChoice.mk 1 14),(GChoice.mk 2 15),(GChoice.mk 3 15)].take 1),[]]:=(dn (dn (OwnD.nil _ _ 1) ⟨_,rfl,(SlC.mono hs54_ le9_12)⟩) ⟨_,rfl,(SlC.nil _ 2)⟩);refine ⟨(fun w hw=>(hw.frLe (i:=3) rfl le10_12).sub Sx),?_⟩;refine jR (fun w hw=>hw.freezeR (i:=3) (j:=0) a7 rfl rfl) ?_;rintro F15 ⟨le12_15,hz15⟩;refine iF ?_;have le8_15:=le8_12.trans le12_15;have le9_15:=le9_12.trans le12_15;have le10_15:=le10_12.trans le12_15;have hf15:SlD cJ F15.toFrz (.slice (some ⟨g55,0,none⟩) 2 2) 1 [[(jl (.slice (some ⟨g43,0,none⟩) 3 3) 0 1 2)],[(.slice none 0 0)]] [([(GChoice.mk 1 14),(GChoice.mk 2 15),(GChoice.mk 3 15)].take 1),[]]:=(SlK.lit hz15 rfl (Nat.le_refl _) a7).toD (OwnD.mono (rep:=cJ) (fun _ _ _ _=>R_List_GChoice.mono) hl55 le12_15) rfl;refine m7 ?_;refine cR rfl (Wt.some) rfl rfl (eP 2 rfl rfl rfl rfl (fun w hw hF=>zcN _ w hF )) ?_;rintro _ _ ⟨⟨v52_0_0,cs52_0_0,v52_0_1,v52_0_2,v52_0_3⟩,F16,le15_16,⟨hf52_0_0,hf52_0_1,hf52_0_2,hf52_0_3⟩,rfl,rfl⟩;dsimp only at hf52_0_0 hf52_0_1 hf52_0_2 hf52_0_3 ⊢;have le8_16:=le8_15.trans le15_16;have le9_16:=le9_15.trans le15_16;have le10_16:=le10_15.trans le15_16;haveI:=hf52_0_0.1.oneC;haveI:=hf52_0_1.oneC;haveI:=hf52_0_2.oneC;haveI:=hf52_0_3.oneC;refine q3U ?_;refine dw ?_;have hq:=fu hk;clear hk;obtain ⟨r57,hr57,hk⟩:=hq;refine cR rfl (Wt.some) rfl rfl (cM rfl rfl rfl (fun w hw=>zbK _ w (hw.fr (i:=2) rfl) (gU) v52_0_0 cs52_0_0 hf52_0_0 v52_0_1 hf52_0_1 v52_0_2 hf52_0_2 v52_0_3 hf52_0_3 [] (.slice none 0 0) (SlC.nil _ 2) 1 (GResult.mk 2 [] [([(GChoice.mk 1 14),(GChoice.mk 2 15),(GChoice.mk 3 15)].take 1),[]] 1) (.slice none 0 0) (SlC.nil _ 2) (.slice (some ⟨g55,0,none⟩) 2 2) [[(jl (.slice (some ⟨g43,0,none⟩) 3 3) 0 1 2)],[(.slice none 0 0)]] (SlD.mono (rep:=cJ) (fun _ _ _ _=>R_List_GChoice.mono) hf15 le15_16) (htab.keptF hw) fuel hfu r57 hr57)) ?_;refine fG ?_;refine q3U ?_;refine gG ?_;refine dt rfl rfl rfl rfl (fun h9=>?_) (fun h9=>?_)
      ·replace hk:=dy hk h9;refine jf ?_;refine eY ?_;refine m7 ?_;have hq:=fu hk;clear hk;obtain ⟨r63,hr63,hk⟩:=hq;refine cR rfl (Wt.some) rfl rfl (cM rfl rfl rfl (fun w hw=>zbK _ w (hw.fr (i:=2) rfl) (GProblem.mk ((gU).Domains) (GRules.mk (((gU).Rules.Pairs).take 2) ((gU).Rules.Loads) ((gU).Rules.Caps))) v33_0_0 cs33_0_0 (SlD.mono (rep:=cK) (fun _ _ _ _=>GDomain.mono) hf33_0_0 le8_16) (jl v33_0_1 0 2 5) (SlC.mono hs37_ le8_16) v33_0_2 (SlC.mono hf33_0_2 le8_16) v33_0_3 (SlC.mono hf33_0_3 le8_16) [] (.slice none 0 0) (SlC.nil _ 2) 1 (GResult.mk 1 [(GChoice.mk 1 14),(GChoice.mk 2 15),(GChoice.mk 3 15)] [] 1) (.slice (some ⟨g43,0,none⟩) 3 3) (SlC.mono hf9 le9_16) (.slice none 0 0) [] (SlD.nil _ _ 1) (htab.keptF hw) fuel hfu r63 hr63)) ?_;refine fG ?_;refine q3U ?_;refine gG ?_;refine dt rfl rfl rfl rfl (fun h10=>?_) (fun h10=>?_)
       ·replace hk:=dy hk h10;refine jf ?_;refine eY ?_;have hq:(0≤1∧1≤([(GChoice.mk 1 15),(GChoice.mk 2 14),(GChoice.mk 3 14)].length:Int))∧_:=gQ hk;clear hk;obtain ⟨g68h,hk⟩:=hq;refine cO rfl (kN (i:=1) rfl rfl rfl (SlC.mono hf10 le10_16) (List.length_map _) (show (1:Int)=((1:Nat):Int) from rfl) a6) ?_;have hs68_:SlC F10.toFrz (jl (.slice (some ⟨g47,0,none⟩) 3 3) 0 1 2) 2 (([(GChoice.mk 1 15),(GChoice.mk 2 14),(GChoice.mk 3 14)].take 1).map cH):=hf10.sliceh (i:=1) a6;haveI:=hs68_.oneC;refine eY ?_;refine m7 ?_;have hq:=fu hk;clear hk;obtain ⟨r71,hr71,hk⟩:=hq;refine cR rfl (Wt.some) rfl rfl (cM rfl rfl rfl (fun w hw=>zbK _ w (hw.fr (i:=2) rfl) (GProblem.mk ((gU).Domains) (GRules.mk (((gU).Rules.Pairs).take 2) ((gU).Rules.Loads) ((gU).Rules.Caps))) v33_0_0 cs33_0_0 (SlD.mono (rep:=cK) (fun _ _ _ _=>GDomain.mono) hf33_0_0 le8_16) (jl v33_0_1 0 2 5) (SlC.mono hs37_ le8_16) v33_0_2 (SlC.mono hf33_0_2 le8_16) v33_0_3 (SlC.mono hf33_0_3 le8_16) ([(GChoice.mk 1 15),(GChoice.mk 2 14),(GChoice.mk 3 14)].take 1) (jl (.slice (some ⟨g47,0,none⟩) 3 3) 0 1 2) (SlC.mono hs68_ le10_16) 1 (GResult.mk 1 [(GChoice.mk 1 15),(GChoice.mk 2 14),(GChoice.mk 3 14)] [] 1) (.slice (some ⟨g47,0,none⟩) 3 3) (SlC.mono hf10 le10_16) (.slice none 0 0) [] (SlD.nil _ _ 1) (htab.keptF hw) fuel hfu r71 hr71)) ?_;refine fG ?_;refine q3U ?_;refine jt ?_;refine mN ?_;exact cP (r71,F16) ⟨hk,le10_16⟩ (.c .nil) (List.Sublist.refl _)
       ·replace hk:=dz hk h10;refine TS.run 5 rfl ?_;refine gK ?_;refine jt ?_;refine mN ?_;exact cP (false,F16) ⟨hk,le10_16⟩ (.c .nil) (List.Sublist.refl _)
      ·replace hk:=dz hk h9;refine ik ?_;refine q4t ?_;exact cP (false,F16) ⟨hk,le10_16⟩ (.c .nil) (List.Sublist.refl _)
    ·replace hk:=dz hk h6;refine gG ?_;refine TS.two ?_ ?_
     ·refine TSo.off rfl (Wt.not rfl rfl rfl rfl) rfl rfl ?_;refine gK ?_;refine eY ?_;refine gK ?_;refine TS.run 5 rfl ?_;refine q4t ?_;exact cP (false,F12) ⟨hk,le10_12⟩ (.c .nil) (List.Sublist.refl _)
     ·refine TSo.off rfl (Wt.not rfl rfl rfl rfl) rfl rfl ?_;refine eY ?_;refine gK ?_;refine gK ?_;refine TS.run 5 rfl ?_;refine q4t ?_;exact cP (false,F12) ⟨hk,le10_12⟩ (.c .nil) (List.Sublist.refl _)
   ·rintro ⟨x_4,F11⟩ ⟨hk,le10_11⟩; (try dsimp only at *);rw [←hk5] at hk; (try dsimp only at hk);refine T.ret ?_;obtain rfl:=Option.some.inj hk;exact eh
def kG:List Int→List Int→Bool
 |a :: x,b :: y=>if a=b then kG x y else decide (a<b)
 |_,_=>false
theorem zkv {x y:List Int}{k:Nat}(h:k<x.length)(h2:k<y.length):kG (x.drop k) (y.drop k)=if cI x k=cI y k then kG (x.drop (k+1)) (y.drop (k+1)) else decide (cI x k<cI y k):=by
 rw [List.drop_eq_getElem_cons h,List.drop_eq_getElem_cons h2,d9 h,d9 h2];rfl
def zhK (ds:List Dx)(s:Int):Int:=match ds.findIdx? (fun d=>decide (d.st=s)) with|some i=>(i:Int)|none=> -1
theorem gT {n a b:Int}:inB n a b=true↔a≤n∧n≤b:=by simp [inB]
def zhu (xs:List Pr)(k:Nat):Bool:=decide ((inB (cI xs k).a 0 511=true∧inB (cI xs k).b 0 511=true∧(cI xs k).a<(cI xs k).b∧ -1≤(cI xs k).off∧(cI xs k).off≤1∧fh (cI xs k).lo (cI xs k).hi=true)∧(0<k→kG [(cI xs (k - 1)).a,(cI xs (k - 1)).b,(cI xs (k - 1)).off,(cI xs (k - 1)).lo,(cI xs (k - 1)).hi] [(cI xs k).a,(cI xs k).b,(cI xs k).off,(cI xs k).lo,(cI xs k).hi]=true))
def zhk (xs:List Ld)(k:Nat):Bool:=decide ((inB (cI xs k).to 0 511=true∧inB (cI xs k).fr 0 511=true∧¬(cI xs k).to=(cI xs k).fr∧1≤(cI xs k).wt∧(cI xs k).wt≤1073741824∧fh (cI xs k).lo (cI xs k).hi=true)∧(0<k→kG [(cI xs (k - 1)).to,(cI xs (k - 1)).fr,(cI xs (k - 1)).wt,(cI xs (k - 1)).lo,(cI xs (k - 1)).hi] [(cI xs k).to,(cI xs k).fr,(cI xs k).wt,(cI xs k).lo,(cI xs k).hi]=true))
def zhm (xs:List Cp)(k:Nat):Bool:=decide ((inB (cI xs k).st 0 511=true∧0≤(cI xs k).mx∧(cI xs k).mx≤1099511627776∧fh (cI xs k).lo (cI xs k).hi=true)∧(0<k→kG [(cI xs (k - 1)).st,(cI xs (k - 1)).mx,(cI xs (k - 1)).lo,(cI xs (k - 1)).hi] [(cI xs k).st,(cI xs k).mx,(cI xs k).lo,(cI xs k).hi]=true))
def zhd (P:Pb):Bool:=decide (P.ps.length≤4096∧P.ls.length≤1024∧P.cs.length≤1024)&&((List.range P.ps.length).all (zhu P.ps)&&((List.range P.ls.length).all (zhk P.ls)&&(List.range P.cs.length).all (zhm P.cs)))
def zia (cs:List Int)(j:Nat):Bool:=decide (2≤cI cs j∧cI cs j≤51∧(0<j→cI cs (j - 1)<cI cs j))
def zko (ds:List Dx)(k:Nat):Bool:=decide ((inB (cI ds k).st 0 511=true∧(0<k→(cI ds (k - 1)).st<(cI ds k).st)∧(cI ds k).chs.length≤50)∧(List.range (cI ds k).chs.length).all (zia (cI ds k).chs)=true)
def zkr (P:Pb)(k:Nat):Bool:=decide (0≤zhK P.ds (cI P.ps k).a∧0≤zhK P.ds (cI P.ps k).b)
def zkk (P:Pb)(k:Nat):Bool:=decide (0≤zhK P.ds (cI P.ls k).to∧0≤zhK P.ds (cI P.ls k).fr)
def zkQ (P:Pb)(k:Nat):Bool:=decide (0≤zhK P.ds (cI P.cs k).st)
def zk1 (P:Pb):Bool:=decide (P.ds.length≤512)&&(zhd P&&((List.range P.ds.length).all (zko P.ds)&&((List.range P.ps.length).all (zkr P)&&((List.range P.ls.length).all (zkk P)&&(List.range P.cs.length).all (zkQ P)))))
theorem zfW {α:Type}[Inhabited α]{c:α→α→Int}{xs:List α}:fy c xs=true↔∀k,0<k→k<xs.length→c (cI xs (k - 1)) (cI xs k)<0:=by
 unfold fy;rw [List.all_eq_true];constructor
 ·intro h k h0 hk;have:=h k (List.mem_range.2 hk);simp only [Bool.or_eq_true,decide_eq_true_eq,Bool.not_eq_true',decide_eq_false_iff_not] at this;omega
 ·intro h k hk;simp only [Bool.or_eq_true,decide_eq_true_eq,Bool.not_eq_true',decide_eq_false_iff_not];by_cases h0:k=0
  ·exact .inl h0
  ·have:=h k a6 (List.mem_range.1 hk);exact .inr a6
theorem iY {f:Nat→Bool}{n:Nat}:(List.range n).all f=true↔∀k,k<n→f k=true:=by
 rw [List.all_eq_true];exact ⟨fun h k hk=>h k (List.mem_range.2 hk),fun h k hk=>h k (List.mem_range.1 hk)⟩
theorem ze4 {a b:Int}:dL a b<0↔a<b:=by unfold dL;split <;> (try split) <;> omega
theorem jZ {a b:Int}:dL a b=0↔a=b:=by unfold dL;split <;> (try split) <;> omega
theorem zhN:∀(xs ys:List Int),xs.length=ys.length→(kG xs ys=true↔kq (List.zipWith dL xs ys)<0)
 | [],[],_=>by simp [kG,kq]
 |a :: x,b :: y,h=>by
  have ih:=zhN x y (by simpa using h);unfold kG;rw [List.zipWith_cons_cons];unfold kq;by_cases e:a=b
  ·rw [if_pos e,if_pos (jZ.2 e)];exact ih
  ·rw [if_neg e,if_neg (fun hh=>e (jZ.1 hh)),ze4,decide_eq_true_eq]
 | [],_ :: _,h=>by simp at h
 |_ :: _,[],h=>by simp at h
theorem zlk {xs:List Pr}{k:Nat}:zhu xs k=true↔(cI xs k).ok=true∧(0<k→Pr.cmp (cI xs (k - 1)) (cI xs k)<0):=by
 have e:=zhN [(cI xs (k - 1)).a,(cI xs (k - 1)).b,(cI xs (k - 1)).off,(cI xs (k - 1)).lo,(cI xs (k - 1)).hi] [(cI xs k).a,(cI xs k).b,(cI xs k).off,(cI xs k).lo,(cI xs k).hi] rfl;simp only [zhu,decide_eq_true_eq,e,Pr.ok,Bool.and_eq_true,gT,Pr.cmp,List.zipWith,and_assoc]
theorem zlw {xs:List Ld}{k:Nat}:zhk xs k=true↔(cI xs k).ok=true∧(0<k→Ld.cmp (cI xs (k - 1)) (cI xs k)<0):=by
 have e:=zhN [(cI xs (k - 1)).to,(cI xs (k - 1)).fr,(cI xs (k - 1)).wt,(cI xs (k - 1)).lo,(cI xs (k - 1)).hi] [(cI xs k).to,(cI xs k).fr,(cI xs k).wt,(cI xs k).lo,(cI xs k).hi] rfl;simp only [zhk,decide_eq_true_eq,e,Ld.ok,Bool.and_eq_true,gT,Ld.cmp,List.zipWith,and_assoc]
theorem zk0 {xs:List Cp}{k:Nat}:zhm xs k=true↔(cI xs k).ok=true∧(0<k→Cp.cmp (cI xs (k - 1)) (cI xs k)<0):=by
 have e:=zhN [(cI xs (k - 1)).st,(cI xs (k - 1)).mx,(cI xs (k - 1)).lo,(cI xs (k - 1)).hi] [(cI xs k).st,(cI xs k).mx,(cI xs k).lo,(cI xs k).hi] rfl;simp only [zhm,decide_eq_true_eq,e,Cp.ok,Bool.and_eq_true,gT,Cp.cmp,List.zipWith,and_assoc]
theorem zfY {α:Type}[Inhabited α]{r:List α→Nat→Bool}{q:α→Bool}{c:α→α→Int}{xs:List α}(h:∀k,r xs k=true↔q (cI xs k)=true∧(0<k→c (cI xs (k - 1)) (cI xs k)<0)):(List.range xs.length).all (r xs)=true↔fM q xs=true∧fy c xs=true:=by
 rw [iY,zen,zfW];exact ⟨fun hh=>⟨fun k hk=>((h k).1 (hh k hk)).1,fun k h0 hk=>((h k).1 (hh k hk)).2 h0⟩,fun hh k hk=>(h k).2 ⟨hh.1 k hk,fun h0=>hh.2 k h0 hk⟩⟩
theorem zlg (P:Pb):zhd P=P.rulesOk:=by
 rw [Bool.eq_iff_iff];simp only [zhd,Pb.rulesOk,Bool.and_eq_true,decide_eq_true_eq,zfY (r:=zhu) (q:=Pr.ok) (c:=Pr.cmp) (xs:=P.ps) (fun k=>zlk),zfY (r:=zhk) (q:=Ld.ok) (c:=Ld.cmp) (xs:=P.ls) (fun k=>zlw),zfY (r:=zhm) (q:=Cp.ok) (c:=Cp.cmp) (xs:=P.cs) (fun k=>zk0)];constructor
 ·rintro ⟨⟨h1,h2,h3⟩,⟨h4,h5⟩,⟨h6,h7⟩,h8,h9⟩;exact ⟨by omega,h4,h5,by omega,h6,h7,by omega,h8,h9⟩
 ·rintro ⟨h1,h4,h5,h2,h6,h7,h3,h8,h9⟩;exact ⟨⟨by omega,by omega,by omega⟩,⟨h4,h5⟩,⟨h6,h7⟩,h8,h9⟩
theorem zj8 {f:Nat→Int}{lo hi:Int}{n:Nat}(h0:∀k,k<n→lo≤f k∧f k≤hi)(h:∀k,0<k→k<n→f (k - 1)<f k):(n:Int)≤hi - lo+1∨n=0:=by
 have key:∀k,k<n→lo+(k:Int)≤f k:=by
  intro k
  induction k with
  |zero=>intro hk;have:=h0 0 hk;omega
  |succ k ih=>intro hk;have:=ih a6;have:=h (k+1) a6 hk;rw [Nat.add_sub_cancel] at this;omega
 rcases Nat.eq_zero_or_pos n with h1|h1
 ·exact .inr h1
 ·have:=key (n - 1) a6;have:=h0 (n - 1) a6;exact .inl a6
theorem zio {ds:List Dx}{s:Int}:0≤zhK ds s↔∃i,i<ds.length∧(cI ds i).st=s:=by
 unfold zhK
 cases hf:ds.findIdx? (fun d=>decide (d.st=s)) with
 |none=>
  refine ⟨fun h=>by simp at h,fun ⟨i,hi,h⟩=>?_⟩;rw [List.findIdx?_eq_none_iff] at hf;have:=hf (cI ds i) (i4 hi);simp [h] at this
 |some i=>
  refine ⟨fun _=>?_,fun _=>by simp⟩;obtain ⟨hi,h1,_⟩:=List.findIdx?_eq_some_iff_getElem.1 hf;exact ⟨i,hi,by rw [d9 hi];simpa using h1⟩
theorem zdu {P:Pb}(hst:∀d∈P.ds,0≤d.st∧d.st≤511){s:Int}:P.has s=true↔0≤zhK P.ds s:=by
 unfold Pb.has;rw [ziO (P.ds.map fun d:Dx=>d.st) (fun y hy=>by obtain ⟨d,hd,rfl⟩:=List.mem_map.1 hy;exact hst d hd),zio,List.mem_map];constructor
 ·rintro ⟨d,hd,rfl⟩;obtain ⟨i,hi,rfl⟩:=List.mem_iff_getElem.1 hd;exact ⟨i,hi,by rw [d9 hi]⟩
 ·rintro ⟨i,hi,rfl⟩;exact ⟨_,i4 hi,rfl⟩
theorem jX {cs:List Int}:(List.range cs.length).all (zia cs)=true↔fM (fun c=>inB c 2 51) cs=true∧fy dL cs=true:=by
 refine zfY (r:=zia) (q:=fun c=>inB c 2 51) (c:=dL) fun k=>?_;simp only [zia,decide_eq_true_eq,gT,ze4,and_assoc]
theorem zl9 (P:Pb):zk1 P=P.ok:=by
 rw [Bool.eq_iff_iff];simp only [zk1,Pb.ok,Bool.and_eq_true,decide_eq_true_eq,zlg,iY,zen,zfW,ze4,zko,zkr,zkk,zkQ,Dx.ok]
 have stOf:(∀k,k<P.ds.length→inB (cI P.ds k).st 0 511=true)→∀d∈P.ds,0≤d.st∧d.st≤511:=fun h d hd=>by
  obtain ⟨i,hi,rfl⟩:=List.mem_iff_getElem.1 hd;have:=gT.1 (h i hi)
  rwa [d9 hi] at this
 constructor
 ·rintro ⟨h1,h2,h3,h4,h5,h6⟩;have hst:=stOf fun k hk=>(h3 k hk).1.1;refine ⟨fun k hk=>⟨(h3 k hk).1.1,?_⟩,h2,fun k h0 hk=>(h3 k hk).1.2.1 h0,fun k hk=>⟨(zdu hst).2 (h4 k hk).1,(zdu hst).2 (h4 k hk).2⟩,fun k hk=>⟨(zdu hst).2 (h5 k hk).1,(zdu hst).2 (h5 k hk).2⟩,fun k hk=>(zdu hst).2 (h6 k hk)⟩;have:=jX.1 (iY.2 (h3 k hk).2);simp only [zen,zfW,ze4] at this;exact this
 ·rintro ⟨h1,h2,h3,h4,h5,h6⟩;have hst:=stOf fun k hk=>(h1 k hk).1;refine ⟨?_,h2,fun k hk=>⟨⟨(h1 k hk).1,fun h0=>h3 k h0 hk,?_⟩,?_⟩,fun k hk=>⟨(zdu hst).1 (h4 k hk).1,(zdu hst).1 (h4 k hk).2⟩,fun k hk=>⟨(zdu hst).1 (h5 k hk).1,(zdu hst).1 (h5 k hk).2⟩,fun k hk=>(zdu hst).1 (h6 k hk)⟩
  ·have:=zj8 (f:=fun k=>(cI P.ds k).st) (lo:=0) (hi:=511) (n:=P.ds.length) (fun k hk=>gT.1 (h1 k hk).1) h3;omega
  ·have:=zj8 (f:=cI (cI P.ds k).chs) (lo:=2) (hi:=51) (n:=(cI P.ds k).chs.length) (fun j hj=>gT.1 ((h1 k hk).2.1 j hj)) (h1 k hk).2.2;omega
  ·exact iY.1 (jX.2 (by simp only [zen,zfW,ze4];exact (h1 k hk).2))
theorem zct {ρ:Type}{f:Nat→(Unit→ρ)→Unit→ρ}{k:Unit→ρ}{n:Nat}{z:ρ}(q:Nat→Bool)(hf:∀i next,i<n→f i next ()=bif q i then next () else z):dk f k n 0 ()=bif (List.range n).all q then k () else z:=by
 have key:∀m i,i+m=n→dk f k m i ()=bif (List.range' i m).all q then k () else z:=by
  intro m
  induction m with
  |zero=>intro i _;rfl
  |succ m ih=>
   intro i e
   show f i (dk f k m (i+1)) ()=_
   rw [hf i _ a6,ih (i+1) a6,List.range'_succ,List.all_cons]
   cases q i <;> rfl
 rw [key n 0 a6,List.range_eq_range']
theorem zd9 {n:Int}:kw n=inB n 0 511:=rfl
theorem zld {a b:Int}:m8 a b=fh a b:=by
 unfold m8 fh;by_cases h1:2≤a <;> by_cases h2:a≤b <;> by_cases h3:b≤51 <;> simp [h1,h2,h3]
theorem zlH {a b:List Int}(h:a.length=b.length):zbo a b=some (kG a b):=by
 unfold zbo;refine ku ?_
 have key:∀m i,i+m=a.length→dk (fun (i:Nat) (next:Unit→Option Bool) (_:Unit)=>eG (0≤(i:Int)∧(i:Int)<(b.length:Int)) (bif decide (¬cI a i=cI b i) then some (decide (cI a i<cI b i)) else next ())) (fun _=>some false) m i ()=some (kG (a.drop i) (b.drop i)):=by
  intro m
  induction m with
  |zero=>intro i e;rw [List.drop_eq_nil_of_le (show a.length≤i by omega)];rfl
  |succ m ih=>
   intro i e;have h2:=ih (i+1) a6
   show eG _ _=_
   rw [fN ⟨by omega,by omega⟩,zkv a6 a6];by_cases e2:cI a i=cI b i
   ·rw [if_pos e2,decide_eq_false (fun hn=>hn e2),cond_false];exact h2
   ·rw [if_neg e2,decide_eq_true e2,cond_true]
 exact key a.length 0 a6
def hasS (p:GProblem)(s:Int):Bool:=p.Domains.any fun d=>decide (d.Station=s)
theorem zmd {p:GProblem}{s:Int}:fH p s<0↔hasS p s=false:=by
 unfold fH hasS;refine ku ?_
 have key:∀m i,i+m=p.Domains.length→(dk (fun (i:Nat) (next:Unit→Int) (_:Unit)=>bif decide ((cI p.Domains i).Station=s) then (i:Int) else next ()) (fun _=>(-1)) m i ()<0↔((p.Domains.drop i).any fun d=>decide (d.Station=s))=false):=by
  intro m
  induction m with
  |zero=>intro i e;rw [List.drop_eq_nil_of_le (show p.Domains.length≤i by omega)];exact ⟨fun _=>rfl,fun _=>by show (-1:Int)<0;omega⟩
  |succ m ih=>
   intro i e;have h2:=ih (i+1) a6;rw [List.drop_eq_getElem_cons (show i<p.Domains.length by omega),List.any_cons,←d9 (show i<p.Domains.length by omega)]
   show (bif decide ((cI p.Domains i).Station=s) then (i:Int) else _)<0↔_
   cases decide ((cI p.Domains i).Station=s) with
   |true=>simp
   |false=>rw [cond_false,Bool.false_or];exact h2
 have:=key p.Domains.length 0 a6
 rwa [List.drop_zero] at this
theorem zcs (i:Nat):((i:Int) - 1).toNat=i - 1:=by omega
theorem znD {p : GProblem} {i : Nat} {next : Unit → Option Bool} (hi : i < p.Rules.Pairs.length) :
    (bif !(kw ((cI p.Rules.Pairs i).A)) then (bif true then some false else next ()) else
      (bif !(kw ((cI p.Rules.Pairs i).B)) then (bif true then some false else next ()) else
      (bif decide ((cI p.Rules.Pairs i).B ≤ (cI p.Rules.Pairs i).A) then (bif true then some false else next ()) else
      (bif decide ((cI p.Rules.Pairs i).Offset < (-1)) then (bif true then some false else next ()) else
      (bif decide (1 < (cI p.Rules.Pairs i).Offset) then (bif true then some false else next ()) else
      (bif !(m8 ((cI p.Rules.Pairs i).Low) ((cI p.Rules.Pairs i).High)) then (bif true then some false else next ()) else
      (bif decide (0 < (i : Int)) then (zbo (lU (cI p.Rules.Pairs (((i : Int) - 1).toNat))) (lU (cI p.Rules.Pairs i))).bind fun r => (bif !r then some false else next ()) else (bif false then some false else next ())))))))) = bif zhu (d7 p).ps i then next () else some false := by
  have e1 : cI (d7 p).ps i = (cI p.Rules.Pairs i).b := jH hi; have e2 : cI (d7 p).ps (i - 1) = (cI p.Rules.Pairs (i - 1)).b := jH a6; rw [zcs, zlH (by rfl), Option.bind_some];simp only [zd9, zld]
  have hr : zhu (d7 p).ps i = (inB (cI p.Rules.Pairs i).A 0 511 && (inB (cI p.Rules.Pairs i).B 0 511 && (!decide ((cI p.Rules.Pairs i).B ≤ (cI p.Rules.Pairs i).A) && (!decide ((cI p.Rules.Pairs i).Offset < (-1)) && (!decide (1 < (cI p.Rules.Pairs i).Offset) && (fh (cI p.Rules.Pairs i).Low (cI p.Rules.Pairs i).High && (!decide (0 < (i : Int)) || kG (lU (cI p.Rules.Pairs (i - 1))) (lU (cI p.Rules.Pairs i))))))))) := by
    unfold zhu; rw [e1, e2, Bool.eq_iff_iff, decide_eq_true_eq];simp only [Bool.and_eq_true, Bool.or_eq_true, Bool.not_eq_true', decide_eq_false_iff_not, GPair.b, lU]; constructor
    · rintro ⟨⟨h1, h2, h3, h4, h5, h6⟩, h9⟩; refine ⟨h1, h2, by omega, by omega, by omega, h6, ?_⟩; rcases Nat.eq_zero_or_pos i with h | h
      · exact .inl a6
      · exact .inr (h9 h)
    · rintro ⟨h1, h2, h3, h4, h5, h6, h9⟩; refine ⟨⟨h1, h2, by omega, by omega, by omega, h6⟩, fun h => ?_⟩; rcases h9 with h9 | h9
      · omega
      · exact h9
  rw [hr]
  cases inB (cI p.Rules.Pairs i).A 0 511
  · rfl
  cases inB (cI p.Rules.Pairs i).B 0 511
  · rfl
  cases decide ((cI p.Rules.Pairs i).B ≤ (cI p.Rules.Pairs i).A)
  rotate_left
  · rfl
  cases decide ((cI p.Rules.Pairs i).Offset < (-1))
  rotate_left
  · rfl
  cases decide (1 < (cI p.Rules.Pairs i).Offset)
  rotate_left
  · rfl
  cases fh (cI p.Rules.Pairs i).Low (cI p.Rules.Pairs i).High
  · rfl
  cases decide (0 < (i : Int))
  · rfl
  cases kG (lU (cI p.Rules.Pairs (i - 1))) (lU (cI p.Rules.Pairs i)) <;> rfl
theorem zoe {p : GProblem} {i : Nat} {next : Unit → Option Bool} (hi : i < p.Rules.Loads.length) :
    (bif !(kw ((cI p.Rules.Loads i).To)) then (bif true then some false else next ()) else
      (bif !(kw ((cI p.Rules.Loads i).From)) then (bif true then some false else next ()) else
      (bif decide ((cI p.Rules.Loads i).To = (cI p.Rules.Loads i).From) then (bif true then some false else next ()) else
      (bif decide ((cI p.Rules.Loads i).Weight < 1) then (bif true then some false else next ()) else
      (bif decide (1073741824 < (cI p.Rules.Loads i).Weight) then (bif true then some false else next ()) else
      (bif !(m8 ((cI p.Rules.Loads i).Low) ((cI p.Rules.Loads i).High)) then (bif true then some false else next ()) else
      (bif decide (0 < (i : Int)) then (zbo (lH (cI p.Rules.Loads (((i : Int) - 1).toNat))) (lH (cI p.Rules.Loads i))).bind fun r => (bif !r then some false else next ()) else (bif false then some false else next ())))))))) = bif zhk (d7 p).ls i then next () else some false := by
  have e1 : cI (d7 p).ls i = (cI p.Rules.Loads i).b := jH hi; have e2 : cI (d7 p).ls (i - 1) = (cI p.Rules.Loads (i - 1)).b := jH a6; rw [zcs, zlH (by rfl), Option.bind_some];simp only [zd9, zld]
  have hr : zhk (d7 p).ls i = (inB (cI p.Rules.Loads i).To 0 511 && (inB (cI p.Rules.Loads i).From 0 511 && (!decide ((cI p.Rules.Loads i).To = (cI p.Rules.Loads i).From) && (!decide ((cI p.Rules.Loads i).Weight < 1) && (!decide (1073741824 < (cI p.Rules.Loads i).Weight) && (fh (cI p.Rules.Loads i).Low (cI p.Rules.Loads i).High && (!decide (0 < (i : Int)) || kG (lH (cI p.Rules.Loads (i - 1))) (lH (cI p.Rules.Loads i))))))))) := by
    unfold zhk; rw [e1, e2, Bool.eq_iff_iff, decide_eq_true_eq];simp only [Bool.and_eq_true, Bool.or_eq_true, Bool.not_eq_true', decide_eq_false_iff_not, GLoad.b, lH]; constructor
    · rintro ⟨⟨h1, h2, h3, h4, h5, h6⟩, h9⟩; refine ⟨h1, h2, by omega, by omega, by omega, h6, ?_⟩; rcases Nat.eq_zero_or_pos i with h | h
      · exact .inl a6
      · exact .inr (h9 h)
    · rintro ⟨h1, h2, h3, h4, h5, h6, h9⟩; refine ⟨⟨h1, h2, by omega, by omega, by omega, h6⟩, fun h => ?_⟩; rcases h9 with h9 | h9
      · omega
      · exact h9
  rw [hr]
  cases inB (cI p.Rules.Loads i).To 0 511
  · rfl
  cases inB (cI p.Rules.Loads i).From 0 511
  · rfl
  cases decide ((cI p.Rules.Loads i).To = (cI p.Rules.Loads i).From)
  rotate_left
  · rfl
  cases decide ((cI p.Rules.Loads i).Weight < 1)
  rotate_left
  · rfl
  cases decide (1073741824 < (cI p.Rules.Loads i).Weight)
  rotate_left
  · rfl
  cases fh (cI p.Rules.Loads i).Low (cI p.Rules.Loads i).High
  · rfl
  cases decide (0 < (i : Int))
  · rfl
  cases kG (lH (cI p.Rules.Loads (i - 1))) (lH (cI p.Rules.Loads i)) <;> rfl
theorem zn2 {p : GProblem} {i : Nat} {next : Unit → Option Bool} (hi : i < p.Rules.Caps.length) :
    (bif !(kw ((cI p.Rules.Caps i).Station)) then (bif true then some false else next ()) else
      (bif decide ((cI p.Rules.Caps i).Max < 0) then (bif true then some false else next ()) else
      (bif decide (1099511627776 < (cI p.Rules.Caps i).Max) then (bif true then some false else next ()) else
      (bif !(m8 ((cI p.Rules.Caps i).Low) ((cI p.Rules.Caps i).High)) then (bif true then some false else next ()) else
      (bif decide (0 < (i : Int)) then (zbo (lX (cI p.Rules.Caps (((i : Int) - 1).toNat))) (lX (cI p.Rules.Caps i))).bind fun r => (bif !r then some false else next ()) else (bif false then some false else next ())))))) = bif zhm (d7 p).cs i then next () else some false := by
  have e1 : cI (d7 p).cs i = (cI p.Rules.Caps i).b := jH hi; have e2 : cI (d7 p).cs (i - 1) = (cI p.Rules.Caps (i - 1)).b := jH a6; rw [zcs, zlH (by rfl), Option.bind_some];simp only [zd9, zld]
  have hr : zhm (d7 p).cs i = (inB (cI p.Rules.Caps i).Station 0 511 && (!decide ((cI p.Rules.Caps i).Max < 0) && (!decide (1099511627776 < (cI p.Rules.Caps i).Max) && (fh (cI p.Rules.Caps i).Low (cI p.Rules.Caps i).High && (!decide (0 < (i : Int)) || kG (lX (cI p.Rules.Caps (i - 1))) (lX (cI p.Rules.Caps i))))))) := by
    unfold zhm; rw [e1, e2, Bool.eq_iff_iff, decide_eq_true_eq];simp only [Bool.and_eq_true, Bool.or_eq_true, Bool.not_eq_true', decide_eq_false_iff_not, GCap.b, lX]; constructor
    · rintro ⟨⟨h1, h2, h3, h4⟩, h9⟩; refine ⟨h1, by omega, by omega, h4, ?_⟩; rcases Nat.eq_zero_or_pos i with h | h
      · exact .inl a6
      · exact .inr (h9 h)
    · rintro ⟨h1, h2, h3, h4, h9⟩; refine ⟨⟨h1, by omega, by omega, h4⟩, fun h => ?_⟩; rcases h9 with h9 | h9
      · omega
      · exact h9
  rw [hr]
  cases inB (cI p.Rules.Caps i).Station 0 511
  · rfl
  cases decide ((cI p.Rules.Caps i).Max < 0)
  rotate_left
  · rfl
  cases decide (1099511627776 < (cI p.Rules.Caps i).Max)
  rotate_left
  · rfl
  cases fh (cI p.Rules.Caps i).Low (cI p.Rules.Caps i).High
  · rfl
  cases decide (0 < (i : Int))
  · rfl
  cases kG (lX (cI p.Rules.Caps (i - 1))) (lX (cI p.Rules.Caps i)) <;> rfl
theorem ziA {p:GProblem}:zbG p.Rules=some (zhd (d7 p)):=by
 unfold zbG;refine ku ?_;rw [zct (n:=p.Rules.Pairs.length) (z:=some false) (zhu (d7 p).ps) (fun i next hi=>znD hi),zct (n:=p.Rules.Loads.length) (z:=some false) (zhk (d7 p).ls) (fun i next hi=>zoe hi),zct (n:=p.Rules.Caps.length) (z:=some false) (zhm (d7 p).cs) (fun i next hi=>zn2 hi)];have l1:(d7 p).ps.length=p.Rules.Pairs.length:=List.length_map _;have l2:(d7 p).ls.length=p.Rules.Loads.length:=List.length_map _;have l3:(d7 p).cs.length=p.Rules.Caps.length:=List.length_map _;unfold zhd;rw [l1,l2,l3];by_cases h:p.Rules.Pairs.length≤4096∧p.Rules.Loads.length≤1024∧p.Rules.Caps.length≤1024
 ·rw [decide_eq_true h,decide_eq_false a6,decide_eq_false a6,decide_eq_false a6]
  cases (List.range p.Rules.Pairs.length).all (zhu (d7 p).ps)
  ·rfl
  cases (List.range p.Rules.Loads.length).all (zhk (d7 p).ls)
  ·rfl
  cases (List.range p.Rules.Caps.length).all (zhm (d7 p).cs) <;> rfl
 ·rw [decide_eq_false h];by_cases h1:(4096:Int)<p.Rules.Pairs.length
  ·rw [decide_eq_true h1];rfl
  ·by_cases h2:(1024:Int)<p.Rules.Loads.length
   ·rw [decide_eq_true h2,Bool.or_true];rfl
   ·rw [decide_eq_true (show (1024:Int)<p.Rules.Caps.length by omega),Bool.or_true];rfl
theorem zi3 {p:GProblem}{s:Int}:fH p s<0↔¬0≤zhK (d7 p).ds s:=by
 rw [zmd,zio];unfold hasS;rw [List.any_eq_false];have l:(d7 p).ds.length=p.Domains.length:=List.length_map _;constructor
 ·rintro h ⟨i,hi,e⟩;rw [l] at hi;have e1:cI (d7 p).ds i=(cI p.Domains i).b:=jH hi;rw [e1] at e;exact h _ (eo hi) (decide_eq_true e)
 ·intro h x hx hd;obtain ⟨i,hi,rfl⟩:=gp hx;refine h ⟨i,by rw [l];exact hi,?_⟩;have e1:cI (d7 p).ds i=(cI p.Domains i).b:=jH hi;rw [e1];exact of_decide_eq_true hd
theorem zls {p:GProblem}:zb0 p=some (eN p):=by
 have l0:(d7 p).ds.length=p.Domains.length:=List.length_map _;have l1:(d7 p).ps.length=p.Rules.Pairs.length:=List.length_map _;have l2:(d7 p).ls.length=p.Rules.Loads.length:=List.length_map _;have l3:(d7 p).cs.length=p.Rules.Caps.length:=List.length_map _;have n0:∀k,k<p.Domains.length→cI (d7 p).ds k=(cI p.Domains k).b:=fun k hk=>jH hk;have n1:∀k,k<p.Rules.Pairs.length→cI (d7 p).ps k=(cI p.Rules.Pairs k).b:=fun k hk=>jH hk;have n2:∀k,k<p.Rules.Loads.length→cI (d7 p).ls k=(cI p.Rules.Loads k).b:=fun k hk=>jH hk;have n3:∀k,k<p.Rules.Caps.length→cI (d7 p).cs k=(cI p.Rules.Caps k).b:=fun k hk=>jH hk;unfold zb0 eN;rw [←zl9];simp only [dQ,Nat.sub_zero,ziA,Option.bind_some];rw [zct (n:=p.Domains.length) (z:=some false) (zko (d7 p).ds) (fun i next hi=>?_),zct (n:=p.Rules.Pairs.length) (z:=some false) (zkr (d7 p)) (fun i next hi=>?_),zct (n:=p.Rules.Loads.length) (z:=some false) (zkk (d7 p)) (fun i next hi=>?_),zct (n:=p.Rules.Caps.length) (z:=some false) (zkQ (d7 p)) (fun i next hi=>?_)]
 ·unfold zk1;rw [l0,l1,l2,l3];by_cases h:p.Domains.length≤512
  ·rw [decide_eq_true h,decide_eq_false a6]
   cases zhd (d7 p)
   ·rfl
   cases (List.range p.Domains.length).all (zko (d7 p).ds)
   ·rfl
   cases (List.range p.Rules.Pairs.length).all (zkr (d7 p))
   ·rfl
   cases (List.range p.Rules.Loads.length).all (zkk (d7 p))
   ·rfl
   cases (List.range p.Rules.Caps.length).all (zkQ (d7 p)) <;> rfl
  ·rw [decide_eq_false h,decide_eq_true a6];rfl
 ·have hr:zkQ (d7 p) i= !decide (fH p (cI p.Rules.Caps i).Station<0):=by
   unfold zkQ;rw [n3 i hi,Bool.eq_iff_iff,decide_eq_true_eq];simp only [Bool.not_eq_true',decide_eq_false_iff_not,zi3,Decidable.not_not,GCap.b]
  rw [hr]
  cases decide (fH p (cI p.Rules.Caps i).Station<0) <;> rfl
 ·have hr:zkk (d7 p) i=(!decide (fH p (cI p.Rules.Loads i).To<0)&& !decide (fH p (cI p.Rules.Loads i).From<0)):=by
   unfold zkk;rw [n2 i hi,Bool.eq_iff_iff,decide_eq_true_eq];simp only [Bool.and_eq_true,Bool.not_eq_true',decide_eq_false_iff_not,zi3,Decidable.not_not,GLoad.b]
  rw [hr]
  cases decide (fH p (cI p.Rules.Loads i).To<0) <;> cases decide (fH p (cI p.Rules.Loads i).From<0) <;> rfl
 ·have hr:zkr (d7 p) i=(!decide (fH p (cI p.Rules.Pairs i).A<0)&& !decide (fH p (cI p.Rules.Pairs i).B<0)):=by
   unfold zkr;rw [n1 i hi,Bool.eq_iff_iff,decide_eq_true_eq];simp only [Bool.and_eq_true,Bool.not_eq_true',decide_eq_false_iff_not,zi3,Decidable.not_not,GPair.b]
  rw [hr]
  cases decide (fH p (cI p.Rules.Pairs i).A<0) <;> cases decide (fH p (cI p.Rules.Pairs i).B<0) <;> rfl
 ·rw [zct (n:=(cI p.Domains i).Channels.length) (z:=some false) (zia (cI p.Domains i).Channels) (fun k nx hk=>?_)]
  ·have hr:zko (d7 p).ds i=(inB (cI p.Domains i).Station 0 511&&(!(decide (0<(i:Int))&&decide ((cI p.Domains i).Station≤(cI p.Domains (i - 1)).Station))&&(!decide (50<((cI p.Domains i).Channels.length:Int))&&(List.range (cI p.Domains i).Channels.length).all (zia (cI p.Domains i).Channels)))):=by
    unfold zko;rw [n0 i hi,n0 (i - 1) a6,Bool.eq_iff_iff,decide_eq_true_eq];simp only [Bool.and_eq_true,Bool.not_eq_true',Bool.and_eq_false_iff,decide_eq_false_iff_not,GDomain.b];constructor
    ·rintro ⟨⟨h1,h2,h3⟩,h4⟩;exact ⟨h1,by rcases Nat.eq_zero_or_pos i with h|h;exact .inl a6;exact .inr (by have:=h2 h;omega),by omega,h4⟩
    ·rintro ⟨h1,h2,h3,h4⟩;exact ⟨⟨h1,fun h=>by omega,by omega⟩,h4⟩
   rw [hr,zcs,zd9]
   cases inB (cI p.Domains i).Station 0 511
   ·rfl
   cases (decide (0<(i:Int))&&decide ((cI p.Domains i).Station≤(cI p.Domains (i - 1)).Station))
   rotate_left
   ·rfl
   cases decide (50<((cI p.Domains i).Channels.length:Int))
   rotate_left
   ·rfl
   rfl
  ·have hr:zia (cI p.Domains i).Channels k=(!decide (cI (cI p.Domains i).Channels k<2)&&(!decide (51<cI (cI p.Domains i).Channels k)&& !(decide (0<(k:Int))&&decide (cI (cI p.Domains i).Channels k≤cI (cI p.Domains i).Channels (k - 1))))):=by
    unfold zia;rw [Bool.eq_iff_iff,decide_eq_true_eq];simp only [Bool.and_eq_true,Bool.not_eq_true',Bool.and_eq_false_iff,decide_eq_false_iff_not];omega
   rw [hr,zcs]
   cases decide (cI (cI p.Domains i).Channels k<2)
   rotate_left
   ·rfl
   cases decide (51<cI (cI p.Domains i).Channels k)
   rotate_left
   ·rfl
   cases (decide (0<(k:Int))&&decide (cI (cI p.Domains i).Channels k≤cI (cI p.Domains i).Channels (k - 1))) <;> rfl
theorem zoo {p:GProblem}{a b:Int}{fuel:Nat}(hf:1000≤fuel):∃r,zcy fuel p a b=some r:=by
 unfold zcy;simp only [dQ];refine zeo (σ:=Int) (I:=fun i=>0≤i∧i≤600) (μ:=fun i=>(600 - i).toNat) (post:=fun o=>∃r,o=some r) ⟨by omega,by omega⟩ a6 ?_;intro i next hi hn;by_cases h1:i<(p.Domains.length:Int) <;> by_cases h2:i<600
 ·rw [decide_eq_true h1,decide_eq_true h2,Bool.and_true,cond_true,fN ⟨hi.1,h1⟩]
  cases decide (60<((cI p.Domains i.toNat).Channels.length:Int))
  ·exact hn _ ⟨by omega,by omega⟩ a6
  ·exact ⟨_,rfl⟩
 ·rw [decide_eq_false h2,Bool.and_false,cond_false];exact ⟨_,rfl⟩
 ·rw [decide_eq_false h1,Bool.false_and,cond_false];exact ⟨_,rfl⟩
 ·rw [decide_eq_false h1,Bool.false_and,cond_false];exact ⟨_,rfl⟩
theorem gw {s c:Int}{x:GDomain}{q:Int}:q∈(i5 s c x).Channels↔q∈x.Channels∧(x.Station=s→q=c):=by
 unfold i5;dsimp only;by_cases hs:x.Station=s
 ·rw [decide_eq_true hs,cond_true]
  cases ha:x.Channels.any (fun k=>decide (k=c)) with
  |true=>
   rw [cond_true];obtain ⟨k,hk,he⟩:=List.any_eq_true.1 ha;have:=of_decide_eq_true he;subst this;simp only [List.mem_singleton];exact ⟨fun h=>by subst h;exact ⟨hk,fun _=>rfl⟩,fun h=>h.2 hs⟩
  |false=>
   rw [cond_false];refine ⟨(fun h=>by cases h),fun h=>?_⟩;have:=h.2 hs;subst this;have:=List.any_eq_false.1 ha q h.1;simp at this
 ·rw [decide_eq_false hs,cond_false];exact ⟨fun h=>⟨h,fun h2=>absurd h2 hs⟩,fun h=>h.1⟩
theorem ziM {s c:Int}{x:GDomain}:(i5 s c x).Channels.Sublist x.Channels:=by
 unfold i5;dsimp only
 cases decide (x.Station=s)
 ·exact eX
 ·cases ha:x.Channels.any (fun k=>decide (k=c))
  ·exact List.nil_sublist _
  ·obtain ⟨k,hk,he⟩:=List.any_eq_true.1 ha;have:=of_decide_eq_true he;subst this;exact List.singleton_sublist.2 hk
section
variable {p:GProblem}{a b d:List GDomain}
theorem mX {s c:Int}:SubD (d.map (i5 s c)) d∧OrdD (d.map (i5 s c)) d:=by
 refine ⟨⟨List.length_map _,fun i hi=>?_⟩,fun i hi=>?_⟩
 ·rw [ie hi];exact ⟨rfl,fun k hk=>(gw.1 hk).1⟩
 ·rw [ie hi];exact ziM
theorem zmo {s c:Int}(h:SubD a b):SubD (a.map (i5 s c)) (b.map (i5 s c)):=by
 refine ⟨by rw [List.length_map,List.length_map,h.1],fun i hi=>?_⟩;rw [List.length_map] at hi;rw [ie hi,ie (by rw [h.1];exact hi)];have h2:=h.2 i hi;refine ⟨h2.1,fun k hk=>?_⟩;rw [gw] at hk ⊢;exact ⟨h2.2 k hk.1,fun e=>hk.2 (h2.1.trans e)⟩
theorem OrdD.trans {c:List GDomain}(h:OrdD a b)(k:OrdD b c)(hl:b.length=c.length):OrdD a c:=fun i hi=>(h i (by rw [hl];exact hi)).trans (k i hi)
theorem Bd.ord (hb:Bd b)(hl:a.length=b.length)(h:OrdD a b):Bd a:=by
 refine ⟨by rw [hl];exact hb.len,fun x hx=>?_⟩;obtain ⟨i,hi,rfl⟩:=gp hx; (have hi':i<b.length:=by rw [←hl];exact hi);have h2:=hb.ch _ (eo hi');exact ⟨Nat.le_trans (h i hi').length_le h2.1,h2.2.sublist (h i hi')⟩
theorem zdL:∀ {a b:List GDomain},a.length=b.length→OrdD a b→ey a≤ey b
 | [],[],_,_=>Nat.le_refl _
 |x :: r,y :: q,hl,h=>by
  have h0:=(h 0 b2).length_le
  have ih:=zdL (a:=r) (b:=q) (by simpa using hl) (fun i hi=>by
   have:=h (i+1) cF
   simpa [cI] using this)
  simp only [ey,List.map_cons,List.sum_cons] at ih ⊢;have e1:cI (x :: r) 0=x:=rfl;have e2:cI (y :: q) 0=y:=rfl;rw [e1,e2] at h0;omega
theorem PropD.eq {r r':List GDomain×Bool}(hb:Bd d)(h:PropD p d r)(h':PropD p d r'):r=r':=by
 rcases h with ⟨h1,h2,h3,h4⟩|⟨h1,h2⟩
 ·rcases h' with ⟨g1,g2,g3,g4⟩|⟨g1,g2⟩
  ·have e1:=h4 _ g2 g3.1;have e2:=g4 _ h2 h3.1
   have:r.1=r'.1:=by
    refine zd8 (by rw [e2.1]) fun i hi=>?_; (have hi1:i<r'.1.length:=by rw [←e2.1];exact hi); (have hid:i<d.length:=by rw [←h3.1.1];exact hi);have a1:=e1.2 i hi;have a2:=e2.2 i hi1;have hch:(cI r.1 i).Channels=(cI r'.1 i).Channels:=zdl (h3.2 i hid) (g3.2 i hid) (hb.ch _ (eo hid)).2 (fun x=>⟨a2.2 x,a1.2 x⟩)
    cases hx:cI r.1 i with
    |mk s1 c1=>
     cases hy:cI r'.1 i with
     |mk s2 c2=>
      have b1:=a2.1;rw [hx,hy] at b1 hch;simp only at b1 hch;rw [b1,hch]
   exact Prod.ext this (h1.trans g1.symm)
  ·exact absurd h3.1 (g2 _ h2)
 ·rcases h' with ⟨g1,g2,g3,g4⟩|⟨g1,g2⟩
  ·exact absurd g3.1 (h2 _ g2)
  ·rw [h1,g1]
theorem PropD.keep {m r:List GDomain×Bool}{s c:Int}(h:PropD p d m)(hm:m.2=true)(hr:PropD p (m.1.map (i5 s c)) r):PropD p (d.map (i5 s c)) r:=by
 rcases h with ⟨_,h2,h3,h4⟩|⟨h1,_⟩
 ·have hsup:∀S,ClosedD p S→SubD S (d.map (i5 s c))→SubD S (m.1.map (i5 s c)):=fun S hS hs=>by
   have h5:=h4 S hS (hs.trans mX.1);refine ⟨by rw [List.length_map];exact h5.1,fun i hi=>?_⟩;rw [List.length_map] at hi; (have hid:i<d.length:=by rw [←h3.1.1];exact hi);rw [ie hi];have h6:=h5.2 i hi;refine ⟨h6.1,fun k hk=>gw.2 ⟨h6.2 k hk,fun e=>?_⟩⟩;have h7:=(hs.2 i (by rw [List.length_map];exact hid)).2 k hk;rw [ie hid] at h7;exact (gw.1 h7).2 (by rw [←(h3.1.2 i hid).1];exact e)
  rcases hr with ⟨g1,g2,g3,g4⟩|⟨g1,g2⟩
  ·refine .inl ⟨g1,g2,⟨g3.1.trans (zmo h3.1),fun i hi=>?_⟩,fun S hS hs=>g4 S hS (hsup S hS hs)⟩;rw [List.length_map] at hi; (have hi':i<m.1.length:=by rw [h3.1.1];exact hi);have h8:=g3.2 i (by rw [List.length_map];exact hi');rw [ie hi'] at h8;rw [ie hi];refine h8.trans ?_;have hst:=(h3.1.2 i hi).1;have hsb:=h3.2 i hi;unfold i5;dsimp only;rw [hst]
   cases decide ((cI d i).Station=s)
   ·exact hsb
   ·cases ha:(cI m.1 i).Channels.any (fun k=>decide (k=c))
    ·exact List.nil_sublist _
    ·obtain ⟨k,hk,he⟩:=List.any_eq_true.1 ha;rw [List.any_eq_true.2 ⟨k,hsb.subset hk,he⟩];exact eX
  ·exact .inr ⟨g1,fun S hS hs=>g2 S hS (hsup S hS hs)⟩
 ·rw [h1] at hm;cases hm
theorem PropD.keepBad {m:List GDomain×Bool}{d':List GDomain}(h:PropD p d m)(hm:m.2=false)(hs:SubD d' d):PropD p d' m:=by
 rcases h with ⟨h1,_⟩|⟨h1,h2⟩
 ·rw [h1] at hm;cases hm
 ·exact .inr ⟨h1,fun S hS hh=>h2 S hS (hh.trans hs)⟩
theorem PropD.ord {m:List GDomain×Bool}(h:PropD p d m)(hm:m.2=true):m.1.length=d.length∧OrdD m.1 d:=by
 rcases h with ⟨_,_,h3,_⟩|⟨h1,_⟩
 ·exact ⟨h3.1.1,h3.2⟩
 ·rw [h1] at hm;cases hm
def lq (l:List GChoice)(i:Nat):Bool:=inB (cI l i).Station 0 511&&(inB (cI l i).Channel 2 51&& !(decide (0<(i:Int))&&decide ((cI l i).Station≤(cI l (i - 1)).Station)))
theorem zd6 {l:List GChoice}:mr l=(List.range l.length).all (lq l):=by
 unfold mr;refine ku ?_;rw [zec (lq l) (fun i next _=>?_),Bool.and_true];rw [zcs,zd9]
 have e:lq l i=(inB (cI l i).Station 0 511&&(!decide ((cI l i).Channel<2)&&(!decide (51<(cI l i).Channel)&& !(decide (0<(i:Int))&&decide ((cI l i).Station≤(cI l (i - 1)).Station))))):=by
  unfold lq;rw [←Bool.and_assoc (!decide _)]
  congr 1
  congr 1
  unfold inB;by_cases h1:2≤(cI l i).Channel <;> by_cases h2:(cI l i).Channel≤51 <;> simp [h1,h2,Int.not_lt,Int.not_le] <;> omega
 rw [e]
 cases inB (cI l i).Station 0 511 <;> cases decide ((cI l i).Channel<2) <;> cases decide (51<(cI l i).Channel) <;> cases (decide (0<(i:Int))&&decide ((cI l i).Station≤(cI l (i - 1)).Station)) <;> rfl
theorem zoU (p:GProblem):(d7 p).er=p:=by
 unfold d7 Pb.er;dsimp only;rw [zeD (g:=Dx.er) (fun _=>rfl),zeD (g:=Pr.er) (fun _=>rfl),zeD (g:=Ld.er) (fun _=>rfl),zeD (g:=Cp.er) (fun _=>rfl)]
theorem zi0 {d:List GDomain}{n:Nat}(h:∀x∈d,x.Channels.length≤n):ey d≤d.length*n:=by
 induction d with
 |nil=>simp [ey]
 |cons x r ih=>
  have h1:=h x b2;have h2:=ih (fun y hy=>h y (by simp [hy]));simp only [ey,List.map_cons,List.sum_cons,List.length_cons,Nat.add_mul] at h2 ⊢;omega
theorem zfF (h:eN p=true):WtP p∧Bd p.Domains∧ey p.Domains≤30000∧p.Domains.length≤512:=by
 have hG:=Pb.good h;have hw:=zn3 h;rw [zoU] at hw;have hl:(d7 p).ds.length=p.Domains.length:=List.length_map _; (have hn:p.Domains.length≤512:=by rw [←hl];exact hG.n)
 have hc:∀x∈p.Domains,x.Channels.length≤52∧x.Channels.Nodup:=fun x hx=>by
  obtain ⟨i,hi,rfl⟩:=gp hx;have e:cI (d7 p).ds i=(cI p.Domains i).b:=jH hi;have h1:=hG.chs _ (eo (show i<(d7 p).ds.length by rw [hl];exact hi));have h2:=zk3 h (i:=i) (by rw [hl];exact hi);rw [e] at h1 h2;exact ⟨h1.1,(zeu List.nodup_range').sublist h2⟩
 refine ⟨hw,⟨by omega,fun x hx=>⟨by have:=(hc x hx).1;omega,(hc x hx).2⟩⟩,?_,hn⟩;have:=zi0 (d:=p.Domains) (n:=52) (fun x hx=>(hc x hx).1);omega
theorem ld {s:Int}:fH p s<0↔fY p s=false:=zmd
end
structure GG (p:GProblem):Prop where
 n:p.Domains.length≤512
 st:∀x∈p.Domains,0≤x.Station∧x.Station≤511
 chs:∀x∈p.Domains,x.Channels.length≤52∧∀c∈x.Channels,2≤c∧c≤51
 inc:∀i j,i<j→j<p.Domains.length→(cI p.Domains i).Station<(cI p.Domains j).Station
 ps:∀x∈p.Rules.Pairs,(fY p x.A=true∧fY p x.B=true)∧(x.A<x.B∧ -1≤x.Offset∧x.Offset≤1)∧2≤x.Low∧x.Low≤x.High∧x.High≤51
 ls:∀x∈p.Rules.Loads,(fY p x.To=true∧fY p x.From=true)∧(x.To≠x.From∧1≤x.Weight∧x.Weight≤1073741824)∧2≤x.Low∧x.Low≤x.High∧x.High≤51
 cs:∀x∈p.Rules.Caps,fY p x.Station=true∧(0≤x.Max∧x.Max≤1099511627776)∧2≤x.Low∧x.Low≤x.High∧x.High≤51
 lls:p.Rules.Loads.length≤1024
 lps:p.Rules.Pairs.length≤4096
 lcs:p.Rules.Caps.length≤1024
theorem eA {p:GProblem}{s:Int}:fY p s=true↔∃x∈p.Domains,x.Station=s:=by
 unfold fY;rw [List.any_eq_true];simp only [decide_eq_true_eq]
theorem zfb {p:GProblem}(h:eN p=true):GG p:=by
 have hG:=Pb.good h;have hl:(d7 p).ds.length=p.Domains.length:=List.length_map _;have hn:∀i,i<p.Domains.length→cI (d7 p).ds i=(cI p.Domains i).b:=fun i hi=>ie hi
 have hs:∀ {s:Int},(∃i,i<(d7 p).ds.length∧s=(cI (d7 p).ds i).st)→fY p s=true:=fun ⟨i,hi,e⟩=>by
  rw [hl] at hi;rw [hn i hi] at e;exact eA.2 ⟨_,eo hi,e.symm⟩
 refine ⟨by rw [←hl];exact hG.n,fun x hx=>hG.st x.b (List.mem_map.2 ⟨x,hx,rfl⟩),fun x hx=>hG.chs x.b (List.mem_map.2 ⟨x,hx,rfl⟩),fun i j hij hj=>?_,fun x hx=>?_,fun x hx=>?_,fun x hx=>?_,?_,?_,?_⟩
 ·have:=hG.inc i j hij (by rw [hl];exact hj);rw [hn i a6,hn j hj] at this;exact this
 ·obtain ⟨h1,h2,h3⟩:=hG.ps x.b (List.mem_map.2 ⟨x,hx,rfl⟩);simp only [Pr.ok,fh,inB,Bool.and_eq_true,decide_eq_true_eq] at h1;exact ⟨⟨hs h2,hs h3⟩,by show x.A<x.B∧_;exact ⟨h1.2.2.1,h1.2.2.2.1.1,h1.2.2.2.1.2⟩,h1.2.2.2.2.1,h1.2.2.2.2.2.1,h1.2.2.2.2.2.2⟩
 ·obtain ⟨h1,h2,h3⟩:=hG.ls x.b (List.mem_map.2 ⟨x,hx,rfl⟩);simp only [Ld.ok,fh,inB,Bool.and_eq_true,decide_eq_true_eq] at h1;exact ⟨⟨hs h2,hs h3⟩,⟨h1.2.2.1,h1.2.2.2.1.1,h1.2.2.2.1.2⟩,h1.2.2.2.2.1,h1.2.2.2.2.2.1,h1.2.2.2.2.2.2⟩
 ·obtain ⟨h1,h2⟩:=hG.cs x.b (List.mem_map.2 ⟨x,hx,rfl⟩);simp only [Cp.ok,fh,inB,Bool.and_eq_true,decide_eq_true_eq] at h1;exact ⟨hs h2,⟨h1.2.1.1,h1.2.1.2⟩,h1.2.2.1,h1.2.2.2.1,h1.2.2.2.2⟩
 ·have:=hG.lls;have e:(d7 p).ls.length=p.Rules.Loads.length:=List.length_map _;omega
 ·have:=hG.lps;have e:(d7 p).ps.length=p.Rules.Pairs.length:=List.length_map _;omega
 ·have:=hG.lcs;have e:(d7 p).cs.length=p.Rules.Caps.length:=List.length_map _;omega
theorem zbZ {σ ρ:Type}{f:Nat→(σ→ρ)→σ→ρ}{k:σ→ρ}{n:Nat}{s:σ}(q:Nat→Bool)(v:Nat→ρ)(hf:∀i next,i<n→f i next s=bif q i then v i else next s):dk f k n 0 s=match (List.range n).find? q with|some i=>v i|none=>k s:=by
 have key:∀m i,i+m=n→dk f k m i s=match (List.range' i m).find? q with|some i=>v i|none=>k s:=by
  intro m
  induction m with
  |zero=>intro i _;rfl
  |succ m ih=>
   intro i e
   show f i (dk f k m (i+1)) s=_
   rw [hf i _ a6,ih (i+1) a6,List.range'_succ,List.find?_cons]
   cases q i <;> rfl
 rw [key n 0 a6,List.range_eq_range']
def ff (l:List GChoice)(n:Int):Int:=match l.find? (fun c=>decide (c.Station=n)) with|some c=>c.Channel|none=>0
theorem zkK {α:Type}[Inhabited α]{l:List α}{q:α→Bool}:((List.range l.length).find? fun i=>q (cI l i)).map (cI l)=l.find? q:=by
 induction l with
 |nil=>rfl
 |cons x r ih=>
  rw [List.length_cons,List.range_succ_eq_map,List.find?_cons,List.find?_cons];have e:cI (x :: r) 0=x:=rfl;rw [e]
  cases q x with
  |true=>rfl
  |false=>
   show Option.map (cI (x :: r)) (List.find? (fun i=>q (cI (x :: r) i)) ((List.range r.length).map Nat.succ))=r.find? q
   rw [List.find?_map,Option.map_map,←ih]
   congr 1
theorem m6 {l:List GChoice}{n:Int}:gR l n=ff l n:=by
 unfold gR ff;refine ku ?_;rw [zbZ (fun i=>decide ((cI l i).Station=n)) (fun i=>(cI l i).Channel) (fun i next _=>rfl),←zkK (l:=l) (q:=fun c=>decide (c.Station=n))]
 cases (List.range l.length).find? fun i=>decide ((cI l i).Station=n) <;> rfl
structure ValidL (l:List GChoice):Prop where
 good:∀c∈l,0≤c.Station∧c.Station≤511∧2≤c.Channel∧c.Channel≤51
 inc:∀i j,i<j→j<l.length→(cI l i).Station<(cI l j).Station
theorem eM {l:List GChoice}:(List.range l.length).all (lq l)=true↔ValidL l:=by
 rw [List.all_eq_true];simp only [List.mem_range,lq,inB,Bool.and_eq_true,decide_eq_true_eq,Bool.not_eq_true',Bool.and_eq_false_iff,decide_eq_false_iff_not];constructor
 ·intro h;refine ⟨fun c hc=>?_,fun i j hij hj=>?_⟩
  ·obtain ⟨i,hi,rfl⟩:=gp hc;have:=h i hi;omega
  ·have key:∀m,i+m+1<l.length→(cI l i).Station<(cI l (i+m+1)).Station:=by
    intro m
    induction m with
    |zero=>intro hm;have:=(h (i+1) hm).2.2;rw [show i+1 - 1=i by omega] at this;rw [Nat.add_zero];omega
    |succ m ih=>intro hm;have h1:=ih a6;have:=(h (i+(m+1)+1) hm).2.2;rw [show i+(m+1)+1 - 1=i+m+1 by omega] at this;omega
   have:=key (j - i - 1) a6
   rwa [show i+(j - i - 1)+1=j by omega] at this
 ·intro h i hi;have:=h.good _ (eo hi);refine ⟨by omega,by omega,?_⟩;rcases Nat.eq_zero_or_pos i with h0|h0
  ·subst h0;left;omega
  ·right;have:=h.inc (i - 1) i a6 hi;omega
theorem ValidL.inj {l:List GChoice}(h:ValidL l){a b:GChoice}(ha:a∈l)(hb:b∈l)(e:a.Station=b.Station):a=b:=by
 obtain ⟨i,hi,rfl⟩:=gp ha;obtain ⟨j,hj,rfl⟩:=gp hb;rcases Nat.lt_trichotomy i j with h1|h1|h1
 ·have:=h.inc i j h1 hj;omega
 ·rw [h1]
 ·have:=h.inc j i h1 hi;omega
theorem zmv {l:List GChoice}{n:Int}(h:∀c∈l,c.Station≠n):ff l n=0:=by
 unfold ff;rw [List.find?_eq_none.2 (fun c hc=>by simpa using h c hc)]
theorem zjW {l:List GChoice}(h:ValidL l){c:GChoice}(hc:c∈l):ff l c.Station=c.Channel:=by
 unfold ff
 cases hf:l.find? (fun d=>decide (d.Station=c.Station)) with
 |none=>have:=List.find?_eq_none.1 hf c hc;simp at this
 |some d=>
  have h1:=List.find?_some hf;have h2:=List.mem_of_find?_eq_some hf;rw [h.inj h2 hc (by simpa using h1)]
theorem zn7 {l:List GChoice}{n:Int}(h:ff l n≠0):∃c∈l,c.Station=n∧c.Channel=ff l n:=by
 unfold ff at h ⊢
 cases hf:l.find? (fun d=>decide (d.Station=n)) with
 |none=>rw [hf] at h;exact absurd rfl h
 |some d=>exact ⟨d,List.mem_of_find?_eq_some hf,by simpa using List.find?_some hf,rfl⟩
def zjy (p:GProblem)(f:Int→Int)(t c:Int):Int:=p.Rules.Loads.foldl (fun n x=>bif decide (x.To=t)&&decide (f x.From=c)&&decide (x.Low≤c)&&decide (c≤x.High) then wI (n+x.Weight) else n) 0
theorem zoE {p:GProblem}{l:List GChoice}{t c:Int}:zce p t c l=zjy p (ff l) t c:=by
 unfold zce zjy;simp only [dQ,Nat.sub_zero,m6];rw [zhh (fun i n=>bif decide ((cI p.Rules.Loads i).To=t)&&decide (ff l (cI p.Rules.Loads i).From=c)&&decide ((cI p.Rules.Loads i).Low≤c)&&decide (c≤(cI p.Rules.Loads i).High) then wI (n+(cI p.Rules.Loads i).Weight) else n) (fun i next n _=>?_),zdj (l:=p.Rules.Loads) (g:=fun n x=>bif decide (x.To=t)&&decide (ff l x.From=c)&&decide (x.Low≤c)&&decide (c≤x.High) then wI (n+x.Weight) else n)]
 cases (decide ((cI p.Rules.Loads i).To=t)&&decide (ff l (cI p.Rules.Loads i).From=c)&&decide ((cI p.Rules.Loads i).Low≤c)&&decide (c≤(cI p.Rules.Loads i).High)) <;> rfl
def mK (f:Int→Int)(x:GPair):Bool:=decide (¬f x.A=0)&&decide (¬f x.B=0)&&decide (x.Low≤f x.A)&&decide (f x.A≤x.High)&&decide (f x.B=wI (f x.A+x.Offset))
def my (p:GProblem)(f:Int→Int)(x:GCap):Bool:=decide (¬f x.Station=0)&&decide (x.Low≤f x.Station)&&decide (f x.Station≤x.High)&&decide (x.Max<zjy p f x.Station (f x.Station))
theorem brP_x {l:List GChoice}{x:GPair}:zbk x l=mK (ff l) x:=by unfold zbk mK;simp only [m6]
theorem brC_x {p:GProblem}{l:List GChoice}{x:GCap}:zbs p x l=my p (ff l) x:=by unfold zbs my;simp only [m6,zoE]
def mf (l:List GChoice)(all:Bool)(x:GDomain):Bool:=(decide (ff l x.Station=0)&&all)||(decide (¬ff l x.Station=0)&& !(x.Channels.any fun k=>decide (k=ff l x.Station)))
def orV (k:Int)(o:Option Nat)(r:GViolation):GViolation:=match o with
 |some i=>⟨k,(i:Int)⟩
 |none=>r
theorem zf6 {k:Int}{o:Option Nat}{r:GViolation}(hk:k≠0):orV k o r=⟨0,0⟩↔o=none∧r=⟨0,0⟩:=by
 cases o <;> simp [orV,hk]
theorem zf9 {k:Int}{o:Option Nat}{r:GViolation}(hk:k≠0)(hr:r.Kind=0→r=⟨0,0⟩):(orV k o r).Kind=0→orV k o r=⟨0,0⟩:=by
 cases o
 ·exact hr
 ·intro h;exact absurd h hk
def zeC (p:GProblem)(l:List GChoice)(all:Bool):GViolation:=
 orV 1 ((List.range p.Domains.length).find? fun i=>mf l all (cI p.Domains i)) <|
 orV 2 ((List.range l.length).find? fun i=> !fY p (cI l i).Station) <|
 orV 3 ((List.range p.Rules.Pairs.length).find? fun i=>mK (ff l) (cI p.Rules.Pairs i)) <|
 orV 4 ((List.range p.Rules.Caps.length).find? fun i=>my p (ff l) (cI p.Rules.Caps i)) ⟨0,0⟩
theorem znZ {p:GProblem}{s:Int}:decide (fH p s<0)= !fY p s:=by
 have:=zmd (p:=p) (s:=s);unfold hasS at this;unfold fY
 cases h:p.Domains.any fun d=>decide (d.Station=s) with
 |true=>
  rw [h] at this;exact decide_eq_false (fun e=>by have:=this.1 e;cases this)
 |false=>exact decide_eq_true (this.2 h)
theorem znY {p:GProblem}{l:List GChoice}{all:Bool}:zba p l all=zeC p l all:=by
 unfold zba zeC;simp only [dQ,Nat.sub_zero,m6,zmE,znZ,brP_x,brC_x];rw [zbZ (fun i=>mf l all (cI p.Domains i)) (fun i=>GViolation.mk 1 (i:Int)) (fun i next _=>rfl)]
 cases (List.range p.Domains.length).find? (fun i=>mf l all (cI p.Domains i)) with
 |some i=>rfl
 |none=>
  dsimp only;rw [zbZ (fun i=> !fY p (cI l i).Station) (fun i=>GViolation.mk 2 (i:Int)) (fun i next _=>rfl)]
  cases (List.range l.length).find? (fun i=> !fY p (cI l i).Station) with
  |some i=>rfl
  |none=>
   dsimp only;rw [zbZ (fun i=>mK (ff l) (cI p.Rules.Pairs i)) (fun i=>GViolation.mk 3 (i:Int)) (fun i next _=>rfl)]
   cases (List.range p.Rules.Pairs.length).find? (fun i=>mK (ff l) (cI p.Rules.Pairs i)) with
   |some i=>rfl
   |none=>
    dsimp only;rw [zbZ (fun i=>my p (ff l) (cI p.Rules.Caps i)) (fun i=>GViolation.mk 4 (i:Int)) (fun i next _=>rfl)]
    cases (List.range p.Rules.Caps.length).find? (fun i=>my p (ff l) (cI p.Rules.Caps i)) <;> rfl
theorem zfX {α:Type}[Inhabited α]{l:List α}{q:α→Bool}:(List.range l.length).find? (fun i=>q (cI l i))=none↔∀x∈l,q x=false:=by
 rw [List.find?_eq_none];constructor
 ·intro h x hx;obtain ⟨i,hi,rfl⟩:=gp hx;simpa using h i (List.mem_range.2 hi)
 ·intro h i hi;simpa using h _ (eo (List.mem_range.1 hi))
structure FineP (p:GProblem) (l:List GChoice):Prop where
 val:ValidL l
 dom:∀x∈p.Domains,ff l x.Station∈x.Channels∧ff l x.Station≠0
 own:∀c∈l,fY p c.Station=true
 pr:∀x∈p.Rules.Pairs,mK (ff l) x=false
 cp:∀x∈p.Rules.Caps,my p (ff l) x=false
theorem zkB {p:GProblem}{l:List GChoice}{all:Bool}:zeC p l all=⟨0,0⟩↔(∀x∈p.Domains,mf l all x=false)∧(∀c∈l,fY p c.Station=true)∧(∀x∈p.Rules.Pairs,mK (ff l) x=false)∧∀x∈p.Rules.Caps,my p (ff l) x=false:=by
 rw [←zfX,←zfX (q:=mK (ff l)),←zfX (q:=my p (ff l))]
 have e:(∀c∈l,fY p c.Station=true)↔(List.range l.length).find? (fun i=> !fY p (cI l i).Station)=none:=by
  rw [zfX (q:=fun c:GChoice=> !fY p c.Station)];simp
 rw [e];unfold zeC;rw [zf6 a7,zf6 a7,zf6 a7,zf6 a7];simp
theorem zkh {p:GProblem}{l:List GChoice}{all:Bool}:(zeC p l all).Kind=0→zeC p l all=⟨0,0⟩:=by
 unfold zeC;exact zf9 a7 (zf9 a7 (zf9 a7 (zf9 a7 fun _=>rfl)))
theorem zm3 {l:List GChoice}{x:GDomain}:mf l true x=false↔ff l x.Station∈x.Channels∧ff l x.Station≠0:=by
 unfold mf;by_cases h:ff l x.Station=0 <;> simp [h]
theorem nf {p:GProblem}{l:List GChoice}:zbD p l=true↔FineP p l:=by
 unfold zbD;rw [zd6,znY,Bool.and_eq_true,eM,Bool.and_eq_true,decide_eq_true_eq,decide_eq_true_eq];have e:((zeC p l true).Kind=0∧(zeC p l true).At=0)↔zeC p l true=⟨0,0⟩:=⟨fun h=>zkh h.1,fun h=>by rw [h];exact ⟨rfl,rfl⟩⟩;rw [e,zkB];simp only [zm3];exact ⟨fun ⟨h1,h2,h3,h4,h5⟩=>⟨h1,h2,h3,h4,h5⟩,fun h=>⟨h.val,h.dom,h.own,h.pr,h.cp⟩⟩
def fW (d:List GDomain)(f:Int→Int):List GDomain:=d.map fun x=>⟨x.Station,[f x.Station]⟩
section
variable {p:GProblem}{f:Int→Int}
theorem zdB {s c:Int}(h:fY p s=true):iQ (fW p.Domains f) s c=decide (f s=c):=by
 rw [Bool.eq_iff_iff,eT,decide_eq_true_eq];obtain ⟨x,hx,rfl⟩:=eA.1 h;constructor
 ·intro h1;exact h1 _ (List.mem_map.2 ⟨x,hx,rfl⟩) rfl _ b2
 ·intro e y hy hs k hk;obtain ⟨z,hz,rfl⟩:=List.mem_map.1 hy;simp at hk;dsimp only at hs;rw [hk,hs,e]
theorem zfL {α β:Type}{g h:β→α→β}:∀ {l:List α} {b:β},(∀x∈l,∀b,g b x=h b x)→l.foldl g b=l.foldl h b
 | [],_,_=>rfl
 |x :: r,b,e=>by rw [List.foldl_cons,List.foldl_cons,e x b2,zfL (fun y hy=>e y (by simp [hy]))]
theorem zhM (hG:GG p){t c fr:Int}(hfr:fr<0∨f fr=c):ii p (fW p.Domains f) t c fr=zjy p f t c:=by
 unfold ii zjy;refine zfL fun x hx n=>?_;obtain ⟨⟨h1,h2⟩,_⟩:=hG.ls x hx
 congr 1
 unfold loadC;rw [zdB h2,Bool.eq_iff_iff];simp only [Bool.and_eq_true,Bool.or_eq_true,decide_eq_true_eq];constructor
 ·rintro ⟨⟨a1,a2,a3⟩,a4⟩;refine ⟨⟨⟨a1,?_⟩,a2⟩,a3⟩;rcases a4 with a4|a4
  ·rcases hfr with h3|h3
   ·obtain ⟨y,hy,e⟩:=eA.1 h2;have:=(hG.st y hy).1;omega
   ·rw [a4];exact h3
  ·exact a4
 ·rintro ⟨⟨⟨a1,a2⟩,a3⟩,a4⟩;exact ⟨⟨a1,a3,a4⟩, .inr a2⟩
theorem kE {s c l:Int}:kP p s c l=true↔∃x∈p.Rules.Caps,(x.Station=s∧x.Low≤c∧c≤x.High)∧x.Max<l:=by
 unfold kP;rw [List.any_eq_true];simp only [Bool.and_eq_true,decide_eq_true_eq]
theorem zgk (hG:GG p)(hf:∀x∈p.Domains,1≤f x.Station∧f x.Station≤1000):ClosedD p (fW p.Domains f)↔(∀x∈p.Rules.Pairs,mK f x=false)∧∀x∈p.Rules.Caps,my p f x=false:=by
 have hfs:∀ {s},fY p s=true→1≤f s∧f s≤1000:=fun h=>by
  obtain ⟨x,hx,rfl⟩:=eA.1 h;exact hf x hx
 constructor
 ·intro h
  have calm:∀ {s},fY p s=true→iA p (fW p.Domains f) s (f s)=false:=fun hs=>by
   obtain ⟨x,hx,rfl⟩:=eA.1 hs;exact h.calm ⟨x.Station,[f x.Station]⟩ (List.mem_map.2 ⟨x,hx,rfl⟩) _ b2
  refine ⟨fun x hx=>?_,fun x hx=>?_⟩
  ·obtain ⟨⟨h1,h2⟩,_⟩:=hG.ps x hx
   cases hb:mK f x with
   |false=>rfl
   |true=>
    unfold mK at hb;simp only [Bool.and_eq_true,decide_eq_true_eq] at hb;have h3:=calm h1
    have h4:mL (fW p.Domains f) x.A (f x.A) x=true:=by
     unfold mL;rw [zdB h2];simp only [Bool.or_eq_true,Bool.and_eq_true,decide_eq_true_eq];exact .inl ⟨⟨trivial,hb.1.1.2,hb.1.2⟩,hb.2⟩
    unfold iA at h3;rw [List.any_eq_true.2 ⟨x,hx,h4⟩] at h3
    cases h3
  ·obtain ⟨h1,_⟩:=hG.cs x hx
   cases hb:my p f x with
   |false=>rfl
   |true=>
    unfold my at hb;simp only [Bool.and_eq_true,decide_eq_true_eq] at hb;have h3:=calm h1
    have h4:kP p x.Station (f x.Station) (ii p (fW p.Domains f) x.Station (f x.Station) (-1))=true:=by
     rw [zhM hG (.inl a6)];exact kE.2 ⟨x,hx,⟨rfl,hb.1.1.2,hb.1.2⟩,hb.2⟩
    unfold iA at h3;rw [h4] at h3;simp at h3
 ·rintro ⟨hp,hc⟩
  have hov:∀ {s},fY p s=true→kP p s (f s) (zjy p f s (f s))=false:=fun {s} hs=>by
   cases ho:kP p s (f s) (zjy p f s (f s)) with
   |false=>rfl
   |true=>
    obtain ⟨x,hx,⟨rfl,h2,h3⟩,h4⟩:=kE.1 ho;have h5:=hc x hx;have:=hfs hs;unfold my at h5;rw [decide_eq_true (show ¬f x.Station=0 by omega),decide_eq_true h2,decide_eq_true h3,decide_eq_true h4] at h5
    cases h5
  refine ⟨fun x hx=>?_,fun x hx c hcx=>?_⟩
  ·obtain ⟨y,hy,rfl⟩:=List.mem_map.1 hx;simp
  ·obtain ⟨y,hy,rfl⟩:=List.mem_map.1 hx;simp at hcx;subst hcx;have hs:fY p y.Station=true:=eA.2 ⟨y,hy,rfl⟩;have hfy:=hfs hs;dsimp only;unfold iA;rw [zhM hG (.inl a6),hov hs,Bool.or_false,Bool.or_eq_false_iff,List.any_eq_false,List.any_eq_false];refine ⟨fun x hx=>?_,fun x hx=>?_⟩
   ·obtain ⟨⟨h1,h2⟩,⟨_,h3,h4⟩,_⟩:=hG.ps x hx;have h5:=hp x hx;have hA:=hfs h1;have hB:=hfs h2;unfold mL;rw [zdB h1,zdB h2];intro hh;simp only [Bool.or_eq_true,Bool.and_eq_true,decide_eq_true_eq] at hh;unfold mK at h5;rw [nh a6] at h5;simp only [Bool.and_eq_false_iff,decide_eq_false_iff_not] at h5;rcases hh with ⟨⟨a1,a2,a3⟩,a4⟩|⟨⟨a1,a2,a3⟩,a4⟩
    ·subst_vars
     rw [nh a6] at a4;rw [←a1] at a2 a3 a4;omega
    ·rw [nh a6] at a2 a3 a4;rw [←a1] at a2 a3 a4;omega
   ·obtain ⟨⟨h1,h2⟩,_⟩:=hG.ls x hx;unfold loadR;rw [zdB h1];intro hh;simp only [Bool.and_eq_true,decide_eq_true_eq] at hh;obtain ⟨⟨⟨a1,a2⟩,a3⟩,a4⟩:=hh;have h6:=hov h1;rw [zhM hG (.inr rfl),←a3] at a4;rw [h6] at a4
    cases a4
end
theorem zl1 (n:Nat):zbn (n+100000)=some true:=by kernel_rfl
theorem zlM {fuel:Nat}(hf:100000≤fuel):zbn fuel=some true:=by
 obtain ⟨n,rfl⟩:∃n,fuel=n+100000:=⟨fuel - 100000,by omega⟩;exact zl1 n
theorem zfG {l:List GChoice}:ll l=(List.range l.length).all (lq l):=by
 unfold ll;refine ku ?_;rw [zec (lq l) (fun i next _=>?_),Bool.and_true];rw [zcs];unfold lq
 show (bif !(inB (cI l i).Station 0 511)|| !(inB (cI l i).Channel 2 51) then false else _)=_
 cases inB (cI l i).Station 0 511 <;> cases inB (cI l i).Channel 2 51 <;> cases (decide (0<(i:Int))&&decide ((cI l i).Station≤(cI l (i - 1)).Station)) <;> rfl
theorem zha (s:List Int)(v:Int):nb s v=s.any fun x=>decide (x=v):=by
 have e:zaT s v=match (List.range s.length).find? (fun i=>decide (v=cI s i)) with|some i=>(i:Int)|none=> -1:=by
  unfold zaT;refine ku ?_;rw [zbZ (fun i=>decide (v=cI s i)) (fun i=>(i:Int)) (fun i next _=>rfl)]
  all_goals (cases (List.range s.length).find? fun i=>decide (v=cI s i) <;> rfl)
 unfold nb;rw [e,Bool.eq_iff_iff,List.any_eq_true]
 cases h:(List.range s.length).find? fun i=>decide (v=cI s i) with
 |none=>
  have h2:=List.find?_eq_none.1 h;constructor
  ·intro h3;exact absurd (of_decide_eq_true h3) a7
  ·rintro ⟨x,hx,h3⟩;obtain ⟨i,hi,rfl⟩:=gp hx;exact absurd (decide_eq_true (of_decide_eq_true h3).symm) (h2 i (List.mem_range.2 hi))
 |some i=>
  have h2:=List.find?_some h;have h3:=List.mem_range.1 (List.mem_of_find?_eq_some h);constructor
  ·intro _;exact ⟨cI s i,eo h3,decide_eq_true (of_decide_eq_true h2).symm⟩
  ·intro _;exact decide_eq_true (show (0:Int)≤(i:Int) by omega)
def ez (l:List GDomain)(i:Int):Int:=((cI l i.toNat).Channels.length:Int)
def stB (l:List GDomain)(i:Nat)(b:Int):Int:=if b<0∨(1<ez l i∧(ez l b≤1∨ez l i<ez l b)) then (i:Int) else b
def stA (l:List GDomain)(i:Nat)(a:Int):Int:=if 1<ez l i∧(a<0∨ez l i<ez l a) then (i:Int) else a
def lQ (l:List GDomain)(n:Nat):Int:=(List.range n).foldl (fun s i=>stB l i s) (-1)
def jk (l:List GDomain)(n:Nat):Int:=(List.range n).foldl (fun s i=>stA l i s) (-1)
theorem znt (l : List GDomain) : ∀ m, (jk l m = -1 ∧ (m = 0 ∧ lQ l m = -1 ∨ 0 ≤ lQ l m ∧ lQ l m < m ∧ ez l (lQ l m) ≤ 1)) ∨ (jk l m = lQ l m ∧ 0 ≤ lQ l m ∧ lQ l m < m ∧ 1 < ez l (lQ l m))
  | 0 => .inl ⟨rfl, .inl ⟨rfl, rfl⟩⟩
  | m + 1 => by
    have ih := znt l m; (have ea : jk l (m + 1) = stA l m (jk l m) := by unfold jk; rw [List.range_succ, List.foldl_append]; rfl); (have eb : lQ l (m + 1) = stB l m (lQ l m) := by unfold lQ; rw [List.range_succ, List.foldl_append]; rfl); rw [ea, eb]; generalize jk l m = a at *; generalize lQ l m = b at *; unfold stA stB; have e0 : ez l (m : Int) = ez l m := rfl; rcases ih with ⟨rfl, h⟩ | ⟨rfl, h1, h2, h3⟩
    · by_cases h1 : 1 < ez l m
      · rw [if_pos ⟨h1, .inl a7⟩]
        have : b < 0 ∨ (1 < ez l m ∧ (ez l b ≤ 1 ∨ ez l m < ez l b)) := by
          rcases h with ⟨_, rfl⟩ | ⟨_, _, h⟩
          · exact .inl a7
          · exact .inr ⟨h1, .inl h⟩
        rw [if_pos this]; exact .inr ⟨rfl, by omega, by omega, h1⟩
      · rw [if_neg (fun h => h1 h.1)];refine .inl ⟨rfl, .inr ?_⟩; rcases h with ⟨rfl, rfl⟩ | ⟨h2, h3, h4⟩
        · rw [if_pos (.inl a7)]; exact ⟨by omega, by omega, by omega⟩
        · rw [if_neg (by rintro (h | h); · omega
                         · exact h1 h.1)]
          exact ⟨h2, by omega, h4⟩
    · by_cases h4 : 1 < ez l m ∧ ez l m < ez l a
      · rw [if_pos ⟨h4.1, .inr h4.2⟩, if_pos (.inr ⟨h4.1, .inr h4.2⟩)]; exact .inr ⟨rfl, by omega, by omega, h4.1⟩
      · rw [if_neg (by rintro ⟨h5, h6 | h6⟩; · omega
                       · exact h4 ⟨h5, h6⟩), if_neg (by rintro (h5 | ⟨h5, h6 | h6⟩); · omega
                                                        · omega
                                                        · exact h4 ⟨h5, h6⟩)]
        exact .inr ⟨rfl, h1, by omega, h3⟩
theorem znP (l : List GDomain) : zaB l = some (lQ l l.length) := by
  unfold zaB;simp only [dQ, Nat.sub_zero]; refine (zdh (fun (i : Nat) (s : Int) => -1 ≤ s ∧ s < (i : Int)) (fun (i : Nat) (s : Int) => stB l i s) ⟨by decide, by decide⟩ (fun i s hi hs => ?_) (fun i next s hi hs => ?_)).1
  · unfold stB; split <;> omega
  · unfold stB; by_cases h : s < 0
    · rw [decide_eq_true h, cond_true, cond_true, if_pos (.inl h)]
    · rw [decide_eq_false h, cond_false, fN ⟨by omega, by omega⟩]
      have e : za7 (cI l i) (cI l s.toNat) = decide (1 < ez l i ∧ (ez l s ≤ 1 ∨ ez l i < ez l s)) := by
        unfold za7 ez; by_cases h1 : 1 < ((cI l i).Channels.length : Int) <;> by_cases h2 : ((cI l s.toNat).Channels.length : Int) ≤ 1 <;> by_cases h3 : ((cI l i).Channels.length : Int) < ((cI l s.toNat).Channels.length : Int) <;> simp [h1, h2, h3, dQ]
      rw [e]; by_cases h4 : 1 < ez l i ∧ (ez l s ≤ 1 ∨ ez l i < ez l s)
      · rw [decide_eq_true h4, cond_true, if_pos (.inr h4)]
      · rw [decide_eq_false h4, cond_false, if_neg (by rintro (h5 | h5); · exact h h5
                                                       · exact h4 h5)]
theorem znp (l:List GDomain):∀m,jk l m<0→∀i:Nat,i<m→ez l i≤1
 |0,_,i,hi=>absurd hi (Nat.not_lt_zero i)
 |m+1,h,i,hi=>by
  (have ea:jk l (m+1)=stA l m (jk l m):=by unfold jk;rw [List.range_succ,List.foldl_append];rfl);rw [ea] at h;unfold stA at h;by_cases h1:1<ez l m∧(jk l m<0∨ez l m<ez l (jk l m))
  ·rw [if_pos h1] at h;omega
  ·rw [if_neg h1] at h;rcases Nat.lt_or_ge i m with h2|h2
   ·exact znp l m h i h2
   ·(obtain rfl:i=m:=by omega);exact Int.not_lt.1 fun h3=>h1 ⟨h3, .inl h⟩
theorem ziX {l : List GDomain} {hints : List GChoice} (hok : eN ⟨l, ⟨[], [], []⟩⟩ = true) (hv : ValidL hints) :
    (∃ c, zbp l hints = some (c, true) ∧ za3 l hints = some (c, 0) ∧ ∃ x ∈ l, c.Station = x.Station ∧ c.Channel ∈ x.Channels ∧ 1 < x.Channels.length ∧ ∀ h ∈ hints, h.Station = x.Station → h.Channel ∈ x.Channels → c = h) ∨ (zbp l hints = some (⟨0, 0⟩, false) ∧ za3 l hints = some (⟨0, 0⟩, 9) ∧ ∀ x ∈ l, x.Channels.length ≤ 1) := by
  have hg := zfb hok
  have hp : ll hints = true := by
    rw [zfG]; exact eM.2 hv
  have hinv := znt l l.length
  have hall : jk l l.length < 0 → ∀ x ∈ l, x.Channels.length ≤ 1 := fun h x hx => by
    obtain ⟨i, hi, rfl⟩ := gp hx; have h1 := znp l _ h i hi; have h2 : ((cI l i).Channels.length : Int) ≤ 1 := h1; omega
  have hR : zbp l hints = (bif decide (jk l l.length < 0) then some ((GChoice.mk 0 0), false) else
      eG (0 ≤ jk l l.length ∧ jk l l.length < (l.length : Int)) <|
      (bif !(l6 ((cI l (jk l l.length).toNat).Channels) (gR hints ((cI l (jk l l.length).toNat).Station))) then
        eG (0 ≤ 0 ∧ 0 < (((cI l (jk l l.length).toNat).Channels).length : Int)) <|
        some ((GChoice.mk ((cI l (jk l l.length).toNat).Station) (cI ((cI l (jk l l.length).toNat).Channels) 0)), true)
        else
        some ((GChoice.mk ((cI l (jk l l.length).toNat).Station) (gR hints ((cI l (jk l l.length).toNat).Station))), true))) := by
    unfold zbp;simp only [dQ, Nat.sub_zero]; refine (zdh (fun (i : Nat) (s : Int) => -1 ≤ s ∧ s < (i : Int)) (fun (i : Nat) (s : Int) => stA l i s) ⟨by decide, by decide⟩ (fun i s hi hs => ?_) (fun i next s hi hs => ?_)).1
    · unfold stA; split <;> omega
    · unfold stA; by_cases h1 : 1 < ez l i
      · have h1' : 1 < ((cI l i).Channels.length : Int) := h1; rw [decide_eq_true h1', cond_true]; by_cases h : s < 0
        · rw [decide_eq_true h, cond_true, cond_true, if_pos ⟨h1, .inl h⟩]
        · rw [decide_eq_false h, cond_false, fN ⟨by omega, by omega⟩]; by_cases h2 : ez l i < ez l s
          · have h2' : ((cI l i).Channels.length : Int) < ((cI l s.toNat).Channels.length : Int) := h2; rw [decide_eq_true h2', cond_true, if_pos ⟨h1, .inr h2⟩]
          · have h2' : ¬ ((cI l i).Channels.length : Int) < ((cI l s.toNat).Channels.length : Int) := h2
            rw [decide_eq_false h2', cond_false, if_neg (by rintro ⟨_, h3 | h3⟩; · exact h h3
                                                            · exact h2 h3)]
      · have h1' : ¬ 1 < ((cI l i).Channels.length : Int) := h1; rw [decide_eq_false h1', cond_false, cond_false, if_neg (fun h => h1 h.1)]
  rw [hR]; unfold za3; rw [hok, hp, znP, Bool.not_true, Bool.or_false, cond_false, Option.bind_some];simp only [dQ, Nat.sub_zero]; generalize jk l l.length = a at *; generalize lQ l l.length = b at *; rcases hinv with ⟨rfl, h⟩ | ⟨rfl, h1, h2, h3⟩
  · right;refine ⟨rfl, ?_, hall a6⟩; rcases h with ⟨_, rfl⟩ | ⟨h1, h2, h3⟩
    · rfl
    · have h3' : ((cI l b.toNat).Channels.length : Int) ≤ 1 := h3; rw [decide_eq_false a6, cond_false, fN ⟨h1, h2⟩, decide_eq_true h3']; rfl
  · left; (have h3' : ¬ ((cI l a.toNat).Channels.length : Int) ≤ 1 := by have : 1 < ((cI l a.toNat).Channels.length : Int) := h3; omega); (have h4 : 0 < ((cI l a.toNat).Channels.length : Int) := by omega); have g1 : 0 ≤ a ∧ a < (l.length : Int) := ⟨h1, h2⟩; have hd : cI l a.toNat ∈ l := eo a6; have hch := (hg.chs (cI l a.toNat) hd).2; rw [decide_eq_false (show ¬ a < 0 by omega), cond_false, cond_false, fN ⟨h1, h2⟩, decide_eq_false h3', cond_false, fN ⟨by omega, h4⟩, m6, zmE]; generalize cI l a.toNat = d at *; rw [zbZ (fun i => (decide ((cI hints i).Station = d.Station) && nb d.Channels (cI hints i).Channel)) (fun i => some (cI hints i, 0)) (fun i next _ => rfl)]; by_cases hex : ∃ h ∈ hints, h.Station = d.Station
    · obtain ⟨h, hh, hst⟩ := hex
      have hon : ff hints d.Station = h.Channel := by
        unfold ff
        cases hf : hints.find? (fun c => decide (c.Station = d.Station)) with
        | none => exact absurd (decide_eq_true hst) (List.find?_eq_none.1 hf h hh)
        | some c =>
          have e0 := List.find?_some hf; have e1 := of_decide_eq_true e0; rw [hv.inj (List.mem_of_find?_eq_some hf) hh a6]
      rw [hon]
      cases hc : d.Channels.any fun k => decide (k = h.Channel) with
      | true =>
        cases hf : (List.range hints.length).find? fun i => (decide ((cI hints i).Station = d.Station) && nb d.Channels (cI hints i).Channel) with
        | none =>
          obtain ⟨i, hi, rfl⟩ := gp hh; have := List.find?_eq_none.1 hf i (List.mem_range.2 hi); rw [decide_eq_true hst, zha, hc] at this; exact absurd rfl this
        | some i =>
          have e1 := List.find?_some hf; have hi := List.mem_range.1 (List.mem_of_find?_eq_some hf); rw [Bool.and_eq_true, decide_eq_true_eq] at e1; have e2 : cI hints i = h := hv.inj (eo hi) hh a6
          refine ⟨⟨d.Station, h.Channel⟩, rfl, ?_, d, hd, rfl, (by
            obtain ⟨k, hk, h6⟩ := List.any_eq_true.1 hc
            rw [← of_decide_eq_true h6]; exact hk), by omega, fun h' hh' e' _ => by
              rw [hv.inj hh' hh a6, ← hst]⟩
          repeat rw [fN g1]
          rw [fN ⟨by omega, h4⟩]
          show some (cI hints i, (0 : Int)) = _
          rw [e2, ← hst]
      | false =>
        have hf : ((List.range hints.length).find? fun i => (decide ((cI hints i).Station = d.Station) && nb d.Channels (cI hints i).Channel)) = none := by
          refine List.find?_eq_none.2 fun i hi => ?_; rw [Bool.and_eq_true, decide_eq_true_eq]; rintro ⟨e1, e2⟩; have e3 : cI hints i = h := hv.inj (eo (List.mem_range.1 hi)) hh a6; rw [zha, e3, hc] at e2; cases e2
        rw [hf]
        refine ⟨_, rfl, ?_, d, hd, rfl, eo a6, by omega, fun h' hh' e' hm => by
          rw [hv.inj hh' hh a6] at hm
          exact absurd (List.any_eq_true.2 ⟨_, hm, decide_eq_true rfl⟩) (by rw [hc]; decide)⟩
        repeat rw [fN g1]
        rw [fN ⟨by omega, h4⟩]
    · have hon : ff hints d.Station = 0 := zmv fun c hc e => hex ⟨c, hc, e⟩
      have hno : (d.Channels.any fun k => decide (k = 0)) = false := by
        rw [Bool.eq_false_iff]; intro h5; obtain ⟨k, hk, h6⟩ := List.any_eq_true.1 h5; have := hch k hk; have := of_decide_eq_true h6; omega
      have hf : ((List.range hints.length).find? fun i => (decide ((cI hints i).Station = d.Station) && nb d.Channels (cI hints i).Channel)) = none := by
        refine List.find?_eq_none.2 fun i hi => ?_; rw [Bool.and_eq_true, decide_eq_true_eq]; rintro ⟨e1, _⟩; exact hex ⟨_, eo (List.mem_range.1 hi), e1⟩
      rw [hon, hno, hf];refine ⟨_, rfl, ?_, d, hd, rfl, eo a6, by omega, fun h' hh' e' _ => absurd ⟨h', hh', e'⟩ hex⟩
      repeat rw [fN g1]
      rw [fN ⟨by omega, h4⟩]
structure FiltD (f:GDomain→GDomain) (φ:Int→Int→Prop):Prop where
 st:∀x,(f x).Station=x.Station
 mem:∀x q,q∈(f x).Channels↔q∈x.Channels∧φ x.Station q
 sub:∀x,(f x).Channels.Sublist x.Channels
 mono:∀x y,x.Station=y.Station→x.Channels.Sublist y.Channels→(f x).Channels.Sublist (f y).Channels
theorem no:FiltD id (fun _ _=>True):=⟨fun _=>rfl,fun _ _=>by simp,fun _=>List.Sublist.refl _,fun _ _ _ h=>h⟩
theorem FiltD.keep (s c:Int):FiltD (i5 s c) (fun t q=>t=s→q=c):=by
 refine ⟨fun _=>rfl,fun _ _=>gw,fun _=>ziM,fun x y hst hsb=>?_⟩;unfold i5;dsimp only;rw [hst]
 cases decide (y.Station=s)
 ·exact hsb
 ·cases ha:x.Channels.any (fun k=>decide (k=c))
  ·exact List.nil_sublist _
  ·obtain ⟨k,hk,he⟩:=List.any_eq_true.1 ha;rw [List.any_eq_true.2 ⟨k,hsb.subset hk,he⟩];exact eX
theorem FiltD.drop (s c:Int):FiltD (je s c) (fun t q=>¬t=s∨¬q=c):=by
 refine ⟨fun _=>rfl,fun x q=>?_,fun _=>List.filter_sublist,fun x y hst hsb=>?_⟩
 ·unfold je;simp only [List.mem_filter,Bool.or_eq_true,decide_eq_true_eq]
 ·unfold je;dsimp only;rw [hst];exact hsb.filter _
section
variable {p:GProblem}{a b d:List GDomain}{f:GDomain→GDomain}{φ:Int→Int→Prop}
theorem FiltD.subD (h:FiltD f φ):SubD (d.map f) d∧OrdD (d.map f) d:=by
 refine ⟨⟨List.length_map _,fun i hi=>?_⟩,fun i hi=>?_⟩
 ·rw [ie hi];exact ⟨h.st _,fun c hc=>((h.mem _ _).1 hc).1⟩
 ·rw [ie hi];exact h.sub _
theorem FiltD.monoD (h:FiltD f φ)(hs:SubD a b):SubD (a.map f) (b.map f):=by
 refine ⟨by rw [List.length_map,List.length_map];exact hs.1,fun i hi=>?_⟩;rw [List.length_map] at hi;rw [ie hi,ie (by rw [hs.1];exact hi)];have h2:=hs.2 i hi;refine ⟨by rw [h.st,h.st];exact h2.1,fun c hc=>?_⟩;have h3:=(h.mem _ _).1 hc;exact (h.mem _ _).2 ⟨h2.2 c h3.1,by rw [←h2.1];exact h3.2⟩
theorem ln {m r:List GDomain×Bool}(hf:FiltD f φ)(h:PropD p d m)(hm:m.2=true)(hr:PropD p (m.1.map f) r):PropD p (d.map f) r:=by
 rcases h with ⟨_,h2,h3,h4⟩|⟨h1,_⟩
 ·have hsup:∀S,ClosedD p S→SubD S (d.map f)→SubD S (m.1.map f):=fun S hS hs=>by
   have h5:=h4 S hS (hs.trans hf.subD.1);refine ⟨by rw [List.length_map];exact h5.1,fun i hi=>?_⟩;rw [List.length_map] at hi; (have hid:i<d.length:=by rw [←h3.1.1];exact hi);rw [ie hi];have h6:=h5.2 i hi;refine ⟨by rw [hf.st];exact h6.1,fun k hk=>(hf.mem _ _).2 ⟨h6.2 k hk,?_⟩⟩;have h7:=(hs.2 i (by rw [List.length_map];exact hid)).2 k hk;rw [ie hid] at h7;rw [(h3.1.2 i hid).1];exact ((hf.mem _ _).1 h7).2
  rcases hr with ⟨g1,g2,g3,g4⟩|⟨g1,g2⟩
  ·refine .inl ⟨g1,g2,⟨g3.1.trans (hf.monoD h3.1),fun i hi=>?_⟩,fun S hS hs=>g4 S hS (hsup S hS hs)⟩;rw [List.length_map] at hi; (have hi':i<m.1.length:=by rw [h3.1.1];exact hi);have h8:=g3.2 i (by rw [List.length_map];exact hi');rw [ie hi'] at h8;rw [ie hi];exact h8.trans (hf.mono _ _ (h3.1.2 i hi).1 (h3.2 i hi))
  ·exact .inr ⟨g1,fun S hS hs=>g2 S hS (hsup S hS hs)⟩
 ·rw [h1] at hm;cases hm
def fR (keep:Bool)(c:GChoice):GDomain→GDomain:=bif kb c then (bif keep then i5 c.Station c.Channel else je c.Station c.Channel) else id
def actQ (keep:Bool)(c:GChoice)(s q:Int):Prop:=kb c=true→s=c.Station→(q=c.Channel↔keep=true)
theorem zdO (keep:Bool)(c:GChoice):FiltD (fR keep c) (actQ keep c):=by
 have key:∀ {φ ψ:Int→Int→Prop} {f:GDomain→GDomain},FiltD f φ→(∀s q,φ s q↔ψ s q)→FiltD f ψ:=fun h k=>⟨h.st,fun x q=>by rw [h.mem,k],h.sub,h.mono⟩;unfold fR actQ
 cases kb c
 ·exact key no (fun s q=>by simp)
 ·cases keep
  ·exact key (FiltD.drop _ _) (fun s q=>by simp;constructor <;> intro h <;> by_cases e:s=c.Station <;> simp_all)
  ·exact key (FiltD.keep _ _) (fun s q=>by simp)
theorem zk9 {fuel:Nat}(hf:100000≤fuel)(hok:eN p=true)(hd:SubD d p.Domains∧OrdD d p.Domains){m:List GDomain×Bool}(h:PropD p d m)(keep:Bool)(c:GChoice):∃r,mF fuel p m keep c=some (r,bif !kb c then 2 else bif !m.2 then 8 else bif !fY p c.Station then 9 else 0)∧PropD p (d.map (fR keep c)) r:=by
 obtain ⟨hw,hbd,ht,hn⟩:=zfF hok;unfold mF
 cases hg:kb c
 ·refine ⟨m,rfl,?_⟩; (have e:fR keep c=id:=by unfold fR;rw [hg];rfl);rw [e,List.map_id];exact h
 ·cases hm:m.2
  ·exact ⟨m,rfl,h.keepBad hm (zdO keep c).subD.1⟩
  ·cases hh:fY p c.Station
   ·refine ⟨m,rfl,?_⟩
    have e:d.map (fR keep c)=d:=by
     refine (List.map_congr_left (g:=id) fun x hx=>?_).trans (List.map_id _);obtain ⟨i,hi,rfl⟩:=gp hx; (have hi':i<p.Domains.length:=by rw [←hd.1.1];exact hi)
     have hne:¬(cI d i).Station=c.Station:=by
      rw [(hd.1.2 i hi').1];intro e;have:fY p c.Station=true:=List.any_eq_true.2 ⟨_,eo hi',by simpa using e⟩;rw [hh] at this;cases this
     unfold fR;rw [hg,cond_true]
     cases keep
     ·show je _ _ _=_
      unfold je;have:(cI d i).Channels.filter (fun k=>decide (¬(cI d i).Station=c.Station)||decide (¬k=c.Channel))=(cI d i).Channels:=List.filter_eq_self.2 (fun k _=>by simp [hne]);rw [this];rfl
     ·show i5 _ _ _=_
      unfold i5;rw [decide_eq_false hne];rfl
    rw [e];exact h
   ·have ho:=h.ord hm;have hol:=ho.2.trans hd.2 hd.1.1;have hlen:m.1.length=p.Domains.length:=ho.1.trans hd.1.1;have hb1:=hbd.ord hlen hol;have ht1:=zdL hlen hol;have hs:=(zdO keep c).subD (d:=m.1);have hb2:=hb1.ord hs.1.1 hs.2;have ht2:=zdL hs.1.1 hs.2;obtain ⟨r,h5,h6⟩:=zeJ (fuel:=fuel) hw hb2 (by rw [hs.1.1];omega) a6;refine ⟨r,?_,ln (zdO keep c) h hm h6⟩
    have e:(bif keep then zbE m.1 c.Station c.Channel else mU m.1 c.Station c.Channel)=some (m.1.map (fR keep c)):=by
     unfold fR;rw [hg]
     cases keep
     ·exact zmf hb1.len (fun x hx=>(hb1.ch x hx).1)
     ·exact zmp hb1.len (fun x hx=>(hb1.ch x hx).1)
    simp only [Bool.not_true,cond_false];rw [e,Option.bind_some,h5];rfl
end
theorem zfE {l:List GChoice}:ll l=(List.range l.length).all (lq l):=by
 unfold ll;refine ku ?_;rw [zec (lq l) (fun i next _=>?_),Bool.and_true];rw [zcs];unfold lq
 show (bif !(inB (cI l i).Station 0 511)|| !(inB (cI l i).Channel 2 51) then false else _)=_
 cases inB (cI l i).Station 0 511 <;> cases inB (cI l i).Channel 2 51 <;> cases (decide (0<(i:Int))&&decide ((cI l i).Station≤(cI l (i - 1)).Station)) <;> rfl
def mc (p:GProblem)(i:Nat)(n b:Nat):Prop:=∃j,j<i∧(cI p.Domains j).Station=(n:Int)∧(b=0∨(b:Int)∈(cI p.Domains j).Channels)
theorem znQ {c b:Nat}(hc:c<64):((1#64) <<< c).getLsbD b=decide (b=c):=by
 rw [BitVec.getLsbD_shiftLeft];by_cases h:b=c
 ·subst h;simp [hc]
 ·by_cases h1:b<c
  ·simp [h1,h]
  ·(have:b - c≠0:=by omega);rw [decide_eq_false h];by_cases h2:b<64
   ·have e:(1#64).getLsbD (b - c)=false:=by
     rw [BitVec.getLsbD_one];simp;omega
    rw [e,Bool.and_false]
   ·simp [h2]
theorem zlc {p:GProblem}(hG:GG p):∃v,zb6 p=some v∧∀n b,n<512→b<64→((Vec.get v n).getLsbD b=true↔mc p p.Domains.length n b):=by
 unfold zb6;refine ku ?_;refine kv (fun i (c:Vec 512 (BitVec 64))=>∀n b,n<512→b<64→((Vec.get c n).getLsbD b=true↔mc p i n b)) (fun o=>∃v:Vec 512 (BitVec 64),o=some v∧∀n b,n<512→b<64→((Vec.get v n).getLsbD b=true↔mc p p.Domains.length n b)) ?_ (fun v hv=>⟨v,rfl,hv⟩) (fun i c next hi hc hn=>?_)
 ·intro n b hn hb;rw [iS hn];constructor
  ·intro h;simp at h
  ·rintro ⟨j,hj,_⟩;omega
 have hs:=hG.st _ (eo hi);have hch:=hG.chs _ (eo hi);rw [fN a6]; (have hlt:(cI p.Domains i).Station.toNat<512:=by omega);refine kv (fun k (e:Vec 512 (BitVec 64))=>∀n b,n<512→b<64→((Vec.get e n).getLsbD b=true↔mc p i n b∨((cI p.Domains i).Station=(n:Int)∧(b=0∨∃q,q<k∧cI (cI p.Domains i).Channels q=(b:Int))))) (fun o=>∃v:Vec 512 (BitVec 64),o=some v∧∀n b,n<512→b<64→((Vec.get v n).getLsbD b=true↔mc p p.Domains.length n b)) ?_ (fun e he=>hn e fun n b h1 h2=>?_) (fun k e next' hk he hn'=>?_)
 ·intro n b h1 h2;rw [fZ hlt];by_cases e:n=(cI p.Domains i).Station.toNat
  ·rw [if_pos e,BitVec.getLsbD_one]; (have e':(cI p.Domains i).Station=(n:Int):=by omega);constructor
   ·intro h;simp at h;exact .inr ⟨e', .inl h⟩
   ·rintro (⟨j,hj,h3,_⟩|⟨_,h3|⟨q,hq,_⟩⟩)
    ·have:=hG.inc j i hj hi;omega
    ·simp [h3]
    ·omega
  ·rw [if_neg e,hc n b h1 h2]; (have e':¬(cI p.Domains i).Station=(n:Int):=by omega);simp [e']
 ·rw [he n b h1 h2];constructor
  ·rintro (⟨j,hj,h3⟩|⟨h3,h4⟩)
   ·exact ⟨j,by omega,h3⟩
   ·refine ⟨i,by omega,h3,h4.imp id ?_⟩;rintro ⟨q,hq,e⟩;rw [←e];exact eo hq
  ·rintro ⟨j,hj,h3,h4⟩;rcases Nat.lt_or_ge j i with h5|h5
   ·exact .inl ⟨j,h5,h3,h4⟩
   ·(obtain rfl:j=i:=by omega);refine .inr ⟨h3,h4.imp id fun h=>?_⟩;obtain ⟨q,hq,e⟩:=gp h;exact ⟨q,hq,e⟩
 ·have hc2:=hch.2 _ (eo hk);rw [fN a6];refine hn' _ fun n b h1 h2=>?_;rw [fZ hlt];by_cases e:n=(cI p.Domains i).Station.toNat
  ·(have e':(cI p.Domains i).Station=(n:Int):=by omega);rw [if_pos e,BitVec.getLsbD_or,znQ a6,Bool.or_eq_true,decide_eq_true_eq,←e,he n b h1 h2];constructor
   ·rintro ((h3|⟨h3,h4|⟨q,hq,h5⟩⟩)|h3)
    ·exact .inl h3
    ·exact .inr ⟨e', .inl h4⟩
    ·exact .inr ⟨e', .inr ⟨q,by omega,h5⟩⟩
    ·exact .inr ⟨e', .inr ⟨k,by omega,by omega⟩⟩
   ·rintro (h3|⟨h3,h4|⟨q,hq,h5⟩⟩)
    ·exact .inl (.inl h3)
    ·exact .inl (.inr ⟨e', .inl h4⟩)
    ·rcases Nat.lt_or_ge q k with h6|h6
     ·exact .inl (.inr ⟨e', .inr ⟨q,h6,h5⟩⟩)
     ·(obtain rfl:q=k:=by omega);exact .inr a6
  ·(have e':¬(cI p.Domains i).Station=(n:Int):=by omega);rw [if_neg e,he n b h1 h2];simp [e']
def TabN (p:GProblem)(v:Vec 512 (BitVec 64)):Prop:=∀n b,n<512→b<64→((Vec.get v n).getLsbD b=true↔mc p p.Domains.length n b)
theorem TabN.zero {p:GProblem}{v:Vec 512 (BitVec 64)}(hG:GG p)(h:TabN p v){s:Int}(h0:0≤s∧s≤511):decide (((Vec.get v s.toNat).toNat:Int)=((0#64).toNat:Int))= !fY p s:=by
 have key:fY p s=true↔(Vec.get v s.toNat).getLsbD 0=true:=by
  rw [h _ _ a6 a6,eA];constructor
  ·rintro ⟨x,hx,e⟩;obtain ⟨j,hj,rfl⟩:=gp hx;exact ⟨j,hj,by omega, .inl rfl⟩
  ·rintro ⟨j,hj,e,_⟩;exact ⟨_,eo hj,by omega⟩
 have none:fY p s=false→∀b,b<64→(Vec.get v s.toNat).getLsbD b=false:=fun hf b hb=>by
  cases hg:(Vec.get v s.toNat).getLsbD b with
  |false=>rfl
  |true=>
   obtain ⟨j,hj,e,_⟩:=(h _ _ a6 hb).1 hg;have:fY p s=true:=eA.2 ⟨_,eo hj,by omega⟩;rw [hf] at this;cases this
 cases hh:fY p s with
 |true=>
  refine decide_eq_false fun e=>?_;have h1:=key.1 hh;have e2:Vec.get v s.toNat=0#64:=BitVec.eq_of_toNat_eq a6;rw [e2] at h1;simp at h1
 |false=>
  refine decide_eq_true ?_; (have e2:Vec.get v s.toNat=0#64:=BitVec.eq_of_getLsbD_eq fun b hb=>by rw [none hh b hb];simp);rw [e2]
def kr (p:GProblem)(s c:Int):Bool:=p.Domains.any fun x=>decide (x.Station=s)&&x.Channels.any fun k=>decide (k=c)
theorem ir {p:GProblem}{s c:Int}:kr p s c=true↔∃x∈p.Domains,x.Station=s∧c∈x.Channels:=by
 unfold kr;simp only [List.any_eq_true,Bool.and_eq_true,decide_eq_true_eq];constructor
 ·rintro ⟨x,hx,h1,k,hk,rfl⟩;exact ⟨x,hx,h1,hk⟩
 ·rintro ⟨x,hx,h1,hk⟩;exact ⟨x,hx,h1,c,hk,rfl⟩
theorem znU {x:BitVec 64}{c:Nat}:decide ((((x >>> c) &&& (1#64)).toNat:Int)=((0#64).toNat:Int))= !x.getLsbD c:=by
 have e:((x >>> c) &&& (1#64))=bif x.getLsbD c then 1#64 else 0#64:=by
  refine BitVec.eq_of_getLsbD_eq fun b hb=>?_;rw [BitVec.getLsbD_and,BitVec.getLsbD_ushiftRight,BitVec.getLsbD_one];by_cases h0:b=0
  ·subst h0;cases x.getLsbD c <;> simp
  ·cases x.getLsbD c <;> simp [h0]
 rw [e]
 cases x.getLsbD c <;> rfl
theorem TabN.bit {p:GProblem}{v:Vec 512 (BitVec 64)}(h:TabN p v){s c:Int}(h0:0≤s∧s≤511)(h1:2≤c∧c≤51):(Vec.get v s.toNat).getLsbD c.toNat=kr p s c:=by
 rw [Bool.eq_iff_iff,h _ _ a6 a6,ir];constructor
 ·rintro ⟨j,hj,e,h2|h2⟩
  ·omega
  ·exact ⟨_,eo hj,by omega,by rw [show c=((c.toNat:Nat):Int) by omega];exact h2⟩
 ·rintro ⟨x,hx,e,h2⟩;obtain ⟨j,hj,rfl⟩:=gp hx;exact ⟨j,hj,by omega, .inr (by rw [show ((c.toNat:Nat):Int)=c by omega];exact h2)⟩
def ic (p:GProblem)(g:List GChoice):Bool:=(List.range g.length).all (lq g)&&(List.range g.length).all fun i=>kr p (cI g i).Station (cI g i).Channel
theorem fw {p:GProblem}{g:List GChoice}:ic p g=true↔ValidL g∧∀c∈g,kr p c.Station c.Channel=true:=by
 unfold ic;rw [Bool.and_eq_true,eM,List.all_eq_true];constructor
 ·rintro ⟨h1,h2⟩;refine ⟨h1,fun c hc=>?_⟩;obtain ⟨i,hi,rfl⟩:=gp hc;exact h2 i (List.mem_range.2 hi)
 ·rintro ⟨h1,h2⟩;exact ⟨h1,fun i hi=>h2 _ (eo (List.mem_range.1 hi))⟩
theorem zhO {p:GProblem}{t:GStore}{g:List GChoice}(h:TabN p t.domains):zaE t g=some (ic p g):=by
 unfold zaE ic;rw [zfE]
 cases hv:(List.range g.length).all (lq g) with
 |false=>rfl
 |true=>
  have hl:=eM.1 hv;simp only [dQ,Nat.sub_zero,Bool.not_true,cond_false,Bool.true_and];refine (kv (fun i _=>(List.range i).all (fun i=>kr p (cI g i).Station (cI g i).Channel)=true) (fun o=>o=some ((List.range g.length).all fun i=>kr p (cI g i).Station (cI g i).Channel)) rfl (fun _ h=>by rw [h]) (fun i _ next hi hI hn=>?_));have hg:=hl.good _ (eo hi);rw [fN a6,fN a6,znU,h.bit a6 a6]
  cases hc:kr p (cI g i).Station (cI g i).Channel with
  |false=>
   have:(List.range g.length).all (fun i=>kr p (cI g i).Station (cI g i).Channel)=false:=by
    rw [List.all_eq_false];exact ⟨i,List.mem_range.2 hi,by simp [hc]⟩
   rw [this];rfl
  |true=>exact hn () (by rw [List.range_succ,List.all_append,hI];simp [hc])
end Go.Proofs.YtgoeeefoinkepaaGreatDoor
