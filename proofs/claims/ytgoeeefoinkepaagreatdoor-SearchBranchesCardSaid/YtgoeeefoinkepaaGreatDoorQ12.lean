/- Yl Y1 Pw Cv Lc Ga Gg Ba Of: shortened and put together by squeeze.py. -/
import Derived.Test.YtgoeeefoinkepaaGreatDoorQ11
import Derived.Deep.Slices
import Derived.ChangeArms
set_option maxRecDepth 100000
set_option maxHeartbeats 4000000
set_option linter.unusedVariables false
set_option linter.unusedSectionVars false
set_option linter.unusedSimpArgs false
namespace Go.Proofs.YtgoeeefoinkepaaGreatDoor
open Go.RowKit
def jV (a:Int)(b:Int):GPair:=
 (GPair.mk a b 0 14 51)
theorem zdi (F0:Frz)(w:World)(hF0:F0.At w)(a:Int)(b:Int):Calls Tryz.prog 44 #[.int .i64 a, .int .i64 b] w fun e w'=>e= .returned (.agg [.int .i64 ((jV a b).A), .int .i64 ((jV a b).B), .int .i64 ((jV a b).Offset), .int .i64 ((jV a b).Low), .int .i64 ((jV a b).High)].toArray)∧Below w.heap.size w w':=by
 obtain ⟨r,hk⟩:∃r,jV a b=r:=⟨_,rfl⟩;rw [hk];unfold jV at hk;obtain ⟨S0,F1,rfl,hS0,hp0⟩:=fM hF0;refine dt Tryz.func44 rfl rfl rfl hp0 ?_;refine c7 ?_;refine gN ?_;rintro _ _ ⟨g4,rfl,rfl⟩;refine dp ?_;refine dS ?_;refine iz ?_;refine jF ?_;refine f9 ?_;subst hk;exact lm 0 rfl rfl rfl rfl (fun w' hw=>⟨rfl,hw.isBelow⟩)
def fL  : GProblem :=
 (GProblem.mk [(GDomain.mk 1 [14,15]),(GDomain.mk 2 [14,15]),(GDomain.mk 3 [14,15])] (GRules.mk [(jV 1 2),(jV 1 3),(jV 2 3)] [] []))
theorem zcc (F0 : Frz)(w : World)(hF0 : F0.At w)  : Calls Tryz.prog 23 #[] w fun e w' => ∃ (y : Value × List (List Value) × Value × Value × Value) (G : Frz), (SlD cG G y.1 2 y.2.1 ((fL).Domains) ∧ SlC G y.2.2.1 5 (((fL).Rules.Pairs).map dq) ∧ SlC G y.2.2.2.1 5 (((fL).Rules.Loads).map dy) ∧ SlC G y.2.2.2.2 4 (((fL).Rules.Caps).map dM)) ∧ e = .returned (.agg [y.1, y.2.2.1, y.2.2.2.1, y.2.2.2.2].toArray) ∧ Fx F0 w G w' := by
 obtain ⟨r,hk⟩:∃r,fL=r:=⟨_,rfl⟩;rw [hk];unfold fL at hk;obtain ⟨S0,F1,rfl,hS0,hp0⟩:=fM hF0;refine dt Tryz.func23 rfl rfl rfl hp0 ?_;refine c7 ?_;refine gN ?_;rintro _ _ ⟨g0,rfl,rfl⟩;refine dp ?_;refine q02 ?_;rintro _ _ ⟨g1,rfl,rfl⟩;refine q3S ?_;rintro F2 ⟨le1_2,hz2⟩;refine gY ?_;have hf2:SlC F2.toFrz (.slice (some ⟨g1,0,none⟩) 2 2) 1 ([14,15].map eI):=(SlK.lit hz2 rfl (Nat.le_refl _) a7).toF (xs:=[14,15]) rfl (fun _=>rfl);refine q3N ?_;rintro _ _ ⟨g3,rfl,rfl⟩;refine q3S ?_;rintro F3 ⟨le2_3,hz3⟩;refine gY ?_;have le1_3:=le1_2.trans le2_3;have hf3:SlC F3.toFrz (.slice (some ⟨g3,0,none⟩) 2 2) 1 ([14,15].map eI):=(SlK.lit hz3 rfl (Nat.le_refl _) a7).toF (xs:=[14,15]) rfl (fun _=>rfl);refine q3N ?_;rintro _ _ ⟨g5,rfl,rfl⟩;refine q3S ?_;rintro F4 ⟨le3_4,hz4⟩;refine gY ?_;have le1_4:=le1_3.trans le3_4;have le2_4:=le2_3.trans le3_4;have hf4:SlC F4.toFrz (.slice (some ⟨g5,0,none⟩) 2 2) 1 ([14,15].map eI):=(SlK.lit hz4 rfl (Nat.le_refl _) a7).toF (xs:=[14,15]) rfl (fun _=>rfl);refine q3N ?_;rintro _ _ ⟨g7,rfl,rfl⟩;have hl7:OwnD cG F4.toFrz 2 [[.int .i64 1,(.slice (some ⟨g1,0,none⟩) 2 2)],[.int .i64 2,(.slice (some ⟨g3,0,none⟩) 2 2)],[.int .i64 3,(.slice (some ⟨g5,0,none⟩) 2 2)]] [(GDomain.mk 1 [14,15]),(GDomain.mk 2 [14,15]),(GDomain.mk 3 [14,15])]:=(da (da (da (OwnD.nil _ _ 2) ⟨_,rfl,(SlC.mono hf2 le2_4)⟩) ⟨_,rfl,(SlC.mono hf3 le3_4)⟩) ⟨_,rfl,hf4⟩);refine c8 (cI rfl rfl rfl (fun w hw=>zdi _ w (hw.fr (i:=2) rfl) 1 2)) ?_;refine eR ?_;refine c8 (cI rfl rfl rfl (fun w hw=>zdi _ w (hw.fr (i:=2) rfl) 1 3)) ?_;refine eR ?_;refine c8 (cI rfl rfl rfl (fun w hw=>zdi _ w (hw.fr (i:=2) rfl) 2 3)) ?_;refine eR ?_;refine q02 ?_;rintro _ _ ⟨g11,rfl,rfl⟩;refine iz ?_;refine iz ?_;refine fe (du 2) ?_;refine eR ?_;refine f9 ?_;refine K.aR (fun w hw=>hw.freezeR (i:=3) (j:=1) a7 rfl rfl) ?_;rintro F5 ⟨le4_5,hz5⟩;refine gY ?_;have le1_5:=le1_4.trans le4_5;have hf5:SlD cG F5.toFrz (.slice (some ⟨g7,0,none⟩) 3 3) 2 [[.int .i64 1,(.slice (some ⟨g1,0,none⟩) 2 2)],[.int .i64 2,(.slice (some ⟨g3,0,none⟩) 2 2)],[.int .i64 3,(.slice (some ⟨g5,0,none⟩) 2 2)]] [(GDomain.mk 1 [14,15]),(GDomain.mk 2 [14,15]),(GDomain.mk 3 [14,15])]:=(SlK.lit hz5 rfl (Nat.le_refl _) a7).toD (OwnD.mono (rep:=cG) (fun _ _ _ _=>GDomain.mono) hl7 le4_5) rfl;refine q2V ?_;rintro F6 ⟨le5_6,hz6⟩;refine gY ?_;have le1_6:=le1_5.trans le5_6;have hf6:SlC F6.toFrz (.slice (some ⟨g11,0,none⟩) 3 3) 5 ([(jV 1 2),(jV 1 3),(jV 2 3)].map dq):=(SlK.lit hz6 rfl (Nat.le_refl _) a7).toF (xs:=[(jV 1 2),(jV 1 3),(jV 2 3)]) rfl GPair.len;subst hk;exact lm 0 rfl rfl rfl rfl (fun w' hw=>⟨((.slice (some ⟨g7,0,none⟩) 3 3),[[.int .i64 1,(.slice (some ⟨g1,0,none⟩) 2 2)],[.int .i64 2,(.slice (some ⟨g3,0,none⟩) 2 2)],[.int .i64 3,(.slice (some ⟨g5,0,none⟩) 2 2)]],(.slice (some ⟨g11,0,none⟩) 3 3),(.slice none 0 0),(.slice none 0 0)),F6.toFrz,⟨(SlD.mono (rep:=cG) (fun _ _ _ _=>GDomain.mono) hf5 le5_6),hf6,(SlC.nil _ 5),(SlC.nil _ 4)⟩,rfl,iw hw (i:=1) rfl hS0 le1_6⟩)
def zbA (fuel:Nat)(p:GProblem)(hints:List GChoice)(budget:Int)(want:GResult):Option Bool:=
 (zcQ fuel p hints budget).bind fun r15=>
 some ((decide (r15.2=0))&&(zck r15.1 want))
theorem zbm (F0:Frz)(w:World)(hF0:F0.At w)(p:GProblem)(vp_0:Value)(cp_0:List (List Value))(hp_0:SlD cG F0 vp_0 2 cp_0 p.Domains)(vp_1:Value)(hp_1:SlC F0 vp_1 5 (p.Rules.Pairs.map dq))(vp_2:Value)(hp_2:SlC F0 vp_2 5 (p.Rules.Loads.map dy))(vp_3:Value)(hp_3:SlC F0 vp_3 4 (p.Rules.Caps.map dM))(hints:List GChoice)(vhints:Value)(hhints:SlC F0 vhints 2 (hints.map cC))(budget:Int)(want:GResult)(vwant_1:Value)(hwant_1:SlC F0 vwant_1 2 (want.Assignment.map cC))(vwant_2:Value)(cwant_2:List (List Value))(hwant_2:SlD cE F0 vwant_2 1 cwant_2 want.Learned)(htab:Tab w)(fuel:Nat)(hfu:100000≤fuel)(r:Bool)(hr:zbA fuel p hints budget want=some r):Calls Tryz.prog 24 #[.agg [vp_0,vp_1,vp_2,vp_3].toArray,vhints, .int .i64 budget, .agg [.int .i64 want.Kind,vwant_1,vwant_2, .int .i64 want.Steps].toArray] w fun e w'=>e= .returned (.bool r)∧Below w.heap.size w w':=by
 have hk:=hr;unfold zbA at hk;haveI:=hp_0.1.oneC;haveI:=hp_1.oneC;haveI:=hp_2.oneC;haveI:=hp_3.oneC;haveI:=hhints.oneC;haveI:=hwant_1.oneC;haveI:=hwant_2.1.oneC;obtain ⟨S0,F1,rfl,hS0,hp0⟩:=fM hF0;have hM0:¬(fun _:Nat=>False) 0:=fun h=>h;have htk:∀ {hs:HS} {w':World},Hp w (fun _=>False) hs w'→Tab w':=fun hw=>htab.keptF hw;refine dt Tryz.func24 rfl rfl rfl hp0 ?_;refine kv ?_;rintro _ _ ⟨g4,rfl,rfl⟩;refine c8 (di) ?_;rintro _ _ ⟨g7,rfl,rfl⟩;refine j9 ?_;have hq:=eW hk;clear hk;obtain ⟨r15,hr15,hk⟩:=hq; (try dsimp only at hk);refine fo ?_;refine q2p ?_;refine dS ?_;refine c8 (fb 2 rfl rfl rfl rfl (fun w hw hF=>zfF _ w hF p vp_0 cp_0 hp_0 vp_1 hp_1 vp_2 hp_2 vp_3 hp_3 hints vhints hhints budget (htab.keptF hw) fuel hfu r15 hr15)) ?_;rintro _ _ ⟨⟨v15_0_1,v15_0_2,cs15_0_2⟩,F2,le1_2,⟨hf15_0_1,hf15_0_2⟩,rfl,rfl⟩;dsimp only at hf15_0_1 hf15_0_2 ⊢;haveI:=hf15_0_1.oneC;haveI:=hf15_0_2.1.oneC;refine eu ?_;refine gN ?_;rintro _ _ ⟨g9,rfl,rfl⟩;refine jF ?_;refine j9 ?_;refine db (ι:=Unit) (fun z=>[(8, .bool ((decide (r15.2=0))&&(zck r15.1 want)))]) (fun z=>[.row g9 46 [.int .i64 r15.1.Kind,v15_0_1,v15_0_2, .int .i64 r15.1.Steps], .row g7 46 [.int .i64 want.Kind,vwant_1,vwant_2, .int .i64 want.Steps], .row g4 31 [vp_0,vp_1,vp_2,vp_3], .fr F2]) (fun z=>True) ?_ ?_
 ·refine fo ?_;refine eu ?_;refine dD rfl rfl rfl (fun h1=>?_) (fun h1=>?_)
  ·have p1:=of_decide_eq_true h1;refine iS ?_;refine q2p ?_;refine c8 (cI rfl rfl rfl (fun w hw=>zgB _ w (hw.fr (i:=3) rfl) r15.1 v15_0_1 hf15_0_1 v15_0_2 cs15_0_2 hf15_0_2 want vwant_1 (SlC.mono hwant_1 le1_2) vwant_2 cwant_2 (SlD.mono (rep:=cE) (fun _ _ _ _=>R_List_GChoice.mono) hwant_2 le1_2))) ?_;refine q2n ?_;exact q4i
  ·have p1:=of_decide_eq_false h1;refine ke ?_;refine fg ?_;exact q4f
 ·rintro _ _;refine T.ret ?_;obtain rfl:=Option.some.inj hk;exact eO
def zbj (fuel : Nat)  : Option Bool :=
 (kX [(GDomain.mk 1 [14,15,16]),(GDomain.mk 2 [14]),(GDomain.mk 3 [14,15]),(GDomain.mk 4 [15,16])] [(GChoice.mk 3 15)]).bind fun r18=>
 (bif (((decide (¬r18.2=0))||(decide (¬r18.1.Station=3)))||(decide (¬r18.1.Channel=15))) then
  some false
  else
  eP (0≤2∧2≤(((fL).Rules.Pairs).length:Int)) <|
  (zbA fuel (fL) [] 0 (GResult.mk 0 [] [] 0)).bind fun r50=>
  dV (fun (x_4:Bool)=>
   some x_4)
  (fun k5=>
   (bif r50 then
    eP (0≤1∧1≤([(GChoice.mk 1 14),(GChoice.mk 2 15),(GChoice.mk 3 15)].length:Int)) <|
    (zbA fuel (fL) [] 1 (GResult.mk 2 [] [([(GChoice.mk 1 14),(GChoice.mk 2 15),(GChoice.mk 3 15)].take 1),[]] 1)).bind fun r57=>
    (bif r57 then
     (zbA fuel (GProblem.mk ((fL).Domains) (GRules.mk (((fL).Rules.Pairs).take 2) ((fL).Rules.Loads) ((fL).Rules.Caps))) [] 1 (GResult.mk 1 [(GChoice.mk 1 14),(GChoice.mk 2 15),(GChoice.mk 3 15)] [] 1)).bind fun r63=>
     (bif r63 then
      eP (0≤1∧1≤([(GChoice.mk 1 15),(GChoice.mk 2 14),(GChoice.mk 3 14)].length:Int)) <|
      (zbA fuel (GProblem.mk ((fL).Domains) (GRules.mk (((fL).Rules.Pairs).take 2) ((fL).Rules.Loads) ((fL).Rules.Caps))) ([(GChoice.mk 1 15),(GChoice.mk 2 14),(GChoice.mk 3 14)].take 1) 1 (GResult.mk 1 [(GChoice.mk 1 15),(GChoice.mk 2 14),(GChoice.mk 3 14)] [] 1)).bind fun r71=>
      k5 r71
      else
      k5 false)
     else
     k5 false)
    else
    k5 false)))
theorem zcs (F0 : Frz)(w : World)(hF0 : F0.At w)  (htab : Tab w)(fuel : Nat)(hfu : 100000 ≤ fuel)(r : Bool)(hr : zbj fuel = some r) : Calls Tryz.prog 9 #[] w fun e w' => e = .returned (.bool r) ∧ Below w.heap.size w w' := by
 have hk:=hr;unfold zbj at hk;obtain ⟨S0,F1,rfl,hS0,hp0⟩:=fM hF0;have hM0:¬(fun _:Nat=>False) 0:=fun h=>h;have htk:∀ {hs:HS} {w':World},Hp w (fun _=>False) hs w'→Tab w':=fun hw=>htab.keptF hw;refine dt Tryz.func9 rfl rfl rfl hp0 ?_;refine eN ?_;have hq:=eW hk;clear hk;obtain ⟨r18,hr18,hk⟩:=hq; (try dsimp only at hk);refine fo ?_;refine q02 ?_;rintro _ _ ⟨g7,rfl,rfl⟩;refine q1Z ?_;rintro F2 ⟨le1_2,hz2⟩;refine gY ?_;have hf2:SlC F2.toFrz (.slice (some ⟨g7,0,none⟩) 3 3) 1 ([14,15,16].map eI):=(SlK.lit hz2 rfl (Nat.le_refl _) a7).toF (xs:=[14,15,16]) rfl (fun _=>rfl);refine q3N ?_;rintro _ _ ⟨g9,rfl,rfl⟩;refine q1Z ?_;rintro F3 ⟨le2_3,hz3⟩;refine gY ?_;have hf3:SlC F3.toFrz (.slice (some ⟨g9,0,none⟩) 1 1) 1 ([14].map eI):=(SlK.lit hz3 rfl (Nat.le_refl _) a7).toF (xs:=[14]) rfl (fun _=>rfl);refine q3N ?_;rintro _ _ ⟨g11,rfl,rfl⟩;refine q1Z ?_;rintro F4 ⟨le3_4,hz4⟩;refine gY ?_;have le2_4:=le2_3.trans le3_4;have hf4:SlC F4.toFrz (.slice (some ⟨g11,0,none⟩) 2 2) 1 ([14,15].map eI):=(SlK.lit hz4 rfl (Nat.le_refl _) a7).toF (xs:=[14,15]) rfl (fun _=>rfl);refine q3N ?_;rintro _ _ ⟨g13,rfl,rfl⟩;refine q1Z ?_;rintro F5 ⟨le4_5,hz5⟩;refine gY ?_;have le2_5:=le2_4.trans le4_5;have le3_5:=le3_4.trans le4_5;have hf5:SlC F5.toFrz (.slice (some ⟨g13,0,none⟩) 2 2) 1 ([15,16].map eI):=(SlK.lit hz5 rfl (Nat.le_refl _) a7).toF (xs:=[15,16]) rfl (fun _=>rfl);refine q3N ?_;rintro _ _ ⟨g15,rfl,rfl⟩;have hl15:OwnD cG F5.toFrz 2 [[.int .i64 1,(.slice (some ⟨g7,0,none⟩) 3 3)],[.int .i64 2,(.slice (some ⟨g9,0,none⟩) 1 1)],[.int .i64 3,(.slice (some ⟨g11,0,none⟩) 2 2)],[.int .i64 4,(.slice (some ⟨g13,0,none⟩) 2 2)]] [(GDomain.mk 1 [14,15,16]),(GDomain.mk 2 [14]),(GDomain.mk 3 [14,15]),(GDomain.mk 4 [15,16])]:=(da (da (da (da (OwnD.nil _ _ 2) ⟨_,rfl,(SlC.mono hf2 le2_5)⟩) ⟨_,rfl,(SlC.mono hf3 le3_5)⟩) ⟨_,rfl,(SlC.mono hf4 le4_5)⟩) ⟨_,rfl,hf5⟩);refine q1Z ?_;rintro F6 ⟨le5_6,hz6⟩;refine gY ?_;have hf6:SlD cG F6.toFrz (.slice (some ⟨g15,0,none⟩) 4 4) 2 [[.int .i64 1,(.slice (some ⟨g7,0,none⟩) 3 3)],[.int .i64 2,(.slice (some ⟨g9,0,none⟩) 1 1)],[.int .i64 3,(.slice (some ⟨g11,0,none⟩) 2 2)],[.int .i64 4,(.slice (some ⟨g13,0,none⟩) 2 2)]] [(GDomain.mk 1 [14,15,16]),(GDomain.mk 2 [14]),(GDomain.mk 3 [14,15]),(GDomain.mk 4 [15,16])]:=(SlK.lit hz6 rfl (Nat.le_refl _) a7).toD (OwnD.mono (rep:=cG) (fun _ _ _ _=>GDomain.mono) hl15 le5_6) rfl;refine q3N ?_;rintro _ _ ⟨g17,rfl,rfl⟩;refine q1Z ?_;rintro F7 ⟨le6_7,hz7⟩;refine gY ?_;have hf7:SlC F7.toFrz (.slice (some ⟨g17,0,none⟩) 1 1) 2 ([(GChoice.mk 3 15)].map cC):=(SlK.lit hz7 rfl (Nat.le_refl _) a7).toF (xs:=[(GChoice.mk 3 15)]) rfl GChoice.len;refine c8 (cI rfl rfl rfl (fun w hw=>zb2 _ w (hw.fr (i:=0) rfl) [(GDomain.mk 1 [14,15,16]),(GDomain.mk 2 [14]),(GDomain.mk 3 [14,15]),(GDomain.mk 4 [15,16])] (.slice (some ⟨g15,0,none⟩) 4 4) [[.int .i64 1,(.slice (some ⟨g7,0,none⟩) 3 3)],[.int .i64 2,(.slice (some ⟨g9,0,none⟩) 1 1)],[.int .i64 3,(.slice (some ⟨g11,0,none⟩) 2 2)],[.int .i64 4,(.slice (some ⟨g13,0,none⟩) 2 2)]] (SlD.mono (rep:=cG) (fun _ _ _ _=>GDomain.mono) hf6 le6_7) [(GChoice.mk 3 15)] (.slice (some ⟨g17,0,none⟩) 1 1) hf7 r18 hr18)) ?_;refine eR ?_;refine eu ?_;refine gN ?_;rintro _ _ ⟨g1,rfl,rfl⟩;refine jF ?_;refine q2x ?_;refine db (ι:=Unit) (fun z=>[(32, .bool (((decide (¬r18.2=0))||(decide (¬r18.1.Station=3)))||(decide (¬r18.1.Channel=15))))]) (fun z=>[.row g1 34 [.int .i64 r18.1.Station, .int .i64 r18.1.Channel], .fr F7]) (fun z=>True) ?_ ?_
 ·refine fo ?_;refine eu ?_;refine dD rfl rfl rfl (fun h1=>?_) (fun h1=>?_)
  ·have p1:=of_decide_eq_true h1;refine TL.run 9 rfl ?_;refine fg ?_;exact cL () trivial (.b (gn (gn h1)).symm .nil) (List.Sublist.refl _)
  ·have p1:=of_decide_eq_false h1;refine d5 ?_;refine eu ?_;refine dD rfl rfl rfl (fun h2=>?_) (fun h2=>?_)
   ·have p2:=of_decide_eq_true h2;refine lN ?_;exact cL () trivial (.b (gn (io h1 h2)).symm .nil) (List.Sublist.refl _)
   ·have p2:=of_decide_eq_false h2;refine d5 ?_;refine dS ?_;refine fg ?_;exact cL () trivial (.b (gw (io h1 h2)) .nil) (List.Sublist.refl _)
 ·rintro _ _;refine T.cond rfl (fun h3=>?_) (fun h3=>?_)
  ·replace hk:=dB hk h3;refine il ?_;obtain rfl:=Option.some.inj hk;exact eO
  ·have p3:=h3; (try simp only [cN] at p3);replace hk:=dA hk h3;refine ig ?_;refine c8 (fb 1 rfl rfl rfl rfl (fun w hw hF=>zcc _ w hF )) ?_;rintro _ _ ⟨⟨v33_0_0,cs33_0_0,v33_0_1,v33_0_2,v33_0_3⟩,F8,le7_8,⟨hf33_0_0,hf33_0_1,hf33_0_2,hf33_0_3⟩,rfl,rfl⟩;dsimp only at hf33_0_0 hf33_0_1 hf33_0_2 hf33_0_3 ⊢;haveI:=hf33_0_0.1.oneC;haveI:=hf33_0_1.oneC;haveI:=hf33_0_2.oneC;haveI:=hf33_0_3.oneC;refine gN ?_;rintro _ _ ⟨g3,rfl,rfl⟩;refine q2K ?_;have hq:(0≤2∧2≤(((fL).Rules.Pairs).length:Int))∧_:=fZ hk;clear hk;obtain ⟨g37h,hk⟩:=hq; (try dsimp only at hk);refine fo ?_;refine eS ?_;refine d5 ?_;refine cF (ko (i:=2) rfl rfl rfl hf33_0_1 (List.length_map _) (show (2:Int)=((2:Nat):Int) from rfl) a6) ?_;have hs37_:SlC F8.toFrz (iO v33_0_1 0 2 5) 5 ((((fL).Rules.Pairs).take 2).map dq):=hf33_0_1.sliceh (i:=2) a6;haveI:=hs37_.oneC;refine eS ?_;refine eS ?_;refine fe (dY 0 rfl rfl rfl rfl b2) ?_;refine eR ?_;refine dp ?_;refine iz ?_;refine iz ?_;refine q3N ?_;rintro _ _ ⟨g43,rfl,rfl⟩;refine gh ?_;refine iz ?_;refine iz ?_;refine q3N ?_;rintro _ _ ⟨g47,rfl,rfl⟩;refine j9 ?_;refine jZ (fun w hw=>hw.freezeR (i:=4) (j:=1) a7 rfl rfl) ?_;rintro F9 ⟨le8_9,hz9⟩;refine gY ?_;have hf9:SlC F9.toFrz (.slice (some ⟨g43,0,none⟩) 3 3) 2 ([(GChoice.mk 1 14),(GChoice.mk 2 15),(GChoice.mk 3 15)].map cC):=(SlK.lit hz9 rfl (Nat.le_refl _) a7).toF (xs:=[(GChoice.mk 1 14),(GChoice.mk 2 15),(GChoice.mk 3 15)]) rfl GChoice.len;refine jZ (fun w hw=>hw.freezeR (i:=3) (j:=0) a7 rfl rfl) ?_;rintro F10 ⟨le9_10,hz10⟩;refine gY ?_;have le8_10:=le8_9.trans le9_10;have hf10:SlC F10.toFrz (.slice (some ⟨g47,0,none⟩) 3 3) 2 ([(GChoice.mk 1 15),(GChoice.mk 2 14),(GChoice.mk 3 14)].map cC):=(SlK.lit hz10 rfl (Nat.le_refl _) a7).toF (xs:=[(GChoice.mk 1 15),(GChoice.mk 2 14),(GChoice.mk 3 14)]) rfl GChoice.len;have hq:=eW hk;clear hk;obtain ⟨r50,hr50,hk⟩:=hq; (try dsimp only at hk);have hq:=fi hk;clear hk;obtain ⟨k5,hk5,hk⟩:=hq; (try dsimp only at hk);refine db (ι:=Bool×FzB w (fun _=>False) S0) (fun z=>[(0, .bool z.1)]) (fun z=>[.fr z.2]) (fun z=>k5 z.1=some r∧F10.toFrz.Le z.2.toFrz) ?_ ?_
   ·refine dx (.still 1 (.eff 0 (.eff 2 (.still 3 (.still 5 (.still 6 (.two 4 7 (.eff 7 (.still 8 (.eff 9 (sN 10 5 (.eff 15 (sN 16 7 (.eff 23 (.still 24 (.still 25 .done))))))))) (.still 8 (.eff 4 (.eff 9 (sN 10 5 (.eff 15 (sN 16 7 (.eff 23 (.still 24 (.still 25 .done)))))))))))))))) _ a8 (List.Sublist.refl _) ?_;refine q10 ?_;refine cP rfl (Wt.none) rfl rfl (fb 2 rfl rfl rfl rfl (fun w hw hF=>zcc _ w hF )) ?_;rintro _ _ ⟨⟨v48_0_0,cs48_0_0,v48_0_1,v48_0_2,v48_0_3⟩,F12,le10_12,⟨hf48_0_0,hf48_0_1,hf48_0_2,hf48_0_3⟩,rfl,rfl⟩;dsimp only at hf48_0_0 hf48_0_1 hf48_0_2 hf48_0_3 ⊢;have le8_12:=le8_10.trans le10_12;have le9_12:=le9_10.trans le10_12;haveI:=hf48_0_0.1.oneC;haveI:=hf48_0_1.oneC;haveI:=hf48_0_2.oneC;haveI:=hf48_0_3.oneC;refine ⟨(fun w hw=>(hw.frLe (i:=2) rfl le10_12).sub Sx),?_⟩;refine dn ?_;refine cP rfl (Wt.none) rfl rfl (cI rfl rfl rfl (fun w hw=>zbm _ w (hw.fr (i:=2) rfl) (fL) v48_0_0 cs48_0_0 hf48_0_0 v48_0_1 hf48_0_1 v48_0_2 hf48_0_2 v48_0_3 hf48_0_3 [] (.slice none 0 0) (SlC.nil _ 2) 0 (GResult.mk 0 [] [] 0) (.slice none 0 0) (SlC.nil _ 2) (.slice none 0 0) [] (SlD.nil _ _ 1) (htab.keptF hw) fuel hfu r50 hr50)) ?_;refine eR ?_;refine ⟨(fun w hw=>(hw.frLe (i:=2) rfl le10_12).sub Sx),?_⟩;refine eG ?_;refine dl rfl rfl rfl rfl (fun h6=>?_) (fun h6=>?_)
    ·replace hk:=dB hk h6;refine eG ?_;have hq:(0≤1∧1≤([(GChoice.mk 1 14),(GChoice.mk 2 15),(GChoice.mk 3 15)].length:Int))∧_:=fZ hk;clear hk;obtain ⟨g54h,hk⟩:=hq;refine cJ rfl (ko (i:=1) rfl rfl rfl (SlC.mono hf9 le9_12) (List.length_map _) (show (1:Int)=((1:Nat):Int) from rfl) a6) ?_;have hs54_:SlC F9.toFrz (iO (.slice (some ⟨g43,0,none⟩) 3 3) 0 1 2) 2 (([(GChoice.mk 1 14),(GChoice.mk 2 15),(GChoice.mk 3 15)].take 1).map cC):=hf9.sliceh (i:=1) a6;haveI:=hs54_.oneC;refine TS.two ?_ ?_
     ·refine cP rfl (Wt.some) rfl rfl (fb 2 rfl rfl rfl rfl (fun w hw hF=>zcc _ w hF )) ?_;rintro _ _ ⟨⟨v52_0_0,cs52_0_0,v52_0_1,v52_0_2,v52_0_3⟩,F13,le12_13,⟨hf52_0_0,hf52_0_1,hf52_0_2,hf52_0_3⟩,rfl,rfl⟩;dsimp only at hf52_0_0 hf52_0_1 hf52_0_2 hf52_0_3 ⊢;have le8_13:=le8_12.trans le12_13;have le9_13:=le9_12.trans le12_13;have le10_13:=le10_12.trans le12_13;haveI:=hf52_0_0.1.oneC;haveI:=hf52_0_1.oneC;haveI:=hf52_0_2.oneC;haveI:=hf52_0_3.oneC;refine ⟨(fun w hw=>(hw.frLe (i:=2) rfl le10_13).sub Sx),?_⟩;refine dn ?_;refine cP rfl (Wt.some) rfl rfl (Ew.buildSlice rfl rfl rfl a7) ?_;rintro _ _ ⟨g55,rfl,rfl⟩;have hl55:OwnD cE F13.toFrz 1 [[(iO (.slice (some ⟨g43,0,none⟩) 3 3) 0 1 2)],[(.slice none 0 0)]] [([(GChoice.mk 1 14),(GChoice.mk 2 15),(GChoice.mk 3 15)].take 1),[]]:=(da (da (OwnD.nil _ _ 1) ⟨_,rfl,(SlC.mono hs54_ le9_13)⟩) ⟨_,rfl,(SlC.nil _ 2)⟩);refine ⟨(fun w hw=>(hw.frLe (i:=3) rfl le10_13).sub Sx),?_⟩;refine jh (fun w hw=>hw.freezeR (i:=3) (j:=0) a7 rfl rfl) ?_;rintro F14 ⟨le13_14,hz14⟩;refine gY ?_;have le8_14:=le8_13.trans le13_14;have le9_14:=le9_13.trans le13_14;have le10_14:=le10_13.trans le13_14;have hf14:SlD cE F14.toFrz (.slice (some ⟨g55,0,none⟩) 2 2) 1 [[(iO (.slice (some ⟨g43,0,none⟩) 3 3) 0 1 2)],[(.slice none 0 0)]] [([(GChoice.mk 1 14),(GChoice.mk 2 15),(GChoice.mk 3 15)].take 1),[]]:=(SlK.lit hz14 rfl (Nat.le_refl _) a7).toD (OwnD.mono (rep:=cE) (fun _ _ _ _=>R_List_GChoice.mono) hl55 le13_14) rfl;refine q10 ?_;have hq:=eW hk;clear hk;obtain ⟨r57,hr57,hk⟩:=hq;refine cP rfl (Wt.some) rfl rfl (cI rfl rfl rfl (fun w hw=>zbm _ w (hw.fr (i:=2) rfl) (fL) v52_0_0 cs52_0_0 (SlD.mono (rep:=cG) (fun _ _ _ _=>GDomain.mono) hf52_0_0 le13_14) v52_0_1 (SlC.mono hf52_0_1 le13_14) v52_0_2 (SlC.mono hf52_0_2 le13_14) v52_0_3 (SlC.mono hf52_0_3 le13_14) [] (.slice none 0 0) (SlC.nil _ 2) 1 (GResult.mk 2 [] [([(GChoice.mk 1 14),(GChoice.mk 2 15),(GChoice.mk 3 15)].take 1),[]] 1) (.slice none 0 0) (SlC.nil _ 2) (.slice (some ⟨g55,0,none⟩) 2 2) [[(iO (.slice (some ⟨g43,0,none⟩) 3 3) 0 1 2)],[(.slice none 0 0)]] hf14 (htab.keptF hw) fuel hfu r57 hr57)) ?_;refine q3K ?_;refine fj ?_;refine dl rfl rfl rfl rfl (fun h7=>?_) (fun h7=>?_)
      ·replace hk:=dB hk h7;refine iW ?_;refine eG ?_;refine q10 ?_;have hq:=eW hk;clear hk;obtain ⟨r63,hr63,hk⟩:=hq;refine cP rfl (Wt.some) rfl rfl (cI rfl rfl rfl (fun w hw=>zbm _ w (hw.fr (i:=2) rfl) (GProblem.mk ((fL).Domains) (GRules.mk (((fL).Rules.Pairs).take 2) ((fL).Rules.Loads) ((fL).Rules.Caps))) v33_0_0 cs33_0_0 (SlD.mono (rep:=cG) (fun _ _ _ _=>GDomain.mono) hf33_0_0 le8_14) (iO v33_0_1 0 2 5) (SlC.mono hs37_ le8_14) v33_0_2 (SlC.mono hf33_0_2 le8_14) v33_0_3 (SlC.mono hf33_0_3 le8_14) [] (.slice none 0 0) (SlC.nil _ 2) 1 (GResult.mk 1 [(GChoice.mk 1 14),(GChoice.mk 2 15),(GChoice.mk 3 15)] [] 1) (.slice (some ⟨g43,0,none⟩) 3 3) (SlC.mono hf9 le9_14) (.slice none 0 0) [] (SlD.nil _ _ 1) (htab.keptF hw) fuel hfu r63 hr63)) ?_;refine q3K ?_;refine fj ?_;refine dl rfl rfl rfl rfl (fun h8=>?_) (fun h8=>?_)
       ·replace hk:=dB hk h8;refine iW ?_;refine eG ?_;have hq:(0≤1∧1≤([(GChoice.mk 1 15),(GChoice.mk 2 14),(GChoice.mk 3 14)].length:Int))∧_:=fZ hk;clear hk;obtain ⟨g68h,hk⟩:=hq;refine cJ rfl (ko (i:=1) rfl rfl rfl (SlC.mono hf10 le10_14) (List.length_map _) (show (1:Int)=((1:Nat):Int) from rfl) a6) ?_;have hs68_:SlC F10.toFrz (iO (.slice (some ⟨g47,0,none⟩) 3 3) 0 1 2) 2 (([(GChoice.mk 1 15),(GChoice.mk 2 14),(GChoice.mk 3 14)].take 1).map cC):=hf10.sliceh (i:=1) a6;haveI:=hs68_.oneC;refine eG ?_;refine q10 ?_;have hq:=eW hk;clear hk;obtain ⟨r71,hr71,hk⟩:=hq;refine cP rfl (Wt.some) rfl rfl (cI rfl rfl rfl (fun w hw=>zbm _ w (hw.fr (i:=2) rfl) (GProblem.mk ((fL).Domains) (GRules.mk (((fL).Rules.Pairs).take 2) ((fL).Rules.Loads) ((fL).Rules.Caps))) v33_0_0 cs33_0_0 (SlD.mono (rep:=cG) (fun _ _ _ _=>GDomain.mono) hf33_0_0 le8_14) (iO v33_0_1 0 2 5) (SlC.mono hs37_ le8_14) v33_0_2 (SlC.mono hf33_0_2 le8_14) v33_0_3 (SlC.mono hf33_0_3 le8_14) ([(GChoice.mk 1 15),(GChoice.mk 2 14),(GChoice.mk 3 14)].take 1) (iO (.slice (some ⟨g47,0,none⟩) 3 3) 0 1 2) (SlC.mono hs68_ le10_14) 1 (GResult.mk 1 [(GChoice.mk 1 15),(GChoice.mk 2 14),(GChoice.mk 3 14)] [] 1) (.slice (some ⟨g47,0,none⟩) 3 3) (SlC.mono hf10 le10_14) (.slice none 0 0) [] (SlD.nil _ _ 1) (htab.keptF hw) fuel hfu r71 hr71)) ?_;refine q3K ?_;refine q1D ?_;exact cL (r71,F14) ⟨hk,le10_14⟩ (.c .nil) (List.Sublist.refl _)
       ·replace hk:=dA hk h8;refine TS.run 5 rfl ?_;refine it ?_;refine q1D ?_;exact cL (false,F14) ⟨hk,le10_14⟩ (.c .nil) (List.Sublist.refl _)
      ·replace hk:=dA hk h7;refine fC ?_;refine it ?_;refine q3d ?_;refine q1D ?_;exact cL (false,F14) ⟨hk,le10_14⟩ (.c .nil) (List.Sublist.refl _)
     ·refine cP rfl (Wt.some) rfl rfl (Ew.buildSlice rfl rfl rfl a7) ?_;rintro _ _ ⟨g55,rfl,rfl⟩;have hl55:OwnD cE F12.toFrz 1 [[(iO (.slice (some ⟨g43,0,none⟩) 3 3) 0 1 2)],[(.slice none 0 0)]] [([(GChoice.mk 1 14),(GChoice.mk 2 15),(GChoice.mk 3 15)].take 1),[]]:=(da (da (OwnD.nil _ _ 1) ⟨_,rfl,(SlC.mono hs54_ le9_12)⟩) ⟨_,rfl,(SlC.nil _ 2)⟩);refine ⟨(fun w hw=>(hw.frLe (i:=3) rfl le10_12).sub Sx),?_⟩;refine jh (fun w hw=>hw.freezeR (i:=3) (j:=0) a7 rfl rfl) ?_;rintro F15 ⟨le12_15,hz15⟩;refine gY ?_;have le8_15:=le8_12.trans le12_15;have le9_15:=le9_12.trans le12_15;have le10_15:=le10_12.trans le12_15;have hf15:SlD cE F15.toFrz (.slice (some ⟨g55,0,none⟩) 2 2) 1 [[(iO (.slice (some ⟨g43,0,none⟩) 3 3) 0 1 2)],[(.slice none 0 0)]] [([(GChoice.mk 1 14),(GChoice.mk 2 15),(GChoice.mk 3 15)].take 1),[]]:=(SlK.lit hz15 rfl (Nat.le_refl _) a7).toD (OwnD.mono (rep:=cE) (fun _ _ _ _=>R_List_GChoice.mono) hl55 le12_15) rfl;refine q10 ?_;refine cP rfl (Wt.some) rfl rfl (fb 2 rfl rfl rfl rfl (fun w hw hF=>zcc _ w hF )) ?_;rintro _ _ ⟨⟨v52_0_0,cs52_0_0,v52_0_1,v52_0_2,v52_0_3⟩,F16,le15_16,⟨hf52_0_0,hf52_0_1,hf52_0_2,hf52_0_3⟩,rfl,rfl⟩;dsimp only at hf52_0_0 hf52_0_1 hf52_0_2 hf52_0_3 ⊢;have le8_16:=le8_15.trans le15_16;have le9_16:=le9_15.trans le15_16;have le10_16:=le10_15.trans le15_16;haveI:=hf52_0_0.1.oneC;haveI:=hf52_0_1.oneC;haveI:=hf52_0_2.oneC;haveI:=hf52_0_3.oneC;refine q3m ?_;refine dn ?_;have hq:=eW hk;clear hk;obtain ⟨r57,hr57,hk⟩:=hq;refine cP rfl (Wt.some) rfl rfl (cI rfl rfl rfl (fun w hw=>zbm _ w (hw.fr (i:=2) rfl) (fL) v52_0_0 cs52_0_0 hf52_0_0 v52_0_1 hf52_0_1 v52_0_2 hf52_0_2 v52_0_3 hf52_0_3 [] (.slice none 0 0) (SlC.nil _ 2) 1 (GResult.mk 2 [] [([(GChoice.mk 1 14),(GChoice.mk 2 15),(GChoice.mk 3 15)].take 1),[]] 1) (.slice none 0 0) (SlC.nil _ 2) (.slice (some ⟨g55,0,none⟩) 2 2) [[(iO (.slice (some ⟨g43,0,none⟩) 3 3) 0 1 2)],[(.slice none 0 0)]] (SlD.mono (rep:=cE) (fun _ _ _ _=>R_List_GChoice.mono) hf15 le15_16) (htab.keptF hw) fuel hfu r57 hr57)) ?_;refine eR ?_;refine q3m ?_;refine fj ?_;refine dl rfl rfl rfl rfl (fun h9=>?_) (fun h9=>?_)
      ·replace hk:=dB hk h9;refine iW ?_;refine eG ?_;refine q10 ?_;have hq:=eW hk;clear hk;obtain ⟨r63,hr63,hk⟩:=hq;refine cP rfl (Wt.some) rfl rfl (cI rfl rfl rfl (fun w hw=>zbm _ w (hw.fr (i:=2) rfl) (GProblem.mk ((fL).Domains) (GRules.mk (((fL).Rules.Pairs).take 2) ((fL).Rules.Loads) ((fL).Rules.Caps))) v33_0_0 cs33_0_0 (SlD.mono (rep:=cG) (fun _ _ _ _=>GDomain.mono) hf33_0_0 le8_16) (iO v33_0_1 0 2 5) (SlC.mono hs37_ le8_16) v33_0_2 (SlC.mono hf33_0_2 le8_16) v33_0_3 (SlC.mono hf33_0_3 le8_16) [] (.slice none 0 0) (SlC.nil _ 2) 1 (GResult.mk 1 [(GChoice.mk 1 14),(GChoice.mk 2 15),(GChoice.mk 3 15)] [] 1) (.slice (some ⟨g43,0,none⟩) 3 3) (SlC.mono hf9 le9_16) (.slice none 0 0) [] (SlD.nil _ _ 1) (htab.keptF hw) fuel hfu r63 hr63)) ?_;refine eR ?_;refine q3m ?_;refine fj ?_;refine dl rfl rfl rfl rfl (fun h10=>?_) (fun h10=>?_)
       ·replace hk:=dB hk h10;refine iW ?_;refine eG ?_;have hq:(0≤1∧1≤([(GChoice.mk 1 15),(GChoice.mk 2 14),(GChoice.mk 3 14)].length:Int))∧_:=fZ hk;clear hk;obtain ⟨g68h,hk⟩:=hq;refine cJ rfl (ko (i:=1) rfl rfl rfl (SlC.mono hf10 le10_16) (List.length_map _) (show (1:Int)=((1:Nat):Int) from rfl) a6) ?_;have hs68_:SlC F10.toFrz (iO (.slice (some ⟨g47,0,none⟩) 3 3) 0 1 2) 2 (([(GChoice.mk 1 15),(GChoice.mk 2 14),(GChoice.mk 3 14)].take 1).map cC):=hf10.sliceh (i:=1) a6;haveI:=hs68_.oneC;refine eG ?_;refine q10 ?_;have hq:=eW hk;clear hk;obtain ⟨r71,hr71,hk⟩:=hq;refine cP rfl (Wt.some) rfl rfl (cI rfl rfl rfl (fun w hw=>zbm _ w (hw.fr (i:=2) rfl) (GProblem.mk ((fL).Domains) (GRules.mk (((fL).Rules.Pairs).take 2) ((fL).Rules.Loads) ((fL).Rules.Caps))) v33_0_0 cs33_0_0 (SlD.mono (rep:=cG) (fun _ _ _ _=>GDomain.mono) hf33_0_0 le8_16) (iO v33_0_1 0 2 5) (SlC.mono hs37_ le8_16) v33_0_2 (SlC.mono hf33_0_2 le8_16) v33_0_3 (SlC.mono hf33_0_3 le8_16) ([(GChoice.mk 1 15),(GChoice.mk 2 14),(GChoice.mk 3 14)].take 1) (iO (.slice (some ⟨g47,0,none⟩) 3 3) 0 1 2) (SlC.mono hs68_ le10_16) 1 (GResult.mk 1 [(GChoice.mk 1 15),(GChoice.mk 2 14),(GChoice.mk 3 14)] [] 1) (.slice (some ⟨g47,0,none⟩) 3 3) (SlC.mono hf10 le10_16) (.slice none 0 0) [] (SlD.nil _ _ 1) (htab.keptF hw) fuel hfu r71 hr71)) ?_;refine eR ?_;refine q3m ?_;refine q1D ?_;exact cL (r71,F16) ⟨hk,le10_16⟩ (.c .nil) (List.Sublist.refl _)
       ·replace hk:=dA hk h10;refine TS.run 5 rfl ?_;refine it ?_;refine q1D ?_;exact cL (false,F16) ⟨hk,le10_16⟩ (.c .nil) (List.Sublist.refl _)
      ·replace hk:=dA hk h9;refine fC ?_;refine it ?_;refine q3d ?_;refine q1D ?_;exact cL (false,F16) ⟨hk,le10_16⟩ (.c .nil) (List.Sublist.refl _)
    ·replace hk:=dA hk h6;refine fj ?_;refine TS.two ?_ ?_
     ·refine TSo.off rfl (Wt.not rfl rfl rfl rfl) rfl rfl ?_;refine it ?_;refine eG ?_;refine it ?_;refine TS.run 5 rfl ?_;refine it ?_;refine q3d ?_;refine q1D ?_;exact cL (false,F12) ⟨hk,le10_12⟩ (.c .nil) (List.Sublist.refl _)
     ·refine TSo.off rfl (Wt.not rfl rfl rfl rfl) rfl rfl ?_;refine eG ?_;refine it ?_;refine it ?_;refine TS.run 5 rfl ?_;refine it ?_;refine q3d ?_;refine q1D ?_;exact cL (false,F12) ⟨hk,le10_12⟩ (.c .nil) (List.Sublist.refl _)
   ·rintro ⟨x_4,F11⟩ ⟨hk,le10_11⟩; (try dsimp only at *);rw [←hk5] at hk; (try dsimp only at hk);refine T.ret ?_;obtain rfl:=Option.some.inj hk;exact eO
def zbf (fuel:Nat)(l:List GDomain)(hints:List GChoice):Option Bool:=
 (zb1 fuel (GProblem.mk l (GRules.mk [] [] [])) 20 0).bind fun r11=>
 (bif ((!r11)||(decide (20<(hints.length:Int)))) then
  (zbj fuel).bind fun r18=>
  some r18
  else
  (kX l hints).bind fun r22=>
  (zbY (GProblem.mk l (GRules.mk [] [] []))).bind fun r27=>
  (bif ((!r27)||(!(zaM hints))) then
   dV (fun (x_5:Bool)=>
    some x_5)
   (fun k6=>
    (bif (decide (r22.1.Station=0)&&decide (r22.1.Channel=0)) then
     (bif decide (r22.2=2) then
      (zbj fuel).bind fun r42=>
      k6 r42
      else
      k6 false)
     else
     k6 false))
   else
   (zaW l hints).bind fun r47=>
   (bif !r47.2 then
    dV (fun (x_10:Bool)=>
     some x_10)
    (fun k11=>
     (bif (decide (r22.1.Station=0)&&decide (r22.1.Channel=0)) then
      (bif decide (r22.2=9) then
       (zbj fuel).bind fun r60=>
       k11 r60
       else
       k11 false)
      else
      k11 false))
    else
    dV (fun (x_14:Bool)=>
     some x_14)
    (fun k15=>
     (bif decide (r22.2=0) then
      (bif (decide (r22.1.Station=r47.1.Station)&&decide (r22.1.Channel=r47.1.Channel)) then
       (zbj fuel).bind fun r70=>
       k15 r70
       else
       k15 false)
      else
      k15 false)))))
theorem zdf (F0:Frz)(w:World)(hF0:F0.At w)(l:List GDomain)(vl:Value)(cl:List (List Value))(hl:SlD cG F0 vl 2 cl l)(hints:List GChoice)(vhints:Value)(hhints:SlC F0 vhints 2 (hints.map cC))(htab:Tab w)(fuel:Nat)(hfu:100000≤fuel)(r:Bool)(hr:zbf fuel l hints=some r):Calls Tryz.prog 3 #[vl,vhints] w fun e w'=>e= .returned (.bool r)∧Below w.heap.size w w':=by
 have hk:=hr;unfold zbf at hk;haveI:=hl.1.oneC;haveI:=hhints.oneC;obtain ⟨S0,F1,rfl,hS0,hp0⟩:=fM hF0;have hM0:¬(fun _:Nat=>False) 0:=fun h=>h;have htk:∀ {hs:HS} {w':World},Hp w (fun _=>False) hs w'→Tab w':=fun hw=>htab.keptF hw;refine dt Tryz.func3 rfl rfl rfl hp0 ?_;refine gU ?_;refine cO (T.seq (T.seq ?_));have hq:=eW hk;clear hk;obtain ⟨r11,hr11,hk⟩:=hq; (try dsimp only at hk);refine db (ι:=Unit) (fun z=>[(0,vl),(1,vhints),(17, .bool ((!r11)||(decide (20<(hints.length:Int)))))]) (fun z=>[.fr F1]) (fun z=>True) ?_ ?_
 ·refine iK ?_;refine iz ?_;refine c8 (cI rfl rfl rfl (fun w hw=>zgn _ w (hw.fr (i:=0) rfl) (GProblem.mk l (GRules.mk [] [] [])) vl cl hl (.slice none 0 0) (SlC.nil _ 5) (.slice none 0 0) (SlC.nil _ 5) (.slice none 0 0) (SlC.nil _ 4) 20 0 fuel r11 hr11)) ?_;refine eR ?_;refine dS ?_;refine dD rfl rfl rfl (fun h1=>?_) (fun h1=>?_)
  ·refine lN ?_;exact cL () trivial (.c (.c (.b (gn h1).symm .nil))) (List.Sublist.refl _)
  ·refine c6 ?_;refine cF (dc rfl rfl hhints (List.length_map _)) ?_;have hm15:hints.length≤9223372036854775807:=(List.length_map _)▸hhints.max;refine dS ?_;refine fg ?_;exact cL () trivial (.c (.c (.b (gw h1) .nil))) (List.Sublist.refl _)
 ·rintro _ _;have hm15:hints.length≤9223372036854775807:=(List.length_map _)▸hhints.max;refine T.cond rfl (fun h2=>?_) (fun h2=>?_)
  ·replace hk:=dB hk h2;refine T.seq ?_;have hq:=eW hk;clear hk;obtain ⟨r18,hr18,hk⟩:=hq; (try dsimp only at hk);refine fo ?_;refine c8 (cI rfl rfl rfl (fun w hw=>zcs _ w (hw.fr (i:=0) rfl) (htab.keptF hw) fuel hfu r18 hr18)) ?_;refine eR ?_;refine c6 ?_;refine km ?_;obtain rfl:=Option.some.inj hk;exact eO
  ·have p2:=h2; (try simp only [cN] at p2);replace hk:=dA hk h2;refine jc ?_;have hq:=eW hk;clear hk;obtain ⟨r22,hr22,hk⟩:=hq; (try dsimp only at hk);refine im ?_;refine c8 (cI rfl rfl rfl (fun w hw=>zb2 _ w (hw.fr (i:=0) rfl) l vl cl hl hints vhints hhints r22 hr22)) ?_;refine eR ?_;refine eu ?_;refine gN ?_;rintro _ _ ⟨g5,rfl,rfl⟩;refine jF ?_;refine q2x ?_;have hq:=eW hk;clear hk;obtain ⟨r27,hr27,hk⟩:=hq; (try dsimp only at hk);refine db (ι:=Unit) (fun z=>[(0,vl),(1,vhints),(5, .pointer (some ⟨g5,0,none⟩)),(6, .int .i64 r22.2),(33, .bool ((!r27)||(!(zaM hints))))]) (fun z=>[.row g5 34 [.int .i64 r22.1.Station, .int .i64 r22.1.Channel], .fr F1]) (fun z=>True) ?_ ?_
   ·refine iK ?_;refine iz ?_;refine c8 (cI rfl rfl rfl (fun w hw=>zgk _ w (hw.fr (i:=1) rfl) (GProblem.mk l (GRules.mk [] [] [])) vl cl hl (.slice none 0 0) (SlC.nil _ 5) (.slice none 0 0) (SlC.nil _ 5) (.slice none 0 0) (SlC.nil _ 4) r27 hr27)) ?_;refine eR ?_;refine dS ?_;refine dD rfl rfl rfl (fun h3=>?_) (fun h3=>?_)
    ·refine lN ?_;exact cL () trivial (.c (.c (.c (.c (.b (gn h3).symm .nil))))) (List.Sublist.refl _)
    ·refine c6 ?_;refine c8 (cI rfl rfl rfl (fun w hw=>zeA _ w (hw.fr (i:=1) rfl) hints vhints hhints)) ?_;refine q2n ?_;exact cL () trivial (.c (.c (.c (.c (.b (gw h3) .nil))))) (List.Sublist.refl _)
   ·rintro _ _;refine T.cond rfl (fun h4=>?_) (fun h4=>?_)
    ·replace hk:=dB hk h4;refine T.seq ?_; (try dsimp only at hk);have hq:=fi hk;clear hk;obtain ⟨k6,hk6,hk⟩:=hq; (try dsimp only at hk);refine db (ι:=Bool) (fun z=>[(4, .bool z)]) (fun z=>[.fr F1]) (fun z=>k6 z=some r) ?_ ?_
     ·refine fo ?_;refine iS ?_;refine iz ?_;refine cF (kx a8 rfl rfl rfl) ?_;refine c6 ?_;refine dD rfl rfl rfl (fun h7=>?_) (fun h7=>?_)
      ·have p7:=h7; (try simp only [cN] at p7);replace hk:=dB hk h7;refine TL.run 4 rfl ?_;refine dD rfl rfl rfl (fun h8=>?_) (fun h8=>?_)
       ·have p8:=of_decide_eq_true h8;replace hk:=dB hk h8;have hq:=eW hk;clear hk;obtain ⟨r42,hr42,hk⟩:=hq;refine c8 (cI rfl rfl rfl (fun w hw=>zcs _ w (hw.fr (i:=1) rfl) (htab.keptF hw) fuel hfu r42 hr42)) ?_;refine q2n ?_;refine q2D ?_;exact cL r42 hk (.c .nil) (List.Sublist.refl _)
       ·have p8:=of_decide_eq_false h8;replace hk:=dA hk h8;refine eu ?_;refine fg ?_;refine q2D ?_;exact q33
      ·replace hk:=dA hk h7;refine TL.run 7 rfl ?_;refine fg ?_;refine q2D ?_;exact q33
     ·rintro x_5 hk;rw [←hk6] at hk; (try dsimp only at hk);refine T.ret (dN ?_);obtain rfl:=Option.some.inj hk;exact eO
    ·replace hk:=dA hk h4;refine jc ?_;have hq:=eW hk;clear hk;obtain ⟨r47,hr47,hk⟩:=hq; (try dsimp only at hk);refine im ?_;refine c8 (cI rfl rfl rfl (fun w hw=>zfH _ w (hw.fr (i:=1) rfl) l vl cl hl hints vhints hhints r47 hr47)) ?_;refine eR ?_;refine eu ?_;refine gN ?_;rintro _ _ ⟨g7,rfl,rfl⟩;refine jF ?_;refine jx ?_;refine ic ?_;refine T.cond rfl (fun h9=>?_) (fun h9=>?_)
     ·replace hk:=dB hk h9;refine T.seq ?_; (try dsimp only at hk);have hq:=fi hk;clear hk;obtain ⟨k11,hk11,hk⟩:=hq; (try dsimp only at hk);refine db (ι:=Bool) (fun z=>[(4, .bool z)]) (fun z=>[.fr F1]) (fun z=>k11 z=some r) ?_ ?_
      ·refine fo ?_;refine q2p ?_;refine iz ?_;refine cF (kx a8 rfl rfl rfl) ?_;refine c6 ?_;refine dD rfl rfl rfl (fun h12=>?_) (fun h12=>?_)
       ·have p12:=h12; (try simp only [cN] at p12);replace hk:=dB hk h12;refine TL.run 4 rfl ?_;refine dD rfl rfl rfl (fun h13=>?_) (fun h13=>?_)
        ·have p13:=of_decide_eq_true h13;replace hk:=dB hk h13;have hq:=eW hk;clear hk;obtain ⟨r60,hr60,hk⟩:=hq;refine c8 (cI rfl rfl rfl (fun w hw=>zcs _ w (hw.fr (i:=2) rfl) (htab.keptF hw) fuel hfu r60 hr60)) ?_;refine q2n ?_;refine K.pick [2] rfl a7 ?_;exact cL r60 hk (.c .nil) (List.Sublist.refl _)
        ·have p13:=of_decide_eq_false h13;replace hk:=dA hk h13;refine eu ?_;refine fg ?_;refine K.pick [2] rfl a7 ?_;exact q33
       ·replace hk:=dA hk h12;refine TL.run 7 rfl ?_;refine fg ?_;refine K.pick [2] rfl a7 ?_;exact q33
      ·rintro x_10 hk;rw [←hk11] at hk; (try dsimp only at hk);refine T.ret (dN ?_);obtain rfl:=Option.some.inj hk;exact eO
     ·replace hk:=dA hk h9;refine jc ?_; (try dsimp only at hk);have hq:=fi hk;clear hk;obtain ⟨k15,hk15,hk⟩:=hq; (try dsimp only at hk);refine db (ι:=Bool) (fun z=>[(4, .bool z)]) (fun z=>[.fr F1]) (fun z=>k15 z=some r) ?_ ?_
      ·refine fo ?_;refine eu ?_;refine dD rfl rfl rfl (fun h16=>?_) (fun h16=>?_)
       ·have p16:=of_decide_eq_true h16;replace hk:=dB hk h16;refine q2p ?_;refine iS ?_;refine cF (kx a8 rfl rfl rfl) ?_;refine dS ?_;refine dD rfl rfl rfl (fun h17=>?_) (fun h17=>?_)
        ·have p17:=h17; (try simp only [cN] at p17);replace hk:=dB hk h17;have hq:=eW hk;clear hk;obtain ⟨r70,hr70,hk⟩:=hq;refine c8 (cI rfl rfl rfl (fun w hw=>zcs _ w (hw.fr (i:=2) rfl) (htab.keptF hw) fuel hfu r70 hr70)) ?_;refine q2n ?_;refine K.pick [2] rfl a7 ?_;exact cL r70 hk (.c .nil) (List.Sublist.refl _)
        ·replace hk:=dA hk h17;refine eu ?_;refine fg ?_;refine K.pick [2] rfl a7 ?_;exact q33
       ·have p16:=of_decide_eq_false h16;replace hk:=dA hk h16;refine TL.run 8 rfl ?_;refine fg ?_;refine K.pick [2] rfl a7 ?_;exact q33
      ·rintro x_14 hk;rw [←hk15] at hk; (try dsimp only at hk);refine T.ret ?_;obtain rfl:=Option.some.inj hk;exact eO
def jI:List Int→List Int→Bool
 |a :: x,b :: y=>if a=b then jI x y else decide (a<b)
 |_,_=>false
theorem zix {x y:List Int}{k:Nat}(h:k<x.length)(h2:k<y.length):jI (x.drop k) (y.drop k)=if cD x k=cD y k then jI (x.drop (k+1)) (y.drop (k+1)) else decide (cD x k<cD y k):=by
 rw [List.drop_eq_getElem_cons h,List.drop_eq_getElem_cons h2,d9 h,d9 h2];rfl
def zgm (ds:List Dx)(s:Int):Int:=match ds.findIdx? (fun d=>decide (d.st=s)) with|some i=>(i:Int)|none=> -1
theorem fD {n a b:Int}:inB n a b=true↔a≤n∧n≤b:=by simp [inB]
def zgj (xs:List Pr)(k:Nat):Bool:=decide ((inB (cD xs k).a 0 511=true∧inB (cD xs k).b 0 511=true∧(cD xs k).a<(cD xs k).b∧ -1≤(cD xs k).off∧(cD xs k).off≤1∧eC (cD xs k).lo (cD xs k).hi=true)∧(0<k→jI [(cD xs (k - 1)).a,(cD xs (k - 1)).b,(cD xs (k - 1)).off,(cD xs (k - 1)).lo,(cD xs (k - 1)).hi] [(cD xs k).a,(cD xs k).b,(cD xs k).off,(cD xs k).lo,(cD xs k).hi]=true))
def zga (xs:List Ld)(k:Nat):Bool:=decide ((inB (cD xs k).to 0 511=true∧inB (cD xs k).fr 0 511=true∧¬(cD xs k).to=(cD xs k).fr∧1≤(cD xs k).wt∧(cD xs k).wt≤1073741824∧eC (cD xs k).lo (cD xs k).hi=true)∧(0<k→jI [(cD xs (k - 1)).to,(cD xs (k - 1)).fr,(cD xs (k - 1)).wt,(cD xs (k - 1)).lo,(cD xs (k - 1)).hi] [(cD xs k).to,(cD xs k).fr,(cD xs k).wt,(cD xs k).lo,(cD xs k).hi]=true))
def zgf (xs:List Cp)(k:Nat):Bool:=decide ((inB (cD xs k).st 0 511=true∧0≤(cD xs k).mx∧(cD xs k).mx≤1099511627776∧eC (cD xs k).lo (cD xs k).hi=true)∧(0<k→jI [(cD xs (k - 1)).st,(cD xs (k - 1)).mx,(cD xs (k - 1)).lo,(cD xs (k - 1)).hi] [(cD xs k).st,(cD xs k).mx,(cD xs k).lo,(cD xs k).hi]=true))
def zfT (P:Pb):Bool:=decide (P.ps.length≤4096∧P.ls.length≤1024∧P.cs.length≤1024)&&((List.range P.ps.length).all (zgj P.ps)&&((List.range P.ls.length).all (zga P.ls)&&(List.range P.cs.length).all (zgf P.cs)))
def zhh (cs:List Int)(j:Nat):Bool:=decide (2≤cD cs j∧cD cs j≤51∧(0<j→cD cs (j - 1)<cD cs j))
def ziW (ds:List Dx)(k:Nat):Bool:=decide ((inB (cD ds k).st 0 511=true∧(0<k→(cD ds (k - 1)).st<(cD ds k).st)∧(cD ds k).chs.length≤50)∧(List.range (cD ds k).chs.length).all (zhh (cD ds k).chs)=true)
def ziL (P:Pb)(k:Nat):Bool:=decide (0≤zgm P.ds (cD P.ps k).a∧0≤zgm P.ds (cD P.ps k).b)
def ziI (P:Pb)(k:Nat):Bool:=decide (0≤zgm P.ds (cD P.ls k).to∧0≤zgm P.ds (cD P.ls k).fr)
def ziJ (P:Pb)(k:Nat):Bool:=decide (0≤zgm P.ds (cD P.cs k).st)
def zjB (P:Pb):Bool:=decide (P.ds.length≤512)&&(zfT P&&((List.range P.ds.length).all (ziW P.ds)&&((List.range P.ps.length).all (ziL P)&&((List.range P.ls.length).all (ziI P)&&(List.range P.cs.length).all (ziJ P)))))
theorem ze4 {α:Type}[Inhabited α]{c:α→α→Int}{xs:List α}:eQ c xs=true↔∀k,0<k→k<xs.length→c (cD xs (k - 1)) (cD xs k)<0:=by
 unfold eQ;rw [List.all_eq_true];constructor
 ·intro h k h0 hk;have:=h k (List.mem_range.2 hk);simp only [Bool.or_eq_true,decide_eq_true_eq,Bool.not_eq_true',decide_eq_false_iff_not] at this;omega
 ·intro h k hk;simp only [Bool.or_eq_true,decide_eq_true_eq,Bool.not_eq_true',decide_eq_false_iff_not];by_cases h0:k=0
  ·exact .inl h0
  ·have:=h k a6 (List.mem_range.1 hk);exact .inr a6
theorem gD {f:Nat→Bool}{n:Nat}:(List.range n).all f=true↔∀k,k<n→f k=true:=by
 rw [List.all_eq_true];exact ⟨fun h k hk=>h k (List.mem_range.2 hk),fun h k hk=>h k (List.mem_range.1 hk)⟩
theorem zem {a b:Int}:dC a b<0↔a<b:=by unfold dC;split <;> (try split) <;> omega
theorem jb {a b:Int}:dC a b=0↔a=b:=by unfold dC;split <;> (try split) <;> omega
theorem zgo:∀(xs ys:List Int),xs.length=ys.length→(jI xs ys=true↔lg (List.zipWith dC xs ys)<0)
 | [],[],_=>by simp [jI,lg]
 |a :: x,b :: y,h=>by
  have ih:=zgo x y (by simpa using h);unfold jI;rw [List.zipWith_cons_cons];unfold lg;by_cases e:a=b
  ·rw [if_pos e,if_pos (jb.2 e)];exact ih
  ·rw [if_neg e,if_neg (fun hh=>e (jb.1 hh)),zem,decide_eq_true_eq]
 | [],_ :: _,h=>by simp at h
 |_ :: _,[],h=>by simp at h
theorem zja {xs:List Pr}{k:Nat}:zgj xs k=true↔(cD xs k).ok=true∧(0<k→Pr.cmp (cD xs (k - 1)) (cD xs k)<0):=by
 have e:=zgo [(cD xs (k - 1)).a,(cD xs (k - 1)).b,(cD xs (k - 1)).off,(cD xs (k - 1)).lo,(cD xs (k - 1)).hi] [(cD xs k).a,(cD xs k).b,(cD xs k).off,(cD xs k).lo,(cD xs k).hi] rfl;simp only [zgj,decide_eq_true_eq,e,Pr.ok,Bool.and_eq_true,fD,Pr.cmp,List.zipWith,and_assoc]
theorem zjo {xs:List Ld}{k:Nat}:zga xs k=true↔(cD xs k).ok=true∧(0<k→Ld.cmp (cD xs (k - 1)) (cD xs k)<0):=by
 have e:=zgo [(cD xs (k - 1)).to,(cD xs (k - 1)).fr,(cD xs (k - 1)).wt,(cD xs (k - 1)).lo,(cD xs (k - 1)).hi] [(cD xs k).to,(cD xs k).fr,(cD xs k).wt,(cD xs k).lo,(cD xs k).hi] rfl;simp only [zga,decide_eq_true_eq,e,Ld.ok,Bool.and_eq_true,fD,Ld.cmp,List.zipWith,and_assoc]
theorem zjg {xs:List Cp}{k:Nat}:zgf xs k=true↔(cD xs k).ok=true∧(0<k→Cp.cmp (cD xs (k - 1)) (cD xs k)<0):=by
 have e:=zgo [(cD xs (k - 1)).st,(cD xs (k - 1)).mx,(cD xs (k - 1)).lo,(cD xs (k - 1)).hi] [(cD xs k).st,(cD xs k).mx,(cD xs k).lo,(cD xs k).hi] rfl;simp only [zgf,decide_eq_true_eq,e,Cp.ok,Bool.and_eq_true,fD,Cp.cmp,List.zipWith,and_assoc]
theorem zeY {α:Type}[Inhabited α]{r:List α→Nat→Bool}{q:α→Bool}{c:α→α→Int}{xs:List α}(h:∀k,r xs k=true↔q (cD xs k)=true∧(0<k→c (cD xs (k - 1)) (cD xs k)<0)):(List.range xs.length).all (r xs)=true↔fh q xs=true∧eQ c xs=true:=by
 rw [gD,zen,ze4];exact ⟨fun hh=>⟨fun k hk=>((h k).1 (hh k hk)).1,fun k h0 hk=>((h k).1 (hh k hk)).2 h0⟩,fun hh k hk=>(h k).2 ⟨hh.1 k hk,fun h0=>hh.2 k h0 hk⟩⟩
theorem zi8 (P:Pb):zfT P=P.rulesOk:=by
 rw [Bool.eq_iff_iff];simp only [zfT,Pb.rulesOk,Bool.and_eq_true,decide_eq_true_eq,zeY (r:=zgj) (q:=Pr.ok) (c:=Pr.cmp) (xs:=P.ps) (fun k=>zja),zeY (r:=zga) (q:=Ld.ok) (c:=Ld.cmp) (xs:=P.ls) (fun k=>zjo),zeY (r:=zgf) (q:=Cp.ok) (c:=Cp.cmp) (xs:=P.cs) (fun k=>zjg)];constructor
 ·rintro ⟨⟨h1,h2,h3⟩,⟨h4,h5⟩,⟨h6,h7⟩,h8,h9⟩;exact ⟨by omega,h4,h5,by omega,h6,h7,by omega,h8,h9⟩
 ·rintro ⟨h1,h4,h5,h2,h6,h7,h3,h8,h9⟩;exact ⟨⟨by omega,by omega,by omega⟩,⟨h4,h5⟩,⟨h6,h7⟩,h8,h9⟩
theorem zid {f:Nat→Int}{lo hi:Int}{n:Nat}(h0:∀k,k<n→lo≤f k∧f k≤hi)(h:∀k,0<k→k<n→f (k - 1)<f k):(n:Int)≤hi - lo+1∨n=0:=by
 have key:∀k,k<n→lo+(k:Int)≤f k:=by
  intro k
  induction k with
  |zero=>intro hk;have:=h0 0 hk;omega
  |succ k ih=>intro hk;have:=ih a6;have:=h (k+1) a6 hk;rw [Nat.add_sub_cancel] at this;omega
 rcases Nat.eq_zero_or_pos n with h1|h1
 ·exact .inr h1
 ·have:=key (n - 1) a6;have:=h0 (n - 1) a6;exact .inl a6
theorem zhe {ds:List Dx}{s:Int}:0≤zgm ds s↔∃i,i<ds.length∧(cD ds i).st=s:=by
 unfold zgm
 cases hf:ds.findIdx? (fun d=>decide (d.st=s)) with
 |none=>
  refine ⟨fun h=>by simp at h,fun ⟨i,hi,h⟩=>?_⟩;rw [List.findIdx?_eq_none_iff] at hf;have:=hf (cD ds i) (gR hi);simp [h] at this
 |some i=>
  refine ⟨fun _=>?_,fun _=>by simp⟩;obtain ⟨hi,h1,_⟩:=List.findIdx?_eq_some_iff_getElem.1 hf;exact ⟨i,hi,by rw [d9 hi];simpa using h1⟩
theorem zcR {P:Pb}(hst:∀d∈P.ds,0≤d.st∧d.st≤511){s:Int}:P.has s=true↔0≤zgm P.ds s:=by
 unfold Pb.has;rw [zgC (P.ds.map fun d:Dx=>d.st) (fun y hy=>by obtain ⟨d,hd,rfl⟩:=List.mem_map.1 hy;exact hst d hd),zhe,List.mem_map];constructor
 ·rintro ⟨d,hd,rfl⟩;obtain ⟨i,hi,rfl⟩:=List.mem_iff_getElem.1 hd;exact ⟨i,hi,by rw [d9 hi]⟩
 ·rintro ⟨i,hi,rfl⟩;exact ⟨_,gR hi,rfl⟩
theorem i2 {cs:List Int}:(List.range cs.length).all (zhh cs)=true↔fh (fun c=>inB c 2 51) cs=true∧eQ dC cs=true:=by
 refine zeY (r:=zhh) (q:=fun c=>inB c 2 51) (c:=dC) fun k=>?_;simp only [zhh,decide_eq_true_eq,fD,zem,and_assoc]
theorem zjd (P:Pb):zjB P=P.ok:=by
 rw [Bool.eq_iff_iff];simp only [zjB,Pb.ok,Bool.and_eq_true,decide_eq_true_eq,zi8,gD,zen,ze4,zem,ziW,ziL,ziI,ziJ,Dx.ok]
 have stOf:(∀k,k<P.ds.length→inB (cD P.ds k).st 0 511=true)→∀d∈P.ds,0≤d.st∧d.st≤511:=fun h d hd=>by
  obtain ⟨i,hi,rfl⟩:=List.mem_iff_getElem.1 hd;have:=fD.1 (h i hi)
  rwa [d9 hi] at this
 constructor
 ·rintro ⟨h1,h2,h3,h4,h5,h6⟩;have hst:=stOf fun k hk=>(h3 k hk).1.1;refine ⟨fun k hk=>⟨(h3 k hk).1.1,?_⟩,h2,fun k h0 hk=>(h3 k hk).1.2.1 h0,fun k hk=>⟨(zcR hst).2 (h4 k hk).1,(zcR hst).2 (h4 k hk).2⟩,fun k hk=>⟨(zcR hst).2 (h5 k hk).1,(zcR hst).2 (h5 k hk).2⟩,fun k hk=>(zcR hst).2 (h6 k hk)⟩;have:=i2.1 (gD.2 (h3 k hk).2);simp only [zen,ze4,zem] at this;exact this
 ·rintro ⟨h1,h2,h3,h4,h5,h6⟩;have hst:=stOf fun k hk=>(h1 k hk).1;refine ⟨?_,h2,fun k hk=>⟨⟨(h1 k hk).1,fun h0=>h3 k h0 hk,?_⟩,?_⟩,fun k hk=>⟨(zcR hst).1 (h4 k hk).1,(zcR hst).1 (h4 k hk).2⟩,fun k hk=>⟨(zcR hst).1 (h5 k hk).1,(zcR hst).1 (h5 k hk).2⟩,fun k hk=>(zcR hst).1 (h6 k hk)⟩
  ·have:=zid (f:=fun k=>(cD P.ds k).st) (lo:=0) (hi:=511) (n:=P.ds.length) (fun k hk=>fD.1 (h1 k hk).1) h3;omega
  ·have:=zid (f:=cD (cD P.ds k).chs) (lo:=2) (hi:=51) (n:=(cD P.ds k).chs.length) (fun j hj=>fD.1 ((h1 k hk).2.1 j hj)) (h1 k hk).2.2;omega
  ·exact gD.1 (i2.2 (by simp only [zen,ze4,zem];exact (h1 k hk).2))
theorem zbU {ρ:Type}{f:Nat→(Unit→ρ)→Unit→ρ}{k:Unit→ρ}{n:Nat}{z:ρ}(q:Nat→Bool)(hf:∀i next,i<n→f i next ()=bif q i then next () else z):dj f k n 0 ()=bif (List.range n).all q then k () else z:=by
 have key:∀m i,i+m=n→dj f k m i ()=bif (List.range' i m).all q then k () else z:=by
  intro m
  induction m with
  |zero=>intro i _;rfl
  |succ m ih=>
   intro i e
   show f i (dj f k m (i+1)) ()=_
   rw [hf i _ a6,ih (i+1) a6,List.range'_succ,List.all_cons]
   cases q i <;> rfl
 rw [key n 0 a6,List.range_eq_range']
theorem zdk {n:Int}:jw n=inB n 0 511:=rfl
theorem zkf {a b:Int}:lI a b=eC a b:=by
 unfold lI eC;by_cases h1:2≤a <;> by_cases h2:a≤b <;> by_cases h3:b≤51 <;> simp [h1,h2,h3]
theorem zjU {a b:List Int}(h:a.length=b.length):za7 a b=some (jI a b):=by
 unfold za7;refine q3B ?_
 have key:∀m i,i+m=a.length→dj (fun (i:Nat) (next:Unit→Option Bool) (_:Unit)=>eP (0≤(i:Int)∧(i:Int)<(b.length:Int)) (bif decide (¬cD a i=cD b i) then some (decide (cD a i<cD b i)) else next ())) (fun _=>some false) m i ()=some (jI (a.drop i) (b.drop i)):=by
  intro m
  induction m with
  |zero=>intro i e;rw [List.drop_eq_nil_of_le (show a.length≤i by omega)];rfl
  |succ m ih=>
   intro i e;have h2:=ih (i+1) a6
   show eP _ _=_
   rw [jg ⟨by omega,by omega⟩,zix a6 a6];by_cases e2:cD a i=cD b i
   ·rw [if_pos e2,decide_eq_false (fun hn=>hn e2),cond_false];exact h2
   ·rw [if_neg e2,decide_eq_true e2,cond_true]
 exact key a.length 0 a6
def hasS (p:GProblem)(s:Int):Bool:=p.Domains.any fun d=>decide (d.Station=s)
theorem zme {p:GProblem}{s:Int}:ik p s<0↔hasS p s=false:=by
 unfold ik hasS;refine q3B ?_
 have key:∀m i,i+m=p.Domains.length→(dj (fun (i:Nat) (next:Unit→Int) (_:Unit)=>bif decide ((cD p.Domains i).Station=s) then (i:Int) else next ()) (fun _=>(-1)) m i ()<0↔((p.Domains.drop i).any fun d=>decide (d.Station=s))=false):=by
  intro m
  induction m with
  |zero=>intro i e;rw [List.drop_eq_nil_of_le (show p.Domains.length≤i by omega)];exact ⟨fun _=>rfl,fun _=>by show (-1:Int)<0;omega⟩
  |succ m ih=>
   intro i e;have h2:=ih (i+1) a6;rw [List.drop_eq_getElem_cons (show i<p.Domains.length by omega),List.any_cons,←d9 (show i<p.Domains.length by omega)]
   show (bif decide ((cD p.Domains i).Station=s) then (i:Int) else _)<0↔_
   cases decide ((cD p.Domains i).Station=s) with
   |true=>simp
   |false=>rw [cond_false,Bool.false_or];exact h2
 have:=key p.Domains.length 0 a6
 rwa [List.drop_zero] at this
theorem zb9 (i:Nat):((i:Int) - 1).toNat=i - 1:=by omega
theorem zli {p : GProblem} {i : Nat} {next : Unit → Option Bool} (hi : i < p.Rules.Pairs.length) :
    (bif !(jw ((cD p.Rules.Pairs i).A)) then (bif true then some false else next ()) else
      (bif !(jw ((cD p.Rules.Pairs i).B)) then (bif true then some false else next ()) else
      (bif decide ((cD p.Rules.Pairs i).B ≤ (cD p.Rules.Pairs i).A) then (bif true then some false else next ()) else
      (bif decide ((cD p.Rules.Pairs i).Offset < (-1)) then (bif true then some false else next ()) else
      (bif decide (1 < (cD p.Rules.Pairs i).Offset) then (bif true then some false else next ()) else
      (bif !(lI ((cD p.Rules.Pairs i).Low) ((cD p.Rules.Pairs i).High)) then (bif true then some false else next ()) else
      (bif decide (0 < (i : Int)) then (za7 (kn (cD p.Rules.Pairs (((i : Int) - 1).toNat))) (kn (cD p.Rules.Pairs i))).bind fun r => (bif !r then some false else next ()) else (bif false then some false else next ())))))))) = bif zgj (ed p).ps i then next () else some false := by
  have e1 : cD (ed p).ps i = (cD p.Rules.Pairs i).b := iZ hi; have e2 : cD (ed p).ps (i - 1) = (cD p.Rules.Pairs (i - 1)).b := iZ a6; rw [zb9, zjU (by rfl), Option.bind_some];simp only [zdk, zkf]
  have hr : zgj (ed p).ps i = (inB (cD p.Rules.Pairs i).A 0 511 && (inB (cD p.Rules.Pairs i).B 0 511 && (!decide ((cD p.Rules.Pairs i).B ≤ (cD p.Rules.Pairs i).A) && (!decide ((cD p.Rules.Pairs i).Offset < (-1)) && (!decide (1 < (cD p.Rules.Pairs i).Offset) && (eC (cD p.Rules.Pairs i).Low (cD p.Rules.Pairs i).High && (!decide (0 < (i : Int)) || jI (kn (cD p.Rules.Pairs (i - 1))) (kn (cD p.Rules.Pairs i))))))))) := by
    unfold zgj; rw [e1, e2, Bool.eq_iff_iff, decide_eq_true_eq];simp only [Bool.and_eq_true, Bool.or_eq_true, Bool.not_eq_true', decide_eq_false_iff_not, GPair.b, kn]; constructor
    · rintro ⟨⟨h1, h2, h3, h4, h5, h6⟩, h9⟩; refine ⟨h1, h2, by omega, by omega, by omega, h6, ?_⟩; rcases Nat.eq_zero_or_pos i with h | h
      · exact .inl a6
      · exact .inr (h9 h)
    · rintro ⟨h1, h2, h3, h4, h5, h6, h9⟩; refine ⟨⟨h1, h2, by omega, by omega, by omega, h6⟩, fun h => ?_⟩; rcases h9 with h9 | h9
      · omega
      · exact h9
  rw [hr]
  cases inB (cD p.Rules.Pairs i).A 0 511
  · rfl
  cases inB (cD p.Rules.Pairs i).B 0 511
  · rfl
  cases decide ((cD p.Rules.Pairs i).B ≤ (cD p.Rules.Pairs i).A)
  rotate_left
  · rfl
  cases decide ((cD p.Rules.Pairs i).Offset < (-1))
  rotate_left
  · rfl
  cases decide (1 < (cD p.Rules.Pairs i).Offset)
  rotate_left
  · rfl
  cases eC (cD p.Rules.Pairs i).Low (cD p.Rules.Pairs i).High
  · rfl
  cases decide (0 < (i : Int))
  · rfl
  cases jI (kn (cD p.Rules.Pairs (i - 1))) (kn (cD p.Rules.Pairs i)) <;> rfl
theorem zlw {p : GProblem} {i : Nat} {next : Unit → Option Bool} (hi : i < p.Rules.Loads.length) :
    (bif !(jw ((cD p.Rules.Loads i).To)) then (bif true then some false else next ()) else
      (bif !(jw ((cD p.Rules.Loads i).From)) then (bif true then some false else next ()) else
      (bif decide ((cD p.Rules.Loads i).To = (cD p.Rules.Loads i).From) then (bif true then some false else next ()) else
      (bif decide ((cD p.Rules.Loads i).Weight < 1) then (bif true then some false else next ()) else
      (bif decide (1073741824 < (cD p.Rules.Loads i).Weight) then (bif true then some false else next ()) else
      (bif !(lI ((cD p.Rules.Loads i).Low) ((cD p.Rules.Loads i).High)) then (bif true then some false else next ()) else
      (bif decide (0 < (i : Int)) then (za7 (kq (cD p.Rules.Loads (((i : Int) - 1).toNat))) (kq (cD p.Rules.Loads i))).bind fun r => (bif !r then some false else next ()) else (bif false then some false else next ())))))))) = bif zga (ed p).ls i then next () else some false := by
  have e1 : cD (ed p).ls i = (cD p.Rules.Loads i).b := iZ hi; have e2 : cD (ed p).ls (i - 1) = (cD p.Rules.Loads (i - 1)).b := iZ a6; rw [zb9, zjU (by rfl), Option.bind_some];simp only [zdk, zkf]
  have hr : zga (ed p).ls i = (inB (cD p.Rules.Loads i).To 0 511 && (inB (cD p.Rules.Loads i).From 0 511 && (!decide ((cD p.Rules.Loads i).To = (cD p.Rules.Loads i).From) && (!decide ((cD p.Rules.Loads i).Weight < 1) && (!decide (1073741824 < (cD p.Rules.Loads i).Weight) && (eC (cD p.Rules.Loads i).Low (cD p.Rules.Loads i).High && (!decide (0 < (i : Int)) || jI (kq (cD p.Rules.Loads (i - 1))) (kq (cD p.Rules.Loads i))))))))) := by
    unfold zga; rw [e1, e2, Bool.eq_iff_iff, decide_eq_true_eq];simp only [Bool.and_eq_true, Bool.or_eq_true, Bool.not_eq_true', decide_eq_false_iff_not, GLoad.b, kq]; constructor
    · rintro ⟨⟨h1, h2, h3, h4, h5, h6⟩, h9⟩; refine ⟨h1, h2, by omega, by omega, by omega, h6, ?_⟩; rcases Nat.eq_zero_or_pos i with h | h
      · exact .inl a6
      · exact .inr (h9 h)
    · rintro ⟨h1, h2, h3, h4, h5, h6, h9⟩; refine ⟨⟨h1, h2, by omega, by omega, by omega, h6⟩, fun h => ?_⟩; rcases h9 with h9 | h9
      · omega
      · exact h9
  rw [hr]
  cases inB (cD p.Rules.Loads i).To 0 511
  · rfl
  cases inB (cD p.Rules.Loads i).From 0 511
  · rfl
  cases decide ((cD p.Rules.Loads i).To = (cD p.Rules.Loads i).From)
  rotate_left
  · rfl
  cases decide ((cD p.Rules.Loads i).Weight < 1)
  rotate_left
  · rfl
  cases decide (1073741824 < (cD p.Rules.Loads i).Weight)
  rotate_left
  · rfl
  cases eC (cD p.Rules.Loads i).Low (cD p.Rules.Loads i).High
  · rfl
  cases decide (0 < (i : Int))
  · rfl
  cases jI (kq (cD p.Rules.Loads (i - 1))) (kq (cD p.Rules.Loads i)) <;> rfl
theorem zlH {p : GProblem} {i : Nat} {next : Unit → Option Bool} (hi : i < p.Rules.Caps.length) :
    (bif !(jw ((cD p.Rules.Caps i).Station)) then (bif true then some false else next ()) else
      (bif decide ((cD p.Rules.Caps i).Max < 0) then (bif true then some false else next ()) else
      (bif decide (1099511627776 < (cD p.Rules.Caps i).Max) then (bif true then some false else next ()) else
      (bif !(lI ((cD p.Rules.Caps i).Low) ((cD p.Rules.Caps i).High)) then (bif true then some false else next ()) else
      (bif decide (0 < (i : Int)) then (za7 (ky (cD p.Rules.Caps (((i : Int) - 1).toNat))) (ky (cD p.Rules.Caps i))).bind fun r => (bif !r then some false else next ()) else (bif false then some false else next ())))))) = bif zgf (ed p).cs i then next () else some false := by
  have e1 : cD (ed p).cs i = (cD p.Rules.Caps i).b := iZ hi; have e2 : cD (ed p).cs (i - 1) = (cD p.Rules.Caps (i - 1)).b := iZ a6; rw [zb9, zjU (by rfl), Option.bind_some];simp only [zdk, zkf]
  have hr : zgf (ed p).cs i = (inB (cD p.Rules.Caps i).Station 0 511 && (!decide ((cD p.Rules.Caps i).Max < 0) && (!decide (1099511627776 < (cD p.Rules.Caps i).Max) && (eC (cD p.Rules.Caps i).Low (cD p.Rules.Caps i).High && (!decide (0 < (i : Int)) || jI (ky (cD p.Rules.Caps (i - 1))) (ky (cD p.Rules.Caps i))))))) := by
    unfold zgf; rw [e1, e2, Bool.eq_iff_iff, decide_eq_true_eq];simp only [Bool.and_eq_true, Bool.or_eq_true, Bool.not_eq_true', decide_eq_false_iff_not, GCap.b, ky]; constructor
    · rintro ⟨⟨h1, h2, h3, h4⟩, h9⟩; refine ⟨h1, by omega, by omega, h4, ?_⟩; rcases Nat.eq_zero_or_pos i with h | h
      · exact .inl a6
      · exact .inr (h9 h)
    · rintro ⟨h1, h2, h3, h4, h9⟩; refine ⟨⟨h1, by omega, by omega, h4⟩, fun h => ?_⟩; rcases h9 with h9 | h9
      · omega
      · exact h9
  rw [hr]
  cases inB (cD p.Rules.Caps i).Station 0 511
  · rfl
  cases decide ((cD p.Rules.Caps i).Max < 0)
  rotate_left
  · rfl
  cases decide (1099511627776 < (cD p.Rules.Caps i).Max)
  rotate_left
  · rfl
  cases eC (cD p.Rules.Caps i).Low (cD p.Rules.Caps i).High
  · rfl
  cases decide (0 < (i : Int))
  · rfl
  cases jI (ky (cD p.Rules.Caps (i - 1))) (ky (cD p.Rules.Caps i)) <;> rfl
theorem zgV {p:GProblem}:zbi p.Rules=some (zfT (ed p)):=by
 unfold zbi;refine q3B ?_;rw [zbU (n:=p.Rules.Pairs.length) (z:=some false) (zgj (ed p).ps) (fun i next hi=>zli hi),zbU (n:=p.Rules.Loads.length) (z:=some false) (zga (ed p).ls) (fun i next hi=>zlw hi),zbU (n:=p.Rules.Caps.length) (z:=some false) (zgf (ed p).cs) (fun i next hi=>zlH hi)];have l1:(ed p).ps.length=p.Rules.Pairs.length:=List.length_map _;have l2:(ed p).ls.length=p.Rules.Loads.length:=List.length_map _;have l3:(ed p).cs.length=p.Rules.Caps.length:=List.length_map _;unfold zfT;rw [l1,l2,l3];by_cases h:p.Rules.Pairs.length≤4096∧p.Rules.Loads.length≤1024∧p.Rules.Caps.length≤1024
 ·rw [decide_eq_true h,decide_eq_false a6,decide_eq_false a6,decide_eq_false a6]
  cases (List.range p.Rules.Pairs.length).all (zgj (ed p).ps)
  ·rfl
  cases (List.range p.Rules.Loads.length).all (zga (ed p).ls)
  ·rfl
  cases (List.range p.Rules.Caps.length).all (zgf (ed p).cs) <;> rfl
 ·rw [decide_eq_false h];by_cases h1:(4096:Int)<p.Rules.Pairs.length
  ·rw [decide_eq_true h1];rfl
  ·by_cases h2:(1024:Int)<p.Rules.Loads.length
   ·rw [decide_eq_true h2,Bool.or_true];rfl
   ·rw [decide_eq_true (show (1024:Int)<p.Rules.Caps.length by omega),Bool.or_true];rfl
theorem zhH {p:GProblem}{s:Int}:ik p s<0↔¬0≤zgm (ed p).ds s:=by
 rw [zme,zhe];unfold hasS;rw [List.any_eq_false];have l:(ed p).ds.length=p.Domains.length:=List.length_map _;constructor
 ·rintro h ⟨i,hi,e⟩;rw [l] at hi;have e1:cD (ed p).ds i=(cD p.Domains i).b:=iZ hi;rw [e1] at e;exact h _ (gQ hi) (decide_eq_true e)
 ·intro h x hx hd;obtain ⟨i,hi,rfl⟩:=jK hx;refine h ⟨i,by rw [l];exact hi,?_⟩;have e1:cD (ed p).ds i=(cD p.Domains i).b:=iZ hi;rw [e1];exact of_decide_eq_true hd
theorem zlA {p:GProblem}:zbY p=some (jG p):=by
 have l0:(ed p).ds.length=p.Domains.length:=List.length_map _;have l1:(ed p).ps.length=p.Rules.Pairs.length:=List.length_map _;have l2:(ed p).ls.length=p.Rules.Loads.length:=List.length_map _;have l3:(ed p).cs.length=p.Rules.Caps.length:=List.length_map _;have n0:∀k,k<p.Domains.length→cD (ed p).ds k=(cD p.Domains k).b:=fun k hk=>iZ hk;have n1:∀k,k<p.Rules.Pairs.length→cD (ed p).ps k=(cD p.Rules.Pairs k).b:=fun k hk=>iZ hk;have n2:∀k,k<p.Rules.Loads.length→cD (ed p).ls k=(cD p.Rules.Loads k).b:=fun k hk=>iZ hk;have n3:∀k,k<p.Rules.Caps.length→cD (ed p).cs k=(cD p.Rules.Caps k).b:=fun k hk=>iZ hk;unfold zbY jG;rw [←zjd];simp only [dV,Nat.sub_zero,zgV,Option.bind_some];rw [zbU (n:=p.Domains.length) (z:=some false) (ziW (ed p).ds) (fun i next hi=>?_),zbU (n:=p.Rules.Pairs.length) (z:=some false) (ziL (ed p)) (fun i next hi=>?_),zbU (n:=p.Rules.Loads.length) (z:=some false) (ziI (ed p)) (fun i next hi=>?_),zbU (n:=p.Rules.Caps.length) (z:=some false) (ziJ (ed p)) (fun i next hi=>?_)]
 ·unfold zjB;rw [l0,l1,l2,l3];by_cases h:p.Domains.length≤512
  ·rw [decide_eq_true h,decide_eq_false a6]
   cases zfT (ed p)
   ·rfl
   cases (List.range p.Domains.length).all (ziW (ed p).ds)
   ·rfl
   cases (List.range p.Rules.Pairs.length).all (ziL (ed p))
   ·rfl
   cases (List.range p.Rules.Loads.length).all (ziI (ed p))
   ·rfl
   cases (List.range p.Rules.Caps.length).all (ziJ (ed p)) <;> rfl
  ·rw [decide_eq_false h,decide_eq_true a6];rfl
 ·have hr:ziJ (ed p) i= !decide (ik p (cD p.Rules.Caps i).Station<0):=by
   unfold ziJ;rw [n3 i hi,Bool.eq_iff_iff,decide_eq_true_eq];simp only [Bool.not_eq_true',decide_eq_false_iff_not,zhH,Decidable.not_not,GCap.b]
  rw [hr]
  cases decide (ik p (cD p.Rules.Caps i).Station<0) <;> rfl
 ·have hr:ziI (ed p) i=(!decide (ik p (cD p.Rules.Loads i).To<0)&& !decide (ik p (cD p.Rules.Loads i).From<0)):=by
   unfold ziI;rw [n2 i hi,Bool.eq_iff_iff,decide_eq_true_eq];simp only [Bool.and_eq_true,Bool.not_eq_true',decide_eq_false_iff_not,zhH,Decidable.not_not,GLoad.b]
  rw [hr]
  cases decide (ik p (cD p.Rules.Loads i).To<0) <;> cases decide (ik p (cD p.Rules.Loads i).From<0) <;> rfl
 ·have hr:ziL (ed p) i=(!decide (ik p (cD p.Rules.Pairs i).A<0)&& !decide (ik p (cD p.Rules.Pairs i).B<0)):=by
   unfold ziL;rw [n1 i hi,Bool.eq_iff_iff,decide_eq_true_eq];simp only [Bool.and_eq_true,Bool.not_eq_true',decide_eq_false_iff_not,zhH,Decidable.not_not,GPair.b]
  rw [hr]
  cases decide (ik p (cD p.Rules.Pairs i).A<0) <;> cases decide (ik p (cD p.Rules.Pairs i).B<0) <;> rfl
 ·rw [zbU (n:=(cD p.Domains i).Channels.length) (z:=some false) (zhh (cD p.Domains i).Channels) (fun k nx hk=>?_)]
  ·have hr:ziW (ed p).ds i=(inB (cD p.Domains i).Station 0 511&&(!(decide (0<(i:Int))&&decide ((cD p.Domains i).Station≤(cD p.Domains (i - 1)).Station))&&(!decide (50<((cD p.Domains i).Channels.length:Int))&&(List.range (cD p.Domains i).Channels.length).all (zhh (cD p.Domains i).Channels)))):=by
    unfold ziW;rw [n0 i hi,n0 (i - 1) a6,Bool.eq_iff_iff,decide_eq_true_eq];simp only [Bool.and_eq_true,Bool.not_eq_true',Bool.and_eq_false_iff,decide_eq_false_iff_not,GDomain.b];constructor
    ·rintro ⟨⟨h1,h2,h3⟩,h4⟩;exact ⟨h1,by rcases Nat.eq_zero_or_pos i with h|h;exact .inl a6;exact .inr (by have:=h2 h;omega),by omega,h4⟩
    ·rintro ⟨h1,h2,h3,h4⟩;exact ⟨⟨h1,fun h=>by omega,by omega⟩,h4⟩
   rw [hr,zb9,zdk]
   cases inB (cD p.Domains i).Station 0 511
   ·rfl
   cases (decide (0<(i:Int))&&decide ((cD p.Domains i).Station≤(cD p.Domains (i - 1)).Station))
   rotate_left
   ·rfl
   cases decide (50<((cD p.Domains i).Channels.length:Int))
   rotate_left
   ·rfl
   rfl
  ·have hr:zhh (cD p.Domains i).Channels k=(!decide (cD (cD p.Domains i).Channels k<2)&&(!decide (51<cD (cD p.Domains i).Channels k)&& !(decide (0<(k:Int))&&decide (cD (cD p.Domains i).Channels k≤cD (cD p.Domains i).Channels (k - 1))))):=by
    unfold zhh;rw [Bool.eq_iff_iff,decide_eq_true_eq];simp only [Bool.and_eq_true,Bool.not_eq_true',Bool.and_eq_false_iff,decide_eq_false_iff_not];omega
   rw [hr,zb9]
   cases decide (cD (cD p.Domains i).Channels k<2)
   rotate_left
   ·rfl
   cases decide (51<cD (cD p.Domains i).Channels k)
   rotate_left
   ·rfl
   cases (decide (0<(k:Int))&&decide (cD (cD p.Domains i).Channels k≤cD (cD p.Domains i).Channels (k - 1))) <;> rfl
theorem zlK {p:GProblem}{a b:Int}{fuel:Nat}(hf:1000≤fuel):∃r,zb1 fuel p a b=some r:=by
 unfold zb1;simp only [dV];refine zeu (σ:=Int) (I:=fun i=>0≤i∧i≤600) (μ:=fun i=>(600 - i).toNat) (post:=fun o=>∃r,o=some r) ⟨by omega,by omega⟩ a6 ?_;intro i next hi hn;by_cases h1:i<(p.Domains.length:Int) <;> by_cases h2:i<600
 ·rw [decide_eq_true h1,decide_eq_true h2,Bool.and_true,cond_true,jg ⟨hi.1,h1⟩]
  cases decide (60<((cD p.Domains i.toNat).Channels.length:Int))
  ·exact hn _ ⟨by omega,by omega⟩ a6
  ·exact ⟨_,rfl⟩
 ·rw [decide_eq_false h2,Bool.and_false,cond_false];exact ⟨_,rfl⟩
 ·rw [decide_eq_false h1,Bool.false_and,cond_false];exact ⟨_,rfl⟩
 ·rw [decide_eq_false h1,Bool.false_and,cond_false];exact ⟨_,rfl⟩
theorem fY {s c:Int}{x:GDomain}{q:Int}:q∈(iP s c x).Channels↔q∈x.Channels∧(x.Station=s→q=c):=by
 unfold iP;dsimp only;by_cases hs:x.Station=s
 ·rw [decide_eq_true hs,cond_true]
  cases ha:x.Channels.any (fun k=>decide (k=c)) with
  |true=>
   rw [cond_true];obtain ⟨k,hk,he⟩:=List.any_eq_true.1 ha;have:=of_decide_eq_true he;subst this;simp only [List.mem_singleton];exact ⟨fun h=>by subst h;exact ⟨hk,fun _=>rfl⟩,fun h=>h.2 hs⟩
  |false=>
   rw [cond_false];refine ⟨(fun h=>by cases h),fun h=>?_⟩;have:=h.2 hs;subst this;have:=List.any_eq_false.1 ha q h.1;simp at this
 ·rw [decide_eq_false hs,cond_false];exact ⟨fun h=>⟨h,fun h2=>absurd h2 hs⟩,fun h=>h.1⟩
theorem zjN {s c:Int}{x:GDomain}:(iP s c x).Channels.Sublist x.Channels:=by
 unfold iP;dsimp only
 cases decide (x.Station=s)
 ·exact fK
 ·cases ha:x.Channels.any (fun k=>decide (k=c))
  ·exact List.nil_sublist _
  ·obtain ⟨k,hk,he⟩:=List.any_eq_true.1 ha;have:=of_decide_eq_true he;subst this;exact List.singleton_sublist.2 hk
section
variable {p:GProblem}{a b d:List GDomain}
theorem lJ {s c:Int}:SubD (d.map (iP s c)) d∧OrdD (d.map (iP s c)) d:=by
 refine ⟨⟨List.length_map _,fun i hi=>?_⟩,fun i hi=>?_⟩
 ·rw [jy hi];exact ⟨rfl,fun k hk=>(fY.1 hk).1⟩
 ·rw [jy hi];exact zjN
theorem zki {s c:Int}(h:SubD a b):SubD (a.map (iP s c)) (b.map (iP s c)):=by
 refine ⟨by rw [List.length_map,List.length_map,h.1],fun i hi=>?_⟩;rw [List.length_map] at hi;rw [jy hi,jy (by rw [h.1];exact hi)];have h2:=h.2 i hi;refine ⟨h2.1,fun k hk=>?_⟩;rw [fY] at hk ⊢;exact ⟨h2.2 k hk.1,fun e=>hk.2 (h2.1.trans e)⟩
theorem OrdD.trans {c:List GDomain}(h:OrdD a b)(k:OrdD b c)(hl:b.length=c.length):OrdD a c:=fun i hi=>(h i (by rw [hl];exact hi)).trans (k i hi)
theorem Bd.ord (hb:Bd b)(hl:a.length=b.length)(h:OrdD a b):Bd a:=by
 refine ⟨by rw [hl];exact hb.len,fun x hx=>?_⟩;obtain ⟨i,hi,rfl⟩:=jK hx; (have hi':i<b.length:=by rw [←hl];exact hi);have h2:=hb.ch _ (gQ hi');exact ⟨Nat.le_trans (h i hi').length_le h2.1,h2.2.sublist (h i hi')⟩
theorem PropD.eq {r r':List GDomain×Bool}(hb:Bd d)(h:PropD p d r)(h':PropD p d r'):r=r':=by
 rcases h with ⟨h1,h2,h3,h4⟩|⟨h1,h2⟩
 ·rcases h' with ⟨g1,g2,g3,g4⟩|⟨g1,g2⟩
  ·have e1:=h4 _ g2 g3.1;have e2:=g4 _ h2 h3.1
   have:r.1=r'.1:=by
    refine zfi (by rw [e2.1]) fun i hi=>?_; (have hi1:i<r'.1.length:=by rw [←e2.1];exact hi); (have hid:i<d.length:=by rw [←h3.1.1];exact hi);have a1:=e1.2 i hi;have a2:=e2.2 i hi1;have hch:(cD r.1 i).Channels=(cD r'.1 i).Channels:=zdc (h3.2 i hid) (g3.2 i hid) (hb.ch _ (gQ hid)).2 (fun x=>⟨a2.2 x,a1.2 x⟩)
    cases hx:cD r.1 i with
    |mk s1 c1=>
     cases hy:cD r'.1 i with
     |mk s2 c2=>
      have b1:=a2.1;rw [hx,hy] at b1 hch;simp only at b1 hch;rw [b1,hch]
   exact Prod.ext this (h1.trans g1.symm)
  ·exact absurd h3.1 (g2 _ h2)
 ·rcases h' with ⟨g1,g2,g3,g4⟩|⟨g1,g2⟩
  ·exact absurd g3.1 (h2 _ g2)
  ·rw [h1,g1]
theorem PropD.keep {m r:List GDomain×Bool}{s c:Int}(h:PropD p d m)(hm:m.2=true)(hr:PropD p (m.1.map (iP s c)) r):PropD p (d.map (iP s c)) r:=by
 rcases h with ⟨_,h2,h3,h4⟩|⟨h1,_⟩
 ·have hsup:∀S,ClosedD p S→SubD S (d.map (iP s c))→SubD S (m.1.map (iP s c)):=fun S hS hs=>by
   have h5:=h4 S hS (hs.trans lJ.1);refine ⟨by rw [List.length_map];exact h5.1,fun i hi=>?_⟩;rw [List.length_map] at hi; (have hid:i<d.length:=by rw [←h3.1.1];exact hi);rw [jy hi];have h6:=h5.2 i hi;refine ⟨h6.1,fun k hk=>fY.2 ⟨h6.2 k hk,fun e=>?_⟩⟩;have h7:=(hs.2 i (by rw [List.length_map];exact hid)).2 k hk;rw [jy hid] at h7;exact (fY.1 h7).2 (by rw [←(h3.1.2 i hid).1];exact e)
  rcases hr with ⟨g1,g2,g3,g4⟩|⟨g1,g2⟩
  ·refine .inl ⟨g1,g2,⟨g3.1.trans (zki h3.1),fun i hi=>?_⟩,fun S hS hs=>g4 S hS (hsup S hS hs)⟩;rw [List.length_map] at hi; (have hi':i<m.1.length:=by rw [h3.1.1];exact hi);have h8:=g3.2 i (by rw [List.length_map];exact hi');rw [jy hi'] at h8;rw [jy hi];refine h8.trans ?_;have hst:=(h3.1.2 i hi).1;have hsb:=h3.2 i hi;unfold iP;dsimp only;rw [hst]
   cases decide ((cD d i).Station=s)
   ·exact hsb
   ·cases ha:(cD m.1 i).Channels.any (fun k=>decide (k=c))
    ·exact List.nil_sublist _
    ·obtain ⟨k,hk,he⟩:=List.any_eq_true.1 ha;rw [List.any_eq_true.2 ⟨k,hsb.subset hk,he⟩];exact fK
  ·exact .inr ⟨g1,fun S hS hs=>g2 S hS (hsup S hS hs)⟩
 ·rw [h1] at hm;cases hm
theorem PropD.ord {m:List GDomain×Bool}(h:PropD p d m)(hm:m.2=true):m.1.length=d.length∧OrdD m.1 d:=by
 rcases h with ⟨_,_,h3,_⟩|⟨h1,_⟩
 ·exact ⟨h3.1.1,h3.2⟩
 ·rw [h1] at hm;cases hm
def zf6 (l:List GChoice)(i:Nat):Bool:=inB (cD l i).Station 0 511&&(inB (cD l i).Channel 2 51&& !(decide (0<(i:Int))&&decide ((cD l i).Station≤(cD l (i - 1)).Station)))
theorem zeL {l:List GChoice}:zaM l=(List.range l.length).all (zf6 l):=by
 unfold zaM;refine q3B ?_;rw [zec (zf6 l) (fun i next _=>?_),Bool.and_true];rw [zb9,zdk]
 have e:zf6 l i=(inB (cD l i).Station 0 511&&(!decide ((cD l i).Channel<2)&&(!decide (51<(cD l i).Channel)&& !(decide (0<(i:Int))&&decide ((cD l i).Station≤(cD l (i - 1)).Station))))):=by
  unfold zf6;rw [←Bool.and_assoc (!decide _)]
  congr 1
  congr 1
  unfold inB;by_cases h1:2≤(cD l i).Channel <;> by_cases h2:(cD l i).Channel≤51 <;> simp [h1,h2,Int.not_lt,Int.not_le] <;> omega
 rw [e]
 cases inB (cD l i).Station 0 511 <;> cases decide ((cD l i).Channel<2) <;> cases decide (51<(cD l i).Channel) <;> cases (decide (0<(i:Int))&&decide ((cD l i).Station≤(cD l (i - 1)).Station)) <;> rfl
end
structure GG (p:GProblem):Prop where
 n:p.Domains.length≤512
 st:∀x∈p.Domains,0≤x.Station∧x.Station≤511
 chs:∀x∈p.Domains,x.Channels.length≤52∧∀c∈x.Channels,2≤c∧c≤51
 inc:∀i j,i<j→j<p.Domains.length→(cD p.Domains i).Station<(cD p.Domains j).Station
 ps:∀x∈p.Rules.Pairs,(jS p x.A=true∧jS p x.B=true)∧(x.A<x.B∧ -1≤x.Offset∧x.Offset≤1)∧2≤x.Low∧x.Low≤x.High∧x.High≤51
 ls:∀x∈p.Rules.Loads,(jS p x.To=true∧jS p x.From=true)∧(x.To≠x.From∧1≤x.Weight∧x.Weight≤1073741824)∧2≤x.Low∧x.Low≤x.High∧x.High≤51
 cs:∀x∈p.Rules.Caps,jS p x.Station=true∧(0≤x.Max∧x.Max≤1099511627776)∧2≤x.Low∧x.Low≤x.High∧x.High≤51
 lls:p.Rules.Loads.length≤1024
 lps:p.Rules.Pairs.length≤4096
 lcs:p.Rules.Caps.length≤1024
theorem lC {p:GProblem}{s:Int}:jS p s=true↔∃x∈p.Domains,x.Station=s:=by
 unfold jS;rw [List.any_eq_true];simp only [decide_eq_true_eq]
theorem zmq {p:GProblem}(h:jG p=true):GG p:=by
 have hG:=Pb.good h;have hl:(ed p).ds.length=p.Domains.length:=List.length_map _;have hn:∀i,i<p.Domains.length→cD (ed p).ds i=(cD p.Domains i).b:=fun i hi=>jy hi
 have hs:∀ {s:Int},(∃i,i<(ed p).ds.length∧s=(cD (ed p).ds i).st)→jS p s=true:=fun ⟨i,hi,e⟩=>by
  rw [hl] at hi;rw [hn i hi] at e;exact lC.2 ⟨_,gQ hi,e.symm⟩
 refine ⟨by rw [←hl];exact hG.n,fun x hx=>hG.st x.b (List.mem_map.2 ⟨x,hx,rfl⟩),fun x hx=>hG.chs x.b (List.mem_map.2 ⟨x,hx,rfl⟩),fun i j hij hj=>?_,fun x hx=>?_,fun x hx=>?_,fun x hx=>?_,?_,?_,?_⟩
 ·have:=hG.inc i j hij (by rw [hl];exact hj);rw [hn i a6,hn j hj] at this;exact this
 ·obtain ⟨h1,h2,h3⟩:=hG.ps x.b (List.mem_map.2 ⟨x,hx,rfl⟩);simp only [Pr.ok,eC,inB,Bool.and_eq_true,decide_eq_true_eq] at h1;exact ⟨⟨hs h2,hs h3⟩,by show x.A<x.B∧_;exact ⟨h1.2.2.1,h1.2.2.2.1.1,h1.2.2.2.1.2⟩,h1.2.2.2.2.1,h1.2.2.2.2.2.1,h1.2.2.2.2.2.2⟩
 ·obtain ⟨h1,h2,h3⟩:=hG.ls x.b (List.mem_map.2 ⟨x,hx,rfl⟩);simp only [Ld.ok,eC,inB,Bool.and_eq_true,decide_eq_true_eq] at h1;exact ⟨⟨hs h2,hs h3⟩,⟨h1.2.2.1,h1.2.2.2.1.1,h1.2.2.2.1.2⟩,h1.2.2.2.2.1,h1.2.2.2.2.2.1,h1.2.2.2.2.2.2⟩
 ·obtain ⟨h1,h2⟩:=hG.cs x.b (List.mem_map.2 ⟨x,hx,rfl⟩);simp only [Cp.ok,eC,inB,Bool.and_eq_true,decide_eq_true_eq] at h1;exact ⟨hs h2,⟨h1.2.1.1,h1.2.1.2⟩,h1.2.2.1,h1.2.2.2.1,h1.2.2.2.2⟩
 ·have:=hG.lls;have e:(ed p).ls.length=p.Rules.Loads.length:=List.length_map _;omega
 ·have:=hG.lps;have e:(ed p).ps.length=p.Rules.Pairs.length:=List.length_map _;omega
 ·have:=hG.lcs;have e:(ed p).cs.length=p.Rules.Caps.length:=List.length_map _;omega
theorem zdV {σ ρ:Type}{f:Nat→(σ→ρ)→σ→ρ}{k:σ→ρ}{n:Nat}{s:σ}(q:Nat→Bool)(v:Nat→ρ)(hf:∀i next,i<n→f i next s=bif q i then v i else next s):dj f k n 0 s=match (List.range n).find? q with|some i=>v i|none=>k s:=by
 have key:∀m i,i+m=n→dj f k m i s=match (List.range' i m).find? q with|some i=>v i|none=>k s:=by
  intro m
  induction m with
  |zero=>intro i _;rfl
  |succ m ih=>
   intro i e
   show f i (dj f k m (i+1)) s=_
   rw [hf i _ a6,ih (i+1) a6,List.range'_succ,List.find?_cons]
   cases q i <;> rfl
 rw [key n 0 a6,List.range_eq_range']
def onP (l:List GChoice)(n:Int):Int:=match l.find? (fun c=>decide (c.Station=n)) with|some c=>c.Channel|none=>0
theorem ziH {α:Type}[Inhabited α]{l:List α}{q:α→Bool}:((List.range l.length).find? fun i=>q (cD l i)).map (cD l)=l.find? q:=by
 induction l with
 |nil=>rfl
 |cons x r ih=>
  rw [List.length_cons,List.range_succ_eq_map,List.find?_cons,List.find?_cons];have e:cD (x :: r) 0=x:=rfl;rw [e]
  cases q x with
  |true=>rfl
  |false=>
   show Option.map (cD (x :: r)) (List.find? (fun i=>q (cD (x :: r) i)) ((List.range r.length).map Nat.succ))=r.find? q
   rw [List.find?_map,Option.map_map,←ih]
   congr 1
theorem on_x {l:List GChoice}{n:Int}:lT l n=onP l n:=by
 unfold lT onP;refine q3B ?_;rw [zdV (fun i=>decide ((cD l i).Station=n)) (fun i=>(cD l i).Channel) (fun i next _=>rfl),←ziH (l:=l) (q:=fun c=>decide (c.Station=n))]
 cases (List.range l.length).find? fun i=>decide ((cD l i).Station=n) <;> rfl
structure ValidL (l:List GChoice):Prop where
 good:∀c∈l,0≤c.Station∧c.Station≤511∧2≤c.Channel∧c.Channel≤51
 inc:∀i j,i<j→j<l.length→(cD l i).Station<(cD l j).Station
theorem iu {l:List GChoice}:(List.range l.length).all (zf6 l)=true↔ValidL l:=by
 rw [List.all_eq_true];simp only [List.mem_range,zf6,inB,Bool.and_eq_true,decide_eq_true_eq,Bool.not_eq_true',Bool.and_eq_false_iff,decide_eq_false_iff_not];constructor
 ·intro h;refine ⟨fun c hc=>?_,fun i j hij hj=>?_⟩
  ·obtain ⟨i,hi,rfl⟩:=jK hc;have:=h i hi;omega
  ·have key:∀m,i+m+1<l.length→(cD l i).Station<(cD l (i+m+1)).Station:=by
    intro m
    induction m with
    |zero=>intro hm;have:=(h (i+1) hm).2.2;rw [show i+1 - 1=i by omega] at this;rw [Nat.add_zero];omega
    |succ m ih=>intro hm;have h1:=ih a6;have:=(h (i+(m+1)+1) hm).2.2;rw [show i+(m+1)+1 - 1=i+m+1 by omega] at this;omega
   have:=key (j - i - 1) a6
   rwa [show i+(j - i - 1)+1=j by omega] at this
 ·intro h i hi;have:=h.good _ (gQ hi);refine ⟨by omega,by omega,?_⟩;rcases Nat.eq_zero_or_pos i with h0|h0
  ·subst h0;left;omega
  ·right;have:=h.inc (i - 1) i a6 hi;omega
theorem ValidL.inj {l:List GChoice}(h:ValidL l){a b:GChoice}(ha:a∈l)(hb:b∈l)(e:a.Station=b.Station):a=b:=by
 obtain ⟨i,hi,rfl⟩:=jK ha;obtain ⟨j,hj,rfl⟩:=jK hb;rcases Nat.lt_trichotomy i j with h1|h1|h1
 ·have:=h.inc i j h1 hj;omega
 ·rw [h1]
 ·have:=h.inc j i h1 hi;omega
theorem zku {l:List GChoice}{n:Int}(h:∀c∈l,c.Station≠n):onP l n=0:=by
 unfold onP;rw [List.find?_eq_none.2 (fun c hc=>by simpa using h c hc)]
def orV (k:Int)(o:Option Nat)(r:GViolation):GViolation:=match o with
 |some i=>⟨k,(i:Int)⟩
 |none=>r
section
variable {p:GProblem}{f:Int→Int}
end
theorem zjO (n:Nat):zbj (n+100000)=some true:=by kernel_rfl
theorem zjY {fuel:Nat}(hf:100000≤fuel):zbj fuel=some true:=by
 obtain ⟨n,rfl⟩:∃n,fuel=n+100000:=⟨fuel - 100000,by omega⟩;exact zjO n
theorem zeN {l:List GChoice}:kT l=(List.range l.length).all (zf6 l):=by
 unfold kT;refine q3B ?_;rw [zec (zf6 l) (fun i next _=>?_),Bool.and_true];rw [zb9];unfold zf6
 show (bif !(inB (cD l i).Station 0 511)|| !(inB (cD l i).Channel 2 51) then false else _)=_
 cases inB (cD l i).Station 0 511 <;> cases inB (cD l i).Channel 2 51 <;> cases (decide (0<(i:Int))&&decide ((cD l i).Station≤(cD l (i - 1)).Station)) <;> rfl
theorem zfZ (s:List Int)(v:Int):lF s v=s.any fun x=>decide (x=v):=by
 have e:zaC s v=match (List.range s.length).find? (fun i=>decide (v=cD s i)) with|some i=>(i:Int)|none=> -1:=by
  unfold zaC;refine q3B ?_;rw [zdV (fun i=>decide (v=cD s i)) (fun i=>(i:Int)) (fun i next _=>rfl)]
  all_goals (cases (List.range s.length).find? fun i=>decide (v=cD s i) <;> rfl)
 unfold lF;rw [e,Bool.eq_iff_iff,List.any_eq_true]
 cases h:(List.range s.length).find? fun i=>decide (v=cD s i) with
 |none=>
  have h2:=List.find?_eq_none.1 h;constructor
  ·intro h3;exact absurd (of_decide_eq_true h3) a7
  ·rintro ⟨x,hx,h3⟩;obtain ⟨i,hi,rfl⟩:=jK hx;exact absurd (decide_eq_true (of_decide_eq_true h3).symm) (h2 i (List.mem_range.2 hi))
 |some i=>
  have h2:=List.find?_some h;have h3:=List.mem_range.1 (List.mem_of_find?_eq_some h);constructor
  ·intro _;exact ⟨cD s i,gQ h3,decide_eq_true (of_decide_eq_true h2).symm⟩
  ·intro _;exact decide_eq_true (show (0:Int)≤(i:Int) by omega)
def ef (l:List GDomain)(i:Int):Int:=((cD l i.toNat).Channels.length:Int)
def stB (l:List GDomain)(i:Nat)(b:Int):Int:=if b<0∨(1<ef l i∧(ef l b≤1∨ef l i<ef l b)) then (i:Int) else b
def stA (l:List GDomain)(i:Nat)(a:Int):Int:=if 1<ef l i∧(a<0∨ef l i<ef l a) then (i:Int) else a
def kE (l:List GDomain)(n:Nat):Int:=(List.range n).foldl (fun s i=>stB l i s) (-1)
def jN (l:List GDomain)(n:Nat):Int:=(List.range n).foldl (fun s i=>stA l i s) (-1)
theorem zk5 (l : List GDomain) : ∀ m, (jN l m = -1 ∧ (m = 0 ∧ kE l m = -1 ∨ 0 ≤ kE l m ∧ kE l m < m ∧ ef l (kE l m) ≤ 1)) ∨ (jN l m = kE l m ∧ 0 ≤ kE l m ∧ kE l m < m ∧ 1 < ef l (kE l m))
  | 0 => .inl ⟨rfl, .inl ⟨rfl, rfl⟩⟩
  | m + 1 => by
    have ih := zk5 l m; (have ea : jN l (m + 1) = stA l m (jN l m) := by unfold jN; rw [List.range_succ, List.foldl_append]; rfl); (have eb : kE l (m + 1) = stB l m (kE l m) := by unfold kE; rw [List.range_succ, List.foldl_append]; rfl); rw [ea, eb]; generalize jN l m = a at *; generalize kE l m = b at *; unfold stA stB; have e0 : ef l (m : Int) = ef l m := rfl; rcases ih with ⟨rfl, h⟩ | ⟨rfl, h1, h2, h3⟩
    · by_cases h1 : 1 < ef l m
      · rw [if_pos ⟨h1, .inl a7⟩]
        have : b < 0 ∨ (1 < ef l m ∧ (ef l b ≤ 1 ∨ ef l m < ef l b)) := by
          rcases h with ⟨_, rfl⟩ | ⟨_, _, h⟩
          · exact .inl a7
          · exact .inr ⟨h1, .inl h⟩
        rw [if_pos this]; exact .inr ⟨rfl, by omega, by omega, h1⟩
      · rw [if_neg (fun h => h1 h.1)];refine .inl ⟨rfl, .inr ?_⟩; rcases h with ⟨rfl, rfl⟩ | ⟨h2, h3, h4⟩
        · rw [if_pos (.inl a7)]; exact ⟨by omega, by omega, by omega⟩
        · rw [if_neg (by rintro (h | h); · omega
                         · exact h1 h.1)]
          exact ⟨h2, by omega, h4⟩
    · by_cases h4 : 1 < ef l m ∧ ef l m < ef l a
      · rw [if_pos ⟨h4.1, .inr h4.2⟩, if_pos (.inr ⟨h4.1, .inr h4.2⟩)]; exact .inr ⟨rfl, by omega, by omega, h4.1⟩
      · rw [if_neg (by rintro ⟨h5, h6 | h6⟩; · omega
                       · exact h4 ⟨h5, h6⟩), if_neg (by rintro (h5 | ⟨h5, h6 | h6⟩); · omega
                                                        · omega
                                                        · exact h4 ⟨h5, h6⟩)]
        exact .inr ⟨rfl, h1, by omega, h3⟩
theorem zll (l : List GDomain) : zar l = some (kE l l.length) := by
  unfold zar;simp only [dV, Nat.sub_zero]; refine (zcx (fun (i : Nat) (s : Int) => -1 ≤ s ∧ s < (i : Int)) (fun (i : Nat) (s : Int) => stB l i s) ⟨by decide, by decide⟩ (fun i s hi hs => ?_) (fun i next s hi hs => ?_)).1
  · unfold stB; split <;> omega
  · unfold stB; by_cases h : s < 0
    · rw [decide_eq_true h, cond_true, cond_true, if_pos (.inl h)]
    · rw [decide_eq_false h, cond_false, jg ⟨by omega, by omega⟩]
      have e : zaT (cD l i) (cD l s.toNat) = decide (1 < ef l i ∧ (ef l s ≤ 1 ∨ ef l i < ef l s)) := by
        unfold zaT ef; by_cases h1 : 1 < ((cD l i).Channels.length : Int) <;> by_cases h2 : ((cD l s.toNat).Channels.length : Int) ≤ 1 <;> by_cases h3 : ((cD l i).Channels.length : Int) < ((cD l s.toNat).Channels.length : Int) <;> simp [h1, h2, h3, dV]
      rw [e]; by_cases h4 : 1 < ef l i ∧ (ef l s ≤ 1 ∨ ef l i < ef l s)
      · rw [decide_eq_true h4, cond_true, if_pos (.inr h4)]
      · rw [decide_eq_false h4, cond_false, if_neg (by rintro (h5 | h5); · exact h h5
                                                       · exact h4 h5)]
theorem zlN {l : List GDomain} {hints : List GChoice} (hok : jG ⟨l, ⟨[], [], []⟩⟩ = true) (hv : ValidL hints) :
    (∃ c, zaW l hints = some (c, true) ∧ kX l hints = some (c, 0)) ∨ (zaW l hints = some (⟨0, 0⟩, false) ∧ kX l hints = some (⟨0, 0⟩, 9)) := by
  have hg := zmq hok
  have hp : kT hints = true := by
    rw [zeN]; exact iu.2 hv
  have hinv := zk5 l l.length
  have hR : zaW l hints = (bif decide (jN l l.length < 0) then some ((GChoice.mk 0 0), false) else
      eP (0 ≤ jN l l.length ∧ jN l l.length < (l.length : Int)) <|
      (bif !(zbF ((cD l (jN l l.length).toNat).Channels) (lT hints ((cD l (jN l l.length).toNat).Station))) then
        eP (0 ≤ 0 ∧ 0 < (((cD l (jN l l.length).toNat).Channels).length : Int)) <|
        some ((GChoice.mk ((cD l (jN l l.length).toNat).Station) (cD ((cD l (jN l l.length).toNat).Channels) 0)), true)
        else
        some ((GChoice.mk ((cD l (jN l l.length).toNat).Station) (lT hints ((cD l (jN l l.length).toNat).Station))), true))) := by
    unfold zaW;simp only [dV, Nat.sub_zero]; refine (zcx (fun (i : Nat) (s : Int) => -1 ≤ s ∧ s < (i : Int)) (fun (i : Nat) (s : Int) => stA l i s) ⟨by decide, by decide⟩ (fun i s hi hs => ?_) (fun i next s hi hs => ?_)).1
    · unfold stA; split <;> omega
    · unfold stA; by_cases h1 : 1 < ef l i
      · have h1' : 1 < ((cD l i).Channels.length : Int) := h1; rw [decide_eq_true h1', cond_true]; by_cases h : s < 0
        · rw [decide_eq_true h, cond_true, cond_true, if_pos ⟨h1, .inl h⟩]
        · rw [decide_eq_false h, cond_false, jg ⟨by omega, by omega⟩]; by_cases h2 : ef l i < ef l s
          · have h2' : ((cD l i).Channels.length : Int) < ((cD l s.toNat).Channels.length : Int) := h2; rw [decide_eq_true h2', cond_true, if_pos ⟨h1, .inr h2⟩]
          · have h2' : ¬ ((cD l i).Channels.length : Int) < ((cD l s.toNat).Channels.length : Int) := h2
            rw [decide_eq_false h2', cond_false, if_neg (by rintro ⟨_, h3 | h3⟩; · exact h h3
                                                            · exact h2 h3)]
      · have h1' : ¬ 1 < ((cD l i).Channels.length : Int) := h1; rw [decide_eq_false h1', cond_false, cond_false, if_neg (fun h => h1 h.1)]
  rw [hR]; unfold kX; rw [hok, hp, zll, Bool.not_true, Bool.or_false, cond_false, Option.bind_some];simp only [dV, Nat.sub_zero]; generalize jN l l.length = a at *; generalize kE l l.length = b at *; rcases hinv with ⟨rfl, h⟩ | ⟨rfl, h1, h2, h3⟩
  · right;refine ⟨rfl, ?_⟩; rcases h with ⟨_, rfl⟩ | ⟨h1, h2, h3⟩
    · rfl
    · have h3' : ((cD l b.toNat).Channels.length : Int) ≤ 1 := h3; rw [decide_eq_false a6, cond_false, jg ⟨h1, h2⟩, decide_eq_true h3']; rfl
  · left; (have h3' : ¬ ((cD l a.toNat).Channels.length : Int) ≤ 1 := by have : 1 < ((cD l a.toNat).Channels.length : Int) := h3; omega); (have h4 : 0 < ((cD l a.toNat).Channels.length : Int) := by omega); have g1 : 0 ≤ a ∧ a < (l.length : Int) := ⟨h1, h2⟩; have hd : cD l a.toNat ∈ l := gQ a6; have hch := (hg.chs (cD l a.toNat) hd).2; rw [decide_eq_false (show ¬ a < 0 by omega), cond_false, cond_false, jg ⟨h1, h2⟩, decide_eq_false h3', cond_false, jg ⟨by omega, h4⟩, on_x, zmf]; generalize cD l a.toNat = d at *; rw [zdV (fun i => (decide ((cD hints i).Station = d.Station) && lF d.Channels (cD hints i).Channel)) (fun i => some (cD hints i, 0)) (fun i next _ => rfl)]; by_cases hex : ∃ h ∈ hints, h.Station = d.Station
    · obtain ⟨h, hh, hst⟩ := hex
      have hon : onP hints d.Station = h.Channel := by
        unfold onP
        cases hf : hints.find? (fun c => decide (c.Station = d.Station)) with
        | none => exact absurd (decide_eq_true hst) (List.find?_eq_none.1 hf h hh)
        | some c =>
          have e0 := List.find?_some hf; have e1 := of_decide_eq_true e0; rw [hv.inj (List.mem_of_find?_eq_some hf) hh a6]
      rw [hon]
      cases hc : d.Channels.any fun k => decide (k = h.Channel) with
      | true =>
        cases hf : (List.range hints.length).find? fun i => (decide ((cD hints i).Station = d.Station) && lF d.Channels (cD hints i).Channel) with
        | none =>
          obtain ⟨i, hi, rfl⟩ := jK hh; have := List.find?_eq_none.1 hf i (List.mem_range.2 hi); rw [decide_eq_true hst, zfZ, hc] at this; exact absurd rfl this
        | some i =>
          have e1 := List.find?_some hf; have hi := List.mem_range.1 (List.mem_of_find?_eq_some hf); rw [Bool.and_eq_true, decide_eq_true_eq] at e1; have e2 : cD hints i = h := hv.inj (gQ hi) hh a6;refine ⟨⟨d.Station, h.Channel⟩, rfl, ?_⟩
          repeat rw [jg g1]
          rw [jg ⟨by omega, h4⟩]
          show some (cD hints i, (0 : Int)) = _
          rw [e2, ← hst]
      | false =>
        have hf : ((List.range hints.length).find? fun i => (decide ((cD hints i).Station = d.Station) && lF d.Channels (cD hints i).Channel)) = none := by
          refine List.find?_eq_none.2 fun i hi => ?_; rw [Bool.and_eq_true, decide_eq_true_eq]; rintro ⟨e1, e2⟩; have e3 : cD hints i = h := hv.inj (gQ (List.mem_range.1 hi)) hh a6; rw [zfZ, e3, hc] at e2; cases e2
        rw [hf];refine ⟨_, rfl, ?_⟩
        repeat rw [jg g1]
        rw [jg ⟨by omega, h4⟩]
    · have hon : onP hints d.Station = 0 := zku fun c hc e => hex ⟨c, hc, e⟩
      have hno : (d.Channels.any fun k => decide (k = 0)) = false := by
        rw [Bool.eq_false_iff]; intro h5; obtain ⟨k, hk, h6⟩ := List.any_eq_true.1 h5; have := hch k hk; have := of_decide_eq_true h6; omega
      have hf : ((List.range hints.length).find? fun i => (decide ((cD hints i).Station = d.Station) && lF d.Channels (cD hints i).Channel)) = none := by
        refine List.find?_eq_none.2 fun i hi => ?_; rw [Bool.and_eq_true, decide_eq_true_eq]; rintro ⟨e1, _⟩; exact hex ⟨_, gQ (List.mem_range.1 hi), e1⟩
      rw [hon, hno, hf];refine ⟨_, rfl, ?_⟩
      repeat rw [jg g1]
      rw [jg ⟨by omega, h4⟩]
theorem zfe {fuel:Nat}(hf:100000≤fuel)(l:List GDomain)(hints:List GChoice):zbf fuel l hints=some true:=by
 have hk:=zjY hf;unfold zbf;obtain ⟨r,hr⟩:=zlK (p:=GProblem.mk l (GRules.mk [] [] [])) (a:=20) (b:=0) (fuel:=fuel) a6;rw [hr,Option.bind_some]
 cases h1:(!r)||decide (20<(hints.length:Int)) with
 |true=>rw [cond_true,hk];rfl
 |false=>
  rw [cond_false,zlA]
  cases hok:jG (GProblem.mk l (GRules.mk [] [] [])) with
  |false=>
   (have e:kX l hints=some ((GChoice.mk 0 0),2):=by unfold kX;rw [hok];rfl);rw [e,Option.bind_some,Option.bind_some]
   show dV _ _=_
   simp only [dV];rw [hk];rfl
  |true=>
   cases hv:zaM hints with
   |false=>
    (have hp:kT hints=false:=by rw [zeN,←zeL];exact hv); (have e:kX l hints=some ((GChoice.mk 0 0),2):=by unfold kX;rw [hok,hp];rfl);rw [e,Option.bind_some,Option.bind_some]
    show dV _ _=_
    simp only [dV];rw [hk];rfl
   |true=>
    have hvl:ValidL hints:=iu.1 (by rw [←zeL];exact hv);rcases zlN hok hvl with ⟨c,e1,e2⟩|⟨e1,e2⟩
    ·rw [e2,Option.bind_some,Option.bind_some]
     show (zaW l hints).bind _=_
     rw [e1,Option.bind_some]
     show dV _ _=_
     simp only [dV,decide_true,cond_true,Bool.and_self];rw [hk];rfl
    ·rw [e2,Option.bind_some,Option.bind_some]
     show (zaW l hints).bind _=_
     rw [e1,Option.bind_some]
     show dV _ _=_
     simp only [dV];rw [hk];rfl
end Go.Proofs.YtgoeeefoinkepaaGreatDoor
namespace Go.Proofs.YtgoeeefoinkepaaGreatDoor
open Go.RowKit Go.ChangeShapes Go.WideShapes Go.Deep
def Opens {H:Type}(enc:TypeId×Value→H)(w:World)(base:Nat)(spare:Nat→Bool)(held:Bool)(t:TypeId){α:Type}(R:List Value→α→Prop):Prop:=
 ∀fuel cs y,DataW.trod enc Tryz.prog w base spare held fuel t cs=some y→∃x,R cs x
section
variable {H:Type}{enc:TypeId×Value→H}{w:World}{base:Nat}{spare:Nat→Bool}{held:Bool}
theorem Opens.int {t:TypeId}(ht:Tryz.prog.underlying t=some (.int .i64)):Opens enc w base spare held t (fun cs (x:Int)=>cs=[.int .i64 x]):=fun fuel cs y h=>by
 obtain ⟨k,hk,_⟩:=DataW.trod_int ht h;exact ⟨k,hk⟩
theorem zlG {a:Addr}{v:Value}(h:w.cell? a=some v):Cb w a.block:=by
 unfold World.cell? at h
 split at h
 all_goals (first|exact ⟨_,_,_,by assumption⟩|simp at h|skip)
theorem Opens.any {t e : TypeId} {k : Nat} {α : Type} [Inhabited α] {R : List Value → α → Prop} (ht : Tryz.prog.underlying t = some (.slice e)) (hk : Tryz.prog.cellsOf e = k) (hpos : 0 < k) (ho : Opens enc w base spare held e R) :
    Opens enc w base spare held t (fun cs (l : List α) => ∃ v c, cs = [v] ∧ SlC (Frz.all w) v k c ∧ c.length = l.length ∧ ∀ i, i < l.length → R (cD c i) (cD l i)) := fun fuel cs y h => by
  rcases open_slice ht h with ⟨h0, _⟩ | ⟨a, len, cap, m, n, D, Pl, hcs, hb, hl, hm, hmm, _, hx⟩
  · exact ⟨[], _, [], h0, SlC.nil _ _, rfl, fun i hi => absurd hi (Nat.not_lt_zero i)⟩
  · subst hcs; (have hlm : len ≤ m := by rw [hmm]; split <;> omega)
    have each : ∀ i, i < m → ∃ x : List Value × α, x.1.length = k ∧ R x.1 x.2 ∧ ∀ j, j < k → w.cell? (a.add (i * k + j)) = x.1[j]? := fun i hi => by
      obtain ⟨cs', h1, h2⟩ := hx i hi; rw [hk] at h1; obtain ⟨_, hlen, hcell⟩ := World.cells?_some h1; obtain ⟨x, hR⟩ := ho _ _ _ h2; exact ⟨(cs', x), hlen, hR, fun j hj => by rw [← hcell j hj, add_add]⟩
    obtain ⟨X, hX⟩ := choose_lt each
    have hn : ∀ i, i < len → cD ((List.range len).map fun i => (X i).1) i = (X i).1 := fun i hi => by
      rw [d9 (by simpa using hi)]; simp
    have hn2 : ∀ i, i < len → cD ((List.range len).map fun i => (X i).2) i = (X i).2 := fun i hi => by
      rw [d9 (by simpa using hi)]; simp
    refine ⟨(List.range len).map fun i => (X i).2, _, (List.range len).map fun i => (X i).1, rfl, ⟨some a, cap, by simp, by simpa using hl, by unfold maxLen at hm; omega, fun c hc => ?_, fun hp => ?_⟩, by simp, fun i hi => ?_⟩
    · simp at hc; obtain ⟨i, hi, rfl⟩ := hc; exact (hX i a6).1
    · (have hp' : 0 < len := by simpa using hp); have c0 := (hX 0 a6).2.2 0 hpos; have hx0 := (hX 0 a6).1; rw [List.getElem?_eq_getElem a6] at c0; have hcb := zlG c0; have hs := World.cell?_spot c0; simp [Addr.add] at hs hcb; obtain ⟨b, off, sp⟩ := a; simp at hs hcb; subst hs; refine ⟨b, off, rfl, hcb, fun i hi j hj => ?_⟩; simp at hi; rw [hn i hi] at hj ⊢; have hxi := hX i a6; have := hxi.2.2 j a6;refine Eq.trans ?_ this
      show w.cell? _ = _
      rw [kU, Nat.add_assoc]
    · simp at hi; rw [hn i hi, hn2 i hi]; exact (hX i a6).2.1
theorem i6 {t e : TypeId} {k : Nat} {α : Type} [Inhabited α] {en : α → List Value} (ht : Tryz.prog.underlying t = some (.slice e)) (hk : Tryz.prog.cellsOf e = k) (hpos : 0 < k) (ho : Opens enc w base spare held e (fun cs (x : α) => cs = en x)) :
    Opens enc w base spare held t (fun cs (l : List α) => ∃ v, cs = [v] ∧ SlC (Frz.all w) v k (l.map en)) := fun fuel cs y h => by
  obtain ⟨l, v, c, h1, h2, h3, h4⟩ := Opens.any ht hk hpos ho _ _ _ h;refine ⟨l, v, h1, ?_⟩
  have : c = l.map en := by
    apply List.ext_getElem (by simpa using h3); intro i hi hi2; rw [← d9 hi, h4 i a6, List.getElem_map, d9 a6]
  rw [← this]; exact h2
theorem Opens.bytes {t e : TypeId} (ht : Tryz.prog.underlying t = some (.slice e)) (he : Tryz.prog.underlying e = some (.int .u8)) (hk : Tryz.prog.cellsOf e = 1) :
    Opens enc w base spare held t (fun cs (l : List Int) => ∃ v, cs = [v] ∧ SlC (Frz.all w) v 1 (l.map (eK .u8)) ∧ ∀ x ∈ l, 0 ≤ x ∧ x ≤ 255) := fun fuel cs y h => by
  have ho : Opens enc w base spare held e (fun cs (x : Int) => cs = eK .u8 x ∧ (0 ≤ x ∧ x ≤ 255)) := fun fuel cs y h => by
    obtain ⟨k, h1, _, h2⟩ := DataW.trod_int he h;refine ⟨k, h1, ?_⟩; (have e1 : IntKind.u8.min = 0 := by decide); (have e2 : IntKind.u8.max = 255 := by decide); simp only [Lit.wf, e1, e2, Bool.and_eq_true, decide_eq_true_eq] at h2; exact h2
  obtain ⟨l, v, c, h1, h2, h3, h4⟩ := Opens.any ht hk a7 ho _ _ _ h; refine ⟨l, v, h1, ?_, fun x hx => ?_⟩
  · have : c = l.map (eK .u8) := by
      apply List.ext_getElem (by simpa using h3); intro i hi hi2; rw [← d9 hi, (h4 i a6).1, List.getElem_map, d9 a6]
    rw [← this]; exact h2
  · obtain ⟨i, hi, e⟩ := List.mem_iff_getElem.1 hx; have := (h4 i hi).2; rw [d9 hi, e] at this; exact this
theorem kM {t e : TypeId} {k : Nat} {α : Type} [Inhabited α] {rep : Frz → List Value → α → Prop} (ht : Tryz.prog.underlying t = some (.slice e)) (hk : Tryz.prog.cellsOf e = k) (hpos : 0 < k) (ho : Opens enc w base spare held e (rep (Frz.all w))) :
    Opens enc w base spare held t (fun cs (l : List α) => ∃ v c, cs = [v] ∧ SlD rep (Frz.all w) v k c l) := fun fuel cs y h => by
  obtain ⟨l, v, c, h1, h2, h3, h4⟩ := Opens.any ht hk hpos ho _ _ _ h; exact ⟨l, v, c, h1, h2, h3, h4⟩
end
end Go.Proofs.YtgoeeefoinkepaaGreatDoor
