/- Yz Wd Y2 Wf Of: shortened and put together by squeeze.py. -/
import Derived.Test.YtogbggmckmnlfaaGreatDoorQ14
import Derived.Deep.Slices
import Derived.ChangeArms
set_option maxRecDepth 100000
set_option maxHeartbeats 4000000
set_option linter.unusedVariables false
set_option linter.unusedSectionVars false
set_option linter.unusedSimpArgs false
namespace Go.Proofs.YtogbggmckmnlfaaGreatDoor
open Go.RowKit
def ld (a:Int)(b:Int):GPair:=
 (GPair.mk a b 0 14 51)
theorem zeK (F0:Frz)(w:World)(hF0:F0.At w)(a:Int)(b:Int):Calls Tryz.prog 71 #[.int .i64 a, .int .i64 b] w fun e w'=>e= .returned (.agg [.int .i64 ((ld a b).A), .int .i64 ((ld a b).B), .int .i64 ((ld a b).Offset), .int .i64 ((ld a b).Low), .int .i64 ((ld a b).High)].toArray)∧Below w.heap.size w w':=by
 obtain ⟨r,hk⟩:∃r,ld a b=r:=⟨_,rfl⟩;rw [hk];unfold ld at hk;obtain ⟨S0,F1,rfl,hS0,hp0⟩:=ey hF0;refine dt Tryz.func71 rfl rfl rfl hp0 ?_;refine dh ?_;refine fX ?_;rintro _ _ ⟨g4,rfl,rfl⟩;refine dX ?_;refine d8 ?_;refine lk ?_;refine j8 ?_;refine fW ?_;subst hk;exact kP 0 rfl rfl rfl rfl (fun w' hw=>⟨rfl,hw.isBelow⟩)
def l4  : GProblem :=
 (GProblem.mk [(GDomain.mk 1 [14,15]),(GDomain.mk 2 [14,15]),(GDomain.mk 3 [14,15]),(GDomain.mk 4 [14])] (GRules.mk [(ld 1 2),(ld 1 3),(ld 2 3)] [] []))
theorem zc7 (F0 : Frz)(w : World)(hF0 : F0.At w)  : Calls Tryz.prog 33 #[] w fun e w' => ∃ (y : Value × List (List Value) × Value × Value × Value) (G : Frz), (SlD cK G y.1 2 y.2.1 ((l4).Domains) ∧ SlC G y.2.2.1 5 (((l4).Rules.Pairs).map cO) ∧ SlC G y.2.2.2.1 5 (((l4).Rules.Loads).map cP) ∧ SlC G y.2.2.2.2 4 (((l4).Rules.Caps).map cR)) ∧ e = .returned (.agg [y.1, y.2.2.1, y.2.2.2.1, y.2.2.2.2].toArray) ∧ Fx F0 w G w' := by
 obtain ⟨r,hk⟩:∃r,l4=r:=⟨_,rfl⟩;rw [hk];unfold l4 at hk;obtain ⟨S0,F1,rfl,hS0,hp0⟩:=ey hF0;refine dt Tryz.func33 rfl rfl rfl hp0 ?_;refine dh ?_;refine fX ?_;rintro _ _ ⟨g0,rfl,rfl⟩;refine dX ?_;refine jG ?_;rintro _ _ ⟨g2,rfl,rfl⟩;refine j9 ?_;refine mm (fun w hw=>hw.freezeR (i:=2) (j:=0) a6 rfl rfl) ?_;rintro F2 ⟨le1_2,hz2⟩;refine it ?_;have hf2:SlC F2.toFrz (.slice (some ⟨g2,0,none⟩) 2 2) 1 ([14,15].map eI):=(SlK.lit hz2 rfl (Nat.le_refl _) a6).toF (xs:=[14,15]) rfl (fun _=>rfl);refine gM ?_;refine lk ?_;refine di ?_;refine lk ?_;refine di ?_;refine lk ?_;refine jG ?_;rintro _ _ ⟨g9,rfl,rfl⟩;refine j6 (fun w hw=>hw.freezeR (i:=2) (j:=0) a6 rfl rfl) ?_;rintro F3 ⟨le2_3,hz3⟩;refine it ?_;have le1_3:=le1_2.trans le2_3;have hf3:SlC F3.toFrz (.slice (some ⟨g9,0,none⟩) 1 1) 1 ([14].map eI):=(SlK.lit hz3 rfl (Nat.le_refl _) a6).toF (xs:=[14]) rfl (fun _=>rfl);refine lk ?_;refine jG ?_;rintro _ _ ⟨g11,rfl,rfl⟩;have hl11:OwnD cK F3.toFrz 2 [[.int .i64 1,(.slice (some ⟨g2,0,none⟩) 2 2)],[.int .i64 2,(.slice (some ⟨g2,0,none⟩) 2 2)],[.int .i64 3,(.slice (some ⟨g2,0,none⟩) 2 2)],[.int .i64 4,(.slice (some ⟨g9,0,none⟩) 1 1)]] [(GDomain.mk 1 [14,15]),(GDomain.mk 2 [14,15]),(GDomain.mk 3 [14,15]),(GDomain.mk 4 [14])]:=(c9 (c9 (c9 (c9 (OwnD.nil _ _ 2) ⟨_,rfl,(SlC.mono hf2 le2_3)⟩) ⟨_,rfl,(SlC.mono hf2 le2_3)⟩) ⟨_,rfl,(SlC.mono hf2 le2_3)⟩) ⟨_,rfl,hf3⟩);refine cU (cM rfl rfl rfl (fun w hw=>zeK _ w (hw.fr (i:=2) rfl) 1 2)) ?_;refine fD ?_;refine cU (cM rfl rfl rfl (fun w hw=>zeK _ w (hw.fr (i:=2) rfl) 1 3)) ?_;refine fD ?_;refine cU (cM rfl rfl rfl (fun w hw=>zeK _ w (hw.fr (i:=2) rfl) 2 3)) ?_;refine fD ?_;refine jG ?_;rintro _ _ ⟨g15,rfl,rfl⟩;refine lk ?_;refine lk ?_;refine q4f ?_;refine fW ?_;refine iQ (fun w hw=>hw.freezeR (i:=3) (j:=1) a6 rfl rfl) ?_;rintro F4 ⟨le3_4,hz4⟩;refine it ?_;have le1_4:=le1_3.trans le3_4;have hf4:SlD cK F4.toFrz (.slice (some ⟨g11,0,none⟩) 4 4) 2 [[.int .i64 1,(.slice (some ⟨g2,0,none⟩) 2 2)],[.int .i64 2,(.slice (some ⟨g2,0,none⟩) 2 2)],[.int .i64 3,(.slice (some ⟨g2,0,none⟩) 2 2)],[.int .i64 4,(.slice (some ⟨g9,0,none⟩) 1 1)]] [(GDomain.mk 1 [14,15]),(GDomain.mk 2 [14,15]),(GDomain.mk 3 [14,15]),(GDomain.mk 4 [14])]:=(SlK.lit hz4 rfl (Nat.le_refl _) a6).toD (OwnD.mono (rep:=cK) (fun _ _ _ _=>GDomain.mono) hl11 le3_4) rfl;refine q3I ?_;rintro F5 ⟨le4_5,hz5⟩;refine it ?_;have le1_5:=le1_4.trans le4_5;have hf5:SlC F5.toFrz (.slice (some ⟨g15,0,none⟩) 3 3) 5 ([(ld 1 2),(ld 1 3),(ld 2 3)].map cO):=(SlK.lit hz5 rfl (Nat.le_refl _) a6).toF (xs:=[(ld 1 2),(ld 1 3),(ld 2 3)]) rfl GPair.len;subst hk;exact kP 0 rfl rfl rfl rfl (fun w' hw=>⟨((.slice (some ⟨g11,0,none⟩) 4 4),[[.int .i64 1,(.slice (some ⟨g2,0,none⟩) 2 2)],[.int .i64 2,(.slice (some ⟨g2,0,none⟩) 2 2)],[.int .i64 3,(.slice (some ⟨g2,0,none⟩) 2 2)],[.int .i64 4,(.slice (some ⟨g9,0,none⟩) 1 1)]],(.slice (some ⟨g15,0,none⟩) 3 3),(.slice none 0 0),(.slice none 0 0)),F5.toFrz,⟨(SlD.mono (rep:=cK) (fun _ _ _ _=>GDomain.mono) hf4 le4_5),hf5,(SlC.nil _ 5),(SlC.nil _ 4)⟩,rfl,eJ hw (i:=1) rfl hS0 le1_5⟩)
def zbj (stations:List Int)(lemmas:Int):Option GProof:=
 dH (fun (s3:List Int×List (List GChoice))=>
  ej (dl (s3.2++[[]]).length 24) <|
  some (GProof.mk s3.1 (s3.2++[[]])))
 (fun k3=>
  ej (lemmas≤9223372036854775807) <|
  c6 (fun (i_7:Nat) (next6:(List Int×List (List GChoice))→Option GProof) (s6:List Int×List (List GChoice))=>
   ej (dl (s6.2++[[(GChoice.mk (i_7:Int) 14)]]).length 24) <|
   next6 (s6.1,(s6.2++[[(GChoice.mk (i_7:Int) 14)]])))
  (fun (s6:List Int×List (List GChoice))=>
   k3 (s6.1,s6.2)) (lemmas.toNat - 1) 1 (stations,[]))
theorem zbQ (F0:Frz)(w:World)(hF0:F0.At w)(stations:List Int)(vstations:Value)(hstations:SlC F0 vstations 1 (stations.map eI))(lemmas:Int)(r:GProof)(hr:zbj stations lemmas=some r):Calls Tryz.prog 34 #[vstations, .int .i64 lemmas] w fun e w'=>∃(y:Value×Value×List (List Value)) (G:Frz),(SlC G y.1 1 (r.Stations.map eI)∧SlD cI G y.2.1 1 y.2.2 r.Lemmas)∧e= .returned (.agg [y.1,y.2.1].toArray)∧Fx F0 w G w':=by
 have hk:=hr;unfold zbj at hk;haveI:=hstations.oneC;obtain ⟨S0,F1,rfl,hS0,hp0⟩:=ey hF0;refine dt Tryz.func34 rfl rfl rfl hp0 ?_;refine dh ?_;refine fX ?_;rintro _ _ ⟨g4,rfl,rfl⟩;refine m7 ?_;refine lk ?_;refine fX ?_;rintro _ _ ⟨g5,rfl,rfl⟩;refine TL.slNil 50 1 ?_;refine q2f ?_;refine TL.slNil 50 1 ?_;refine mc ?_;have hq:=d7 hk;clear hk;obtain ⟨k3,hk3,hk⟩:=hq; (try dsimp only at hk);refine cZ (ι:=List Int×Value×List (List GChoice)×Value×List (List Value)×FzB w (fun _=>False) S0) (fun z=>[(4, .pointer (some ⟨g4,0,none⟩)),(5, .pointer (some ⟨g5,0,none⟩))]) (fun z=>[.sl z.2.2.2.1 50 1 z.2.2.1.length z.2.2.2.2.1.flatten, .row g5 33 [z.2.1,z.2.2.2.1], .row g4 33 [(.slice none 0 0),(.slice none 0 0)], .fr z.2.2.2.2.2]) (fun z=>k3 (z.1,z.2.2.1)=some r∧SlC z.2.2.2.2.2.toFrz z.2.1 1 (z.1.map eI)∧OwnD cI z.2.2.2.2.2.toFrz 1 z.2.2.2.2.1 z.2.2.1∧OneC z.2.2.2.1∧F1.toFrz.Le z.2.2.2.2.2.toFrz) ?_ ?_
 ·have hq:(lemmas≤9223372036854775807)∧_:=fu hk;clear hk;obtain ⟨gl6,hk⟩:=hq; (try dsimp only at hk);have hq:=eS hk;clear hk;obtain ⟨f6,kk6,hf6,hkk6,hk⟩:=hq;refine eA ?_;refine T.pick [0,2,3,4] rfl a6 ?_;refine T.loop (ι:=Nat×List Int×Value×List (List GChoice)×Value×List (List Value)×FzB w (fun _=>False) S0) (fun z=>[(1, .int .i64 lemmas),(4, .pointer (some ⟨g4,0,none⟩)),(5, .pointer (some ⟨g5,0,none⟩)),(6, .int .i64 (z.1:Int))]) (fun z=>[.sl z.2.2.2.2.1 50 1 z.2.2.2.1.length z.2.2.2.2.2.1.flatten, .row g5 33 [z.2.2.1,z.2.2.2.2.1], .row g4 33 [(.slice none 0 0),(.slice none 0 0)], .fr z.2.2.2.2.2.2]) (fun z=>c6 f6 kk6 (lemmas.toNat - z.1) z.1 (z.2.1,z.2.2.2.1)=some r∧SlC z.2.2.2.2.2.2.toFrz z.2.2.1 1 (z.2.1.map eI)∧OwnD cI z.2.2.2.2.2.2.toFrz 1 z.2.2.2.2.2.1 z.2.2.2.1∧OneC z.2.2.2.2.1∧F1.toFrz.Le z.2.2.2.2.2.2.toFrz) (fun z=>lemmas.toNat - z.1) (1,stations,vstations,[],(.slice none 0 0),[],F1) ?_ ?_ ?_ ?_
  ·exact ⟨hk,hstations,(OwnD.nil _ _ 1),inferInstance,(Frz.Le.refl _)⟩
  ·exact nA
  ·exact eh
  ·rintro ⟨i_7,c_4,vc_4,c_5,vc_5,cc_5,F3⟩ ⟨hk,hc_4,hc_5,oc_5,le1_3⟩; (try dsimp only at *);haveI:=hc_4.oneC;refine T.seq (dh ?_);refine eB ?_;refine db ?_;refine T.cond rfl (fun h8=>?_) (fun h8=>?_)
   ·have p8:=of_decide_eq_true h8;rw [eQ a5] at hk;generalize hn6:c6 f6 kk6 (lemmas.toNat - (i_7+1)) (i_7+1)=next6 at hk;rw [←hf6] at hk; (try dsimp only at hk);refine T.skip (K.seq (T.seq (T.block ?_)));have hq:(dl (c_5++[[(GChoice.mk (i_7:Int) 14)]]).length 24)∧_:=fu hk;clear hk;obtain ⟨g20,hk⟩:=hq; (try dsimp only at hk);refine fP ?_;refine la ?_;refine di ?_;refine lk ?_;refine jG ?_;rintro _ _ ⟨g18,rfl,rfl⟩;refine j6 (fun w hw=>hw.freezeR (i:=4) (j:=0) a6 rfl rfl) ?_;rintro F4 ⟨le3_4,hz4⟩;refine it ?_;have le1_4:=le1_3.trans le3_4;have hf4:SlC F4.toFrz (.slice (some ⟨g18,0,none⟩) 1 1) 2 ([(GChoice.mk (i_7:Int) 14)].map cV):=(SlK.lit hz4 rfl (Nat.le_refl _) a6).toF (xs:=[(GChoice.mk (i_7:Int) 14)]) rfl GChoice.len;refine jG ?_;rintro _ _ ⟨g19,rfl,rfl⟩;have hl19:OwnD cI F4.toFrz 1 [[(.slice (some ⟨g18,0,none⟩) 1 1)]] [[(GChoice.mk (i_7:Int) 14)]]:=(c9 (OwnD.nil _ _ 1) ⟨_,rfl,hf4⟩);refine cU (ff 1 0 rfl rfl rfl rfl rfl rfl (kd (ys:=[[(GChoice.mk (i_7:Int) 14)]])) (zbB (cs:=cc_5) (ds:=[[(.slice (some ⟨g18,0,none⟩) 1 1)]])) g20 a6) ?_;rintro v20 _ ⟨hv20,rfl⟩;have ho20:OwnD cI F4.toFrz 1 (cc_5++[[(.slice (some ⟨g18,0,none⟩) 1 1)]]) (c_5++[[(GChoice.mk (i_7:Int) 14)]]):=(c9 (OwnD.mono (rep:=cI) (fun _ _ _ _=>R_List_GChoice.mono) hc_5 le3_4) ⟨_,rfl,hf4⟩);refine fc ?_;refine eY (eo 2 rfl rfl rfl rfl a9) ?_;refine fD ?_;refine q4o ?_;rw [←hn6] at hk;refine q3N ?_;exact K.next ((i_7+1),c_4,vc_4,(c_5++[[(GChoice.mk (i_7:Int) 14)]]),v20,(cc_5++[[(.slice (some ⟨g18,0,none⟩) 1 1)]]),F4) ⟨hk,(SlC.mono hc_4 le3_4),ho20,inferInstance,le1_4⟩ a8 (.c (.c (.c (.c .nil)))) (List.Sublist.refl _)
   ·have p8:=of_decide_eq_false h8;rw [eO a5,←hkk6] at hk; (try dsimp only at hk);refine eC ?_;exact q5U
 ·rintro ⟨c_1,vc_1,c_2,vc_2,cc_2,F2⟩ ⟨hk,hc_1,hc_2,oc_2,le1_2⟩; (try dsimp only at *);rw [←hk3] at hk; (try dsimp only at hk);haveI:=hc_1.oneC;refine T.seq ?_;have hq:(dl (c_2++[[]]).length 24)∧_:=fu hk;clear hk;obtain ⟨g25,hk⟩:=hq; (try dsimp only at hk);refine fP ?_;refine la ?_;refine jG ?_;rintro _ _ ⟨g24,rfl,rfl⟩;have hl24:OwnD cI F2.toFrz 1 [[(.slice none 0 0)]] [[]]:=(c9 (OwnD.nil _ _ 1) ⟨_,rfl,(SlC.nil _ 2)⟩);refine cU (ff 1 0 rfl rfl rfl rfl rfl rfl (kd (ys:=[[]])) (zbB (cs:=cc_2) (ds:=[[(.slice none 0 0)]])) g25 a6) ?_;rintro v25 _ ⟨hv25,rfl⟩;have ho25:OwnD cI F2.toFrz 1 (cc_2++[[(.slice none 0 0)]]) (c_2++[[]]):=(c9 hc_2 ⟨_,rfl,(SlC.nil _ 2)⟩);refine fc ?_;refine eY (eo 2 rfl rfl rfl rfl a9) ?_;refine fD ?_;refine dX ?_;refine cL (dO 2) ?_;refine eY (dI 3) ?_;refine fD ?_;refine fW ?_;refine iQ (fun w hw=>hw.freezeS (i:=4) (j:=1) a6 rfl rfl) ?_;rintro F5 ⟨le2_5,hz5⟩;refine it ?_;have le1_5:=le1_2.trans le2_5;have hf5:=hz5.toD (OwnD.mono (rep:=cI) (fun _ _ _ _=>R_List_GChoice.mono) ho25 le2_5) rfl;haveI:=hf5.1.oneC;obtain rfl:=Option.some.inj hk;exact kP 2 rfl rfl rfl rfl (fun w' hw=>⟨(vc_1,v25,(cc_2++[[(.slice none 0 0)]])),F5.toFrz,⟨(SlC.mono hc_1 le2_5),hf5⟩,rfl,eJ hw (i:=3) rfl hS0 le1_5⟩)
def zct (fuel:Nat)(x_:GProof)(want:Int)(e_:Int):Option Bool:=
 (zdn fuel (l4) x_).bind fun r12=>
 some ((decide (r12.1=want))&&(decide (r12.2=e_)))
theorem zdp (F0:Frz)(w:World)(hF0:F0.At w)(x_:GProof)(vx__0:Value)(hx__0:SlC F0 vx__0 1 (x_.Stations.map eI))(vx__1:Value)(cx__1:List (List Value))(hx__1:SlD cI F0 vx__1 1 cx__1 x_.Lemmas)(want:Int)(e_:Int)(htab:Tab w)(fuel:Nat)(hfu:100000≤fuel)(r:Bool)(hr:zct fuel x_ want e_=some r):Calls Tryz.prog 35 #[.agg [vx__0,vx__1].toArray, .int .i64 want, .int .i64 e_] w fun e w'=>e= .returned (.bool r)∧Below w.heap.size w w':=by
 have hk:=hr;unfold zct at hk;haveI:=hx__0.oneC;haveI:=hx__1.1.oneC;obtain ⟨S0,F1,rfl,hS0,hp0⟩:=ey hF0;have hM0:¬(fun _:Nat=>False) 0:=fun h=>h;have htk:∀ {hs:HS} {w':World},Hp w (fun _=>False) hs w'→Tab w':=fun hw=>htab.keptF hw;refine dt Tryz.func35 rfl rfl rfl hp0 ?_;refine gp ?_;rintro _ _ ⟨g3,rfl,rfl⟩;refine j9 ?_;have hq:=d5 hk;clear hk;obtain ⟨r12,hr12,hk⟩:=hq; (try dsimp only at hk);refine dD (.still 1 (.eff 0 (.eff 2 (sN 3 4 (.still 7 .done))))) _ a7 (List.Sublist.refl _) ?_;refine jL ?_;refine dy ?_;refine cW rfl (Wt.none) rfl rfl (dR 1 rfl rfl rfl rfl (fun w hw hF=>zc7 _ w hF )) ?_;rintro _ _ ⟨⟨v10_0_0,cs10_0_0,v10_0_1,v10_0_2,v10_0_3⟩,F2,le1_2,⟨hf10_0_0,hf10_0_1,hf10_0_2,hf10_0_3⟩,rfl,rfl⟩;dsimp only at hf10_0_0 hf10_0_1 hf10_0_2 hf10_0_3 ⊢;haveI:=hf10_0_0.1.oneC;haveI:=hf10_0_1.oneC;haveI:=hf10_0_2.oneC;haveI:=hf10_0_3.oneC;refine ⟨(fun w hw=>(hw.frLe (i:=1) rfl le1_2).sub Sx),?_⟩;refine dy ?_;refine cW rfl (Wt.none) rfl rfl (cM rfl rfl rfl (fun w hw=>zfF _ w (hw.fr (i:=1) rfl) (l4) v10_0_0 cs10_0_0 hf10_0_0 v10_0_1 hf10_0_1 v10_0_2 hf10_0_2 v10_0_3 hf10_0_3 x_ vx__0 (SlC.mono hx__0 le1_2) vx__1 cx__1 (SlD.mono (rep:=cI) (fun _ _ _ _=>R_List_GChoice.mono) hx__1 le1_2) (htab.keptF hw) fuel hfu r12 hr12)) ?_;refine fD ?_;refine ⟨(fun w hw=>(hw.frLe (i:=1) rfl le1_2).sub Sx),?_⟩;refine TS.run 5 rfl ?_;refine gh ?_;refine K.seq (T.seq ?_);refine cZ (ι:=Unit) (fun z=>[(6, .bool ((decide (r12.1=want))&&(decide (r12.2=e_))))]) (fun z=>[.row g3 33 [vx__0,vx__1], .fr F2]) (fun z=>True) ?_ ?_
 ·refine fP ?_;refine TL.run 4 rfl ?_;refine dn rfl rfl rfl (fun h1=>?_) (fun h1=>?_)
  ·have p1:=of_decide_eq_true h1;refine lg ?_;exact q41
  ·have p1:=of_decide_eq_false h1;refine lg ?_;exact q42
 ·refine m9 ?_;obtain rfl:=Option.some.inj hk;exact dW
def zcq (fuel : Nat)  : Option Bool :=
 (zbj [1,2,3] 3).bind fun r9=>
 (zdq fuel (l4) r9).bind fun r10=>
 dH (fun (x_1:Bool)=>
  (bif x_1 then
   some false
   else
   (zbj [1,2] 3).bind fun r32=>
   (zct fuel r32 0 0).bind fun r33=>
   dH (fun (x_7:Bool)=>
    (bif x_7 then
     some false
     else
     (zbj [1,2,3] 3).bind fun r44=>
     (zcD fuel (l4) r44).bind fun r45=>
     (zdQ fuel r45.1).bind fun r50=>
     dH (fun (x_11:Bool)=>
      some x_11)
     (fun k12=>
      (bif decide (r45.2=0) then
       (bif decide (r50.2=0) then
        (zbj [1,2,3] 2).bind fun r62=>
        (bif (zb3 r45.1 r62) then
         k12 ((u8s r50.1) == ([3,1,2,3,2,1,1,14,0]:List UInt8))
         else
         k12 false)
        else
        k12 false)
       else
       k12 false))))
   (fun k8=>
    (bif !r33 then
     k8 true
     else
     (zbj [1,2,3,5] 3).bind fun r37=>
     (zct fuel r37 0 9).bind fun r38=>
     k8 (!r38)))))
 (fun k2=>
  (bif decide (¬r10=0) then
   k2 true
   else
   (zbj [1,2,3] 3).bind fun r14=>
   (zct fuel r14 3 0).bind fun r15=>
   (bif !r15 then
    k2 true
    else
    (zbj [1,2,3] 1).bind fun r20=>
    (zct fuel r20 0 0).bind fun r21=>
    (bif !r21 then
     k2 true
     else
     (zbj [1,2,3] 1).bind fun r27=>
     (zdq fuel (l4) r27).bind fun r28=>
     k2 (decide (¬r28=10))))))
theorem zfn (F0 : Frz)(w : World)(hF0 : F0.At w)  (htab : Tab w)(fuel : Nat)(hfu : 100000 ≤ fuel)(r : Bool)(hr : zcq fuel = some r) : Calls Tryz.prog 10 #[] w fun e w' => e = .returned (.bool r) ∧ Below w.heap.size w w' := by
 have hk:=hr;unfold zcq at hk;obtain ⟨S0,F1,rfl,hS0,hp0⟩:=ey hF0;have hM0:¬(fun _:Nat=>False) 0:=fun h=>h;have htk:∀ {hs:HS} {w':World},Hp w (fun _=>False) hs w'→Tab w':=fun hw=>htab.keptF hw;refine dt Tryz.func10 rfl rfl rfl hp0 ?_;refine mE ?_;refine jG ?_;rintro _ _ ⟨g6,rfl,rfl⟩;refine mJ ?_;refine mm (fun w hw=>hw.freezeR (i:=1) (j:=0) a6 rfl rfl) ?_;rintro F2 ⟨le1_2,hz2⟩;refine it ?_;have hf2:SlC F2.toFrz (.slice (some ⟨g6,0,none⟩) 3 3) 1 ([1,2,3].map eI):=(SlK.lit hz2 rfl (Nat.le_refl _) a6).toF (xs:=[1,2,3]) rfl (fun _=>rfl);have hq:=d5 hk;clear hk;obtain ⟨r9,hr9,hk⟩:=hq;have hq:=d5 hk;clear hk;obtain ⟨r10,hr10,hk⟩:=hq; (try dsimp only at hk);have hq:=d7 hk;clear hk;obtain ⟨k2,hk2,hk⟩:=hq; (try dsimp only at hk);refine cZ (ι:=Bool×FzB w (fun _=>False) S0) (fun z=>[(1,(.slice (some ⟨g6,0,none⟩) 3 3)),(30, .bool z.1)]) (fun z=>[.fr z.2]) (fun z=>k2 z.1=some r∧F2.toFrz.Le z.2.toFrz) ?_ ?_
 ·refine fP ?_;refine cU (dR 0 rfl rfl rfl rfl (fun w hw hF=>zc7 _ w hF )) ?_;rintro _ _ ⟨⟨v7_0_0,cs7_0_0,v7_0_1,v7_0_2,v7_0_3⟩,F4,le2_4,⟨hf7_0_0,hf7_0_1,hf7_0_2,hf7_0_3⟩,rfl,rfl⟩;dsimp only at hf7_0_0 hf7_0_1 hf7_0_2 hf7_0_3 ⊢;haveI:=hf7_0_0.1.oneC;haveI:=hf7_0_1.oneC;haveI:=hf7_0_2.oneC;haveI:=hf7_0_3.oneC;refine di ?_;refine cU (dR 0 rfl rfl rfl rfl (fun w hw hF=>zbQ _ w hF [1,2,3] (.slice (some ⟨g6,0,none⟩) 3 3) (SlC.mono hf2 le2_4) 3 r9 hr9)) ?_;rintro _ _ ⟨⟨v9_0_0,v9_0_1,cs9_0_1⟩,F5,le4_5,⟨hf9_0_0,hf9_0_1⟩,rfl,rfl⟩;dsimp only at hf9_0_0 hf9_0_1 ⊢;have le2_5:=le2_4.trans le4_5;haveI:=hf9_0_0.oneC;haveI:=hf9_0_1.1.oneC;refine cU (cM rfl rfl rfl (fun w hw=>zfh _ w (hw.fr (i:=0) rfl) (l4) v7_0_0 cs7_0_0 (SlD.mono (rep:=cK) (fun _ _ _ _=>GDomain.mono) hf7_0_0 le4_5) v7_0_1 (SlC.mono hf7_0_1 le4_5) v7_0_2 (SlC.mono hf7_0_2 le4_5) v7_0_3 (SlC.mono hf7_0_3 le4_5) r9 v9_0_0 hf9_0_0 v9_0_1 cs9_0_1 hf9_0_1 (htab.keptF hw) fuel hfu r10 hr10)) ?_;refine kx ?_;refine dn rfl rfl rfl (fun h3=>?_) (fun h3=>?_)
  ·have p3:=of_decide_eq_true h3;replace hk:=dr hk h3;refine TL.run 18 rfl ?_;refine eW ?_;exact cS (true,F5) ⟨hk,le2_5⟩ (.c (.c .nil)) (List.Sublist.refl _)
  ·have p3:=of_decide_eq_false h3;replace hk:=dq hk h3;refine di ?_;have hq:=d5 hk;clear hk;obtain ⟨r14,hr14,hk⟩:=hq;refine cU (dR 0 rfl rfl rfl rfl (fun w hw hF=>zbQ _ w hF [1,2,3] (.slice (some ⟨g6,0,none⟩) 3 3) (SlC.mono hf2 le2_5) 3 r14 hr14)) ?_;rintro _ _ ⟨⟨v14_0_0,v14_0_1,cs14_0_1⟩,F6,le5_6,⟨hf14_0_0,hf14_0_1⟩,rfl,rfl⟩;dsimp only at hf14_0_0 hf14_0_1 ⊢;have le2_6:=le2_5.trans le5_6;haveI:=hf14_0_0.oneC;haveI:=hf14_0_1.1.oneC;have hq:=d5 hk;clear hk;obtain ⟨r15,hr15,hk⟩:=hq;refine cU (cM rfl rfl rfl (fun w hw=>zdp _ w (hw.fr (i:=0) rfl) r14 v14_0_0 hf14_0_0 v14_0_1 cs14_0_1 hf14_0_1 3 0 (htab.keptF hw) fuel hfu r15 hr15)) ?_;refine fD ?_;refine eB ?_;refine dn rfl rfl rfl (fun h4=>?_) (fun h4=>?_)
   ·replace hk:=dr hk h4;refine TL.run 12 rfl ?_;refine eW ?_;exact cS (true,F6) ⟨hk,le2_6⟩ (.c (.c .nil)) (List.Sublist.refl _)
   ·replace hk:=dq hk h4;refine di ?_;have hq:=d5 hk;clear hk;obtain ⟨r20,hr20,hk⟩:=hq;refine cU (dR 0 rfl rfl rfl rfl (fun w hw hF=>zbQ _ w hF [1,2,3] (.slice (some ⟨g6,0,none⟩) 3 3) (SlC.mono hf2 le2_6) 1 r20 hr20)) ?_;rintro _ _ ⟨⟨v20_0_0,v20_0_1,cs20_0_1⟩,F7,le6_7,⟨hf20_0_0,hf20_0_1⟩,rfl,rfl⟩;dsimp only at hf20_0_0 hf20_0_1 ⊢;have le2_7:=le2_6.trans le6_7;haveI:=hf20_0_0.oneC;haveI:=hf20_0_1.1.oneC;have hq:=d5 hk;clear hk;obtain ⟨r21,hr21,hk⟩:=hq;refine cU (cM rfl rfl rfl (fun w hw=>zdp _ w (hw.fr (i:=0) rfl) r20 v20_0_0 hf20_0_0 v20_0_1 cs20_0_1 hf20_0_1 0 0 (htab.keptF hw) fuel hfu r21 hr21)) ?_;refine fD ?_;refine eB ?_;refine dn rfl rfl rfl (fun h5=>?_) (fun h5=>?_)
    ·replace hk:=dr hk h5;refine TL.run 6 rfl ?_;refine eW ?_;exact cS (true,F7) ⟨hk,le2_7⟩ (.c (.c .nil)) (List.Sublist.refl _)
    ·replace hk:=dq hk h5;refine cU (dR 0 rfl rfl rfl rfl (fun w hw hF=>zc7 _ w hF )) ?_;rintro _ _ ⟨⟨v25_0_0,cs25_0_0,v25_0_1,v25_0_2,v25_0_3⟩,F8,le7_8,⟨hf25_0_0,hf25_0_1,hf25_0_2,hf25_0_3⟩,rfl,rfl⟩;dsimp only at hf25_0_0 hf25_0_1 hf25_0_2 hf25_0_3 ⊢;have le2_8:=le2_7.trans le7_8;haveI:=hf25_0_0.1.oneC;haveI:=hf25_0_1.oneC;haveI:=hf25_0_2.oneC;haveI:=hf25_0_3.oneC;refine di ?_;have hq:=d5 hk;clear hk;obtain ⟨r27,hr27,hk⟩:=hq;refine cU (dR 0 rfl rfl rfl rfl (fun w hw hF=>zbQ _ w hF [1,2,3] (.slice (some ⟨g6,0,none⟩) 3 3) (SlC.mono hf2 le2_8) 1 r27 hr27)) ?_;rintro _ _ ⟨⟨v27_0_0,v27_0_1,cs27_0_1⟩,F9,le8_9,⟨hf27_0_0,hf27_0_1⟩,rfl,rfl⟩;dsimp only at hf27_0_0 hf27_0_1 ⊢;have le2_9:=le2_8.trans le8_9;haveI:=hf27_0_0.oneC;haveI:=hf27_0_1.1.oneC;have hq:=d5 hk;clear hk;obtain ⟨r28,hr28,hk⟩:=hq;refine cU (cM rfl rfl rfl (fun w hw=>zfh _ w (hw.fr (i:=0) rfl) (l4) v25_0_0 cs25_0_0 (SlD.mono (rep:=cK) (fun _ _ _ _=>GDomain.mono) hf25_0_0 le8_9) v25_0_1 (SlC.mono hf25_0_1 le8_9) v25_0_2 (SlC.mono hf25_0_2 le8_9) v25_0_3 (SlC.mono hf25_0_3 le8_9) r27 v27_0_0 hf27_0_0 v27_0_1 cs27_0_1 hf27_0_1 (htab.keptF hw) fuel hfu r28 hr28)) ?_;refine lc ?_;exact cS (decide (¬r28=10),F9) ⟨hk,le2_9⟩ (.c (.c .nil)) (List.Sublist.refl _)
 ·rintro ⟨x_1,F3⟩ ⟨hk,le2_3⟩; (try dsimp only at *);rw [←hk2] at hk; (try dsimp only at hk);refine T.cond rfl (fun h6=>?_) (fun h6=>?_)
  ·replace hk:=dr hk h6;refine iw ?_;obtain rfl:=Option.some.inj hk;exact dW
  ·replace hk:=dq hk h6;refine q4y ?_;have hq:=d5 hk;clear hk;obtain ⟨r32,hr32,hk⟩:=hq;have hq:=d5 hk;clear hk;obtain ⟨r33,hr33,hk⟩:=hq; (try dsimp only at hk);have hq:=d7 hk;clear hk;obtain ⟨k8,hk8,hk⟩:=hq; (try dsimp only at hk);refine cZ (ι:=Bool×FzB w (fun _=>False) S0) (fun z=>[(1,(.slice (some ⟨g6,0,none⟩) 3 3)),(40, .bool z.1)]) (fun z=>[.fr z.2]) (fun z=>k8 z.1=some r∧F3.toFrz.Le z.2.toFrz) ?_ ?_
   ·refine fP ?_;refine jG ?_;rintro _ _ ⟨g31,rfl,rfl⟩;refine j6 (fun w hw=>hw.freezeR (i:=1) (j:=0) a6 rfl rfl) ?_;rintro F11 ⟨le3_11,hz11⟩;refine it ?_;have hf11:SlC F11.toFrz (.slice (some ⟨g31,0,none⟩) 2 2) 1 ([1,2].map eI):=(SlK.lit hz11 rfl (Nat.le_refl _) a6).toF (xs:=[1,2]) rfl (fun _=>rfl);refine cU (dR 0 rfl rfl rfl rfl (fun w hw hF=>zbQ _ w hF [1,2] (.slice (some ⟨g31,0,none⟩) 2 2) hf11 3 r32 hr32)) ?_;rintro _ _ ⟨⟨v32_0_0,v32_0_1,cs32_0_1⟩,F12,le11_12,⟨hf32_0_0,hf32_0_1⟩,rfl,rfl⟩;dsimp only at hf32_0_0 hf32_0_1 ⊢;have le3_12:=le3_11.trans le11_12;haveI:=hf32_0_0.oneC;haveI:=hf32_0_1.1.oneC;refine cU (cM rfl rfl rfl (fun w hw=>zdp _ w (hw.fr (i:=0) rfl) r32 v32_0_0 hf32_0_0 v32_0_1 cs32_0_1 hf32_0_1 0 0 (htab.keptF hw) fuel hfu r33 hr33)) ?_;refine kx ?_;refine dn rfl rfl rfl (fun h9=>?_) (fun h9=>?_)
    ·replace hk:=dr hk h9;refine lg ?_;exact cS (true,F12) ⟨hk,le3_12⟩ (.c (.c .nil)) (List.Sublist.refl _)
    ·replace hk:=dq hk h9;refine jG ?_;rintro _ _ ⟨g36,rfl,rfl⟩;refine j6 (fun w hw=>hw.freezeR (i:=1) (j:=0) a6 rfl rfl) ?_;rintro F13 ⟨le12_13,hz13⟩;refine it ?_;have le3_13:=le3_12.trans le12_13;have hf13:SlC F13.toFrz (.slice (some ⟨g36,0,none⟩) 4 4) 1 ([1,2,3,5].map eI):=(SlK.lit hz13 rfl (Nat.le_refl _) a6).toF (xs:=[1,2,3,5]) rfl (fun _=>rfl);have hq:=d5 hk;clear hk;obtain ⟨r37,hr37,hk⟩:=hq;refine cU (dR 0 rfl rfl rfl rfl (fun w hw hF=>zbQ _ w hF [1,2,3,5] (.slice (some ⟨g36,0,none⟩) 4 4) hf13 3 r37 hr37)) ?_;rintro _ _ ⟨⟨v37_0_0,v37_0_1,cs37_0_1⟩,F14,le13_14,⟨hf37_0_0,hf37_0_1⟩,rfl,rfl⟩;dsimp only at hf37_0_0 hf37_0_1 ⊢;have le3_14:=le3_13.trans le13_14;haveI:=hf37_0_0.oneC;haveI:=hf37_0_1.1.oneC;have hq:=d5 hk;clear hk;obtain ⟨r38,hr38,hk⟩:=hq;refine cU (cM rfl rfl rfl (fun w hw=>zdp _ w (hw.fr (i:=0) rfl) r37 v37_0_0 hf37_0_0 v37_0_1 cs37_0_1 hf37_0_1 0 9 (htab.keptF hw) fuel hfu r38 hr38)) ?_;refine lc ?_;exact cS (!r38,F14) ⟨hk,le3_14⟩ (.c (.c .nil)) (List.Sublist.refl _)
   ·rintro ⟨x_7,F10⟩ ⟨hk,le3_10⟩; (try dsimp only at *);rw [←hk8] at hk; (try dsimp only at hk);have le2_10:=le2_3.trans le3_10;refine T.cond rfl (fun h10=>?_) (fun h10=>?_)
    ·replace hk:=dr hk h10;refine iw ?_;obtain rfl:=Option.some.inj hk;exact dW
    ·replace hk:=dq hk h10;refine jh ?_;have hq:=d5 hk;clear hk;obtain ⟨r44,hr44,hk⟩:=hq;have hq:=d5 hk;clear hk;obtain ⟨r45,hr45,hk⟩:=hq; (try dsimp only at hk);refine fP ?_;refine cU (dR 0 rfl rfl rfl rfl (fun w hw hF=>zc7 _ w hF )) ?_;rintro _ _ ⟨⟨v42_0_0,cs42_0_0,v42_0_1,v42_0_2,v42_0_3⟩,F15,le10_15,⟨hf42_0_0,hf42_0_1,hf42_0_2,hf42_0_3⟩,rfl,rfl⟩;dsimp only at hf42_0_0 hf42_0_1 hf42_0_2 hf42_0_3 ⊢;have le2_15:=le2_10.trans le10_15;haveI:=hf42_0_0.1.oneC;haveI:=hf42_0_1.oneC;haveI:=hf42_0_2.oneC;haveI:=hf42_0_3.oneC;refine di ?_;refine cU (dR 0 rfl rfl rfl rfl (fun w hw hF=>zbQ _ w hF [1,2,3] (.slice (some ⟨g6,0,none⟩) 3 3) (SlC.mono hf2 le2_15) 3 r44 hr44)) ?_;rintro _ _ ⟨⟨v44_0_0,v44_0_1,cs44_0_1⟩,F16,le15_16,⟨hf44_0_0,hf44_0_1⟩,rfl,rfl⟩;dsimp only at hf44_0_0 hf44_0_1 ⊢;have le2_16:=le2_15.trans le15_16;haveI:=hf44_0_0.oneC;haveI:=hf44_0_1.1.oneC;refine cU (dR 0 rfl rfl rfl rfl (fun w hw hF=>zgd _ w hF (l4) v42_0_0 cs42_0_0 (SlD.mono (rep:=cK) (fun _ _ _ _=>GDomain.mono) hf42_0_0 le15_16) v42_0_1 (SlC.mono hf42_0_1 le15_16) v42_0_2 (SlC.mono hf42_0_2 le15_16) v42_0_3 (SlC.mono hf42_0_3 le15_16) r44 v44_0_0 hf44_0_0 v44_0_1 cs44_0_1 hf44_0_1 (htab.keptF hw) fuel hfu r45 hr45)) ?_;rintro _ _ ⟨⟨v45_0_0,v45_0_1,cs45_0_1⟩,F17,le16_17,⟨hf45_0_0,hf45_0_1⟩,rfl,rfl⟩;dsimp only at hf45_0_0 hf45_0_1 ⊢;have le2_17:=le2_16.trans le16_17;haveI:=hf45_0_0.oneC;haveI:=hf45_0_1.1.oneC;refine eB ?_;refine fX ?_;rintro _ _ ⟨g2,rfl,rfl⟩;refine j8 ?_;refine j9 ?_;have hq:=d5 hk;clear hk;obtain ⟨r50,hr50,hk⟩:=hq; (try dsimp only at hk);refine mH ?_;refine cU (fo [1,0] [] [.row g2 33 [v45_0_0,v45_0_1]] rfl rfl rfl rfl a6 (fun w hw hw2 hF=>zhl _ w hF r45.1 v45_0_0 hf45_0_0 v45_0_1 cs45_0_1 hf45_0_1 fuel r50 hr50)) ?_;rintro _ _ ⟨v50_0_0, -,rfl,rfl⟩;refine fI ?_;refine fT 0 rfl ?_;intro iv50_0_0 hmv50_0_0;refine TL.run 5 rfl ?_;refine q4j ?_;rintro F18 ⟨le17_18,hz18⟩;refine it ?_;have le2_18:=le2_17.trans le17_18;have hf18:=hz18.toF rfl (fun _=>rfl);haveI:=hf18.oneC; (try dsimp only at hk);have hq:=d7 hk;clear hk;obtain ⟨k12,hk12,hk⟩:=hq; (try dsimp only at hk);refine cZ (ι:=Bool×FzB w (fun _=>False) S0) (fun z=>[(0, .bool z.1)]) (fun z=>[.fr z.2]) (fun z=>k12 z.1=some r∧F18.toFrz.Le z.2.toFrz) ?_ ?_
     ·refine dD (sN 0 9 (.eff 9 (.eff 10 (sN 11 6 (.still 17 .done))))) _ a7 (List.Sublist.refl _) ?_;refine gb ?_;refine dB rfl rfl rfl rfl (fun h13=>?_) (fun h13=>?_)
      ·have p13:=of_decide_eq_true h13;replace hk:=dr hk h13;refine TS.run 4 rfl ?_;refine dB rfl rfl rfl rfl (fun h14=>?_) (fun h14=>?_)
       ·have p14:=of_decide_eq_true h14;replace hk:=dr hk h14;refine cQ rfl (dO 1) ?_;refine fK ?_;refine dy ?_;have hq:=d5 hk;clear hk;obtain ⟨r62,hr62,hk⟩:=hq;refine cW rfl (Wt.some) rfl rfl (dR 0 rfl rfl rfl rfl (fun w hw hF=>zbQ _ w hF [1,2,3] (.slice (some ⟨g6,0,none⟩) 3 3) (SlC.mono hf2 le2_18) 2 r62 hr62)) ?_;rintro _ _ ⟨⟨v62_0_0,v62_0_1,cs62_0_1⟩,F20,le18_20,⟨hf62_0_0,hf62_0_1⟩,rfl,rfl⟩;dsimp only at hf62_0_0 hf62_0_1 ⊢;have le17_20:=le17_18.trans le18_20;haveI:=hf62_0_0.oneC;haveI:=hf62_0_1.1.oneC;refine ⟨(fun w hw=>(hw.frLe (i:=0) rfl le18_20).sub Sx),?_⟩;refine dy ?_;refine cW rfl (Wt.some) rfl rfl (cM rfl rfl rfl (fun w hw=>zex _ w (hw.fr (i:=0) rfl) r45.1 v45_0_0 (SlC.mono hf45_0_0 le17_20) v45_0_1 cs45_0_1 (SlD.mono (rep:=cI) (fun _ _ _ _=>R_List_GChoice.mono) hf45_0_1 le17_20) r62 v62_0_0 hf62_0_0 v62_0_1 cs62_0_1 hf62_0_1)) ?_;refine fD ?_;refine ⟨(fun w hw=>(hw.frLe (i:=0) rfl le18_20).sub Sx),?_⟩;refine gV ?_;refine dB rfl rfl rfl rfl (fun h15=>?_) (fun h15=>?_)
        ·replace hk:=dr hk h15;refine fK ?_;refine cQ rfl (Yv.cC 0 (e:=5) a7 a7 a7 rfl rfl rfl hf18) ?_;refine cQ rfl (Yv.ct (a:=(u8s r50.1)) (b:=([3,1,2,3,2,1,1,14,0]:List UInt8)) rfl rfl rfl) ?_;refine kR ?_;refine K.pick [0] rfl a6 ?_;exact cS (((u8s r50.1) == ([3,1,2,3,2,1,1,14,0]:List UInt8)),F20) ⟨hk,le18_20⟩ (.c .nil) (List.Sublist.refl _)
        ·replace hk:=dq hk h15;refine TS.run 5 rfl ?_;refine gh ?_;refine K.pick [0] rfl a6 ?_;exact cS (false,F20) ⟨hk,le18_20⟩ (.c .nil) (List.Sublist.refl _)
       ·have p14:=of_decide_eq_false h14;replace hk:=dq hk h14;refine gV ?_;refine iX ?_;refine iX ?_;refine TS.run 7 rfl ?_;refine gh ?_;refine K.pick [0] rfl a6 ?_;exact cS (false,F18) ⟨hk,(Frz.Le.refl _)⟩ (.c .nil) (List.Sublist.refl _)
      ·have p13:=of_decide_eq_false h13;replace hk:=dq hk h13;refine TS.run 6 rfl ?_;refine iX ?_;refine iX ?_;refine TS.run 7 rfl ?_;refine gh ?_;refine K.pick [0] rfl a6 ?_;exact cS (false,F18) ⟨hk,(Frz.Le.refl _)⟩ (.c .nil) (List.Sublist.refl _)
     ·rintro ⟨x_11,F19⟩ ⟨hk,le18_19⟩; (try dsimp only at *);rw [←hk12] at hk; (try dsimp only at hk);refine T.ret ?_;obtain rfl:=Option.some.inj hk;exact dW
def zcK (fuel:Nat)(p:GProblem)(x_:GProof):Option Bool:=
 (zcJ fuel p 9 40).bind fun r6=>
 dH (fun (x_1:Bool)=>
  some x_1)
 (fun k2=>
  (bif r6 then
   (zds fuel x_ 30).bind fun r9=>
   k2 r9
   else
   k2 false))
theorem zhZ (F0:Frz)(w:World)(hF0:F0.At w)(p:GProblem)(vp_0:Value)(cp_0:List (List Value))(hp_0:SlD cK F0 vp_0 2 cp_0 p.Domains)(vp_1:Value)(hp_1:SlC F0 vp_1 5 (p.Rules.Pairs.map cO))(vp_2:Value)(hp_2:SlC F0 vp_2 5 (p.Rules.Loads.map cP))(vp_3:Value)(hp_3:SlC F0 vp_3 4 (p.Rules.Caps.map cR))(x_:GProof)(vx__0:Value)(hx__0:SlC F0 vx__0 1 (x_.Stations.map eI))(vx__1:Value)(cx__1:List (List Value))(hx__1:SlD cI F0 vx__1 1 cx__1 x_.Lemmas)(fuel:Nat)(r:Bool)(hr:zcK fuel p x_=some r):Calls Tryz.prog 9 #[.agg [vp_0,vp_1,vp_2,vp_3].toArray, .agg [vx__0,vx__1].toArray] w fun e w'=>e= .returned (.bool r)∧Below w.heap.size w w':=by
 have hk:=hr;unfold zcK at hk;haveI:=hp_0.1.oneC;haveI:=hp_1.oneC;haveI:=hp_2.oneC;haveI:=hp_3.oneC;haveI:=hx__0.oneC;haveI:=hx__1.1.oneC;obtain ⟨S0,F1,rfl,hS0,hp0⟩:=ey hF0;refine dt Tryz.func9 rfl rfl rfl hp0 ?_;refine gp ?_;rintro _ _ ⟨g2,rfl,rfl⟩;refine mM ?_;rintro _ _ ⟨g3,rfl,rfl⟩;refine j9 ?_;have hq:=d5 hk;clear hk;obtain ⟨r6,hr6,hk⟩:=hq; (try dsimp only at hk);have hq:=d7 hk;clear hk;obtain ⟨k2,hk2,hk⟩:=hq; (try dsimp only at hk);refine cZ (ι:=Bool) (fun z=>[(4, .bool z)]) (fun z=>[.fr F1]) (fun z=>k2 z=some r) ?_ ?_
 ·refine my ?_;refine cU (cM rfl rfl rfl (fun w hw=>zia _ w (hw.fr (i:=2) rfl) p vp_0 cp_0 hp_0 vp_1 hp_1 vp_2 hp_2 vp_3 hp_3 9 40 fuel r6 hr6)) ?_;refine kq ?_;refine dn rfl rfl rfl (fun h3=>?_) (fun h3=>?_)
  ·replace hk:=dr hk h3;refine ik ?_;have hq:=d5 hk;clear hk;obtain ⟨r9,hr9,hk⟩:=hq;refine cU (cM rfl rfl rfl (fun w hw=>zh5 _ w (hw.fr (i:=2) rfl) x_ vx__0 hx__0 vx__1 cx__1 hx__1 30 fuel r9 hr9)) ?_;refine lc ?_;refine K.pick [2] rfl a6 ?_;exact cS r9 hk (.c .nil) (List.Sublist.refl _)
  ·replace hk:=dq hk h3;refine kA ?_;refine K.pick [2] rfl a6 ?_;exact q4Z
 ·rintro x_1 hk;rw [←hk2] at hk; (try dsimp only at hk);refine T.ret ?_;obtain rfl:=Option.some.inj hk;exact dW
theorem zmo (n:Nat):zcq (n+100000)=some true:=by kernel_rfl
theorem zlX {fuel:Nat}(hf:100000≤fuel):zcq fuel=some true:=by
 obtain ⟨n,rfl⟩:∃n,fuel=n+100000:=⟨fuel - 100000,by omega⟩;exact zmo n
section
variable {p:GProblem}{x:GProof}{fuel:Nat}
theorem zmf (hf:100000≤fuel)(p:GProblem)(x:GProof):∃b,zcK fuel p x=some b∧(b=true→x.Stations.length≤20∧x.Lemmas.length≤30∧∀g∈x.Lemmas,g.length≤20):=by
 unfold zcK zds;obtain ⟨b,hb⟩:=zop (p:=p) (a:=9) (b:=40) (fuel:=fuel) a5;obtain ⟨b2,hb2,hb3⟩:=zlv (fuel:=fuel) (l:=x.Lemmas) (most:=30) a5 hf;rw [hb];simp only [dH,Option.bind_some,hb2]
 cases b with
 |false=>exact ⟨false,rfl,fun h=>by cases h⟩
 |true=>
  by_cases h1:(x.Stations.length:Int)≤20
  ·rw [decide_eq_true h1];refine ⟨b2,rfl,fun h=>?_⟩;have:=hb3 h;exact ⟨by omega,by omega,this.2⟩
  ·rw [decide_eq_false h1];exact ⟨false,rfl,fun h=>by cases h⟩
theorem znx:zb3 x x=true:=by
 unfold zb3;rw [zm9,Bool.and_true,zjL];exact decide_eq_true rfl
end
def zch (fuel:Nat)(p:GProblem)(x_:GProof):Option Bool:=
 (zcK fuel p x_).bind fun r12=>
 (bif !r12 then
  (zcq fuel).bind fun r14=>
  some r14
  else
  (zba x_ (-1)).bind fun r16=>
  (zcD fuel p r16).bind fun r20=>
  (zde fuel p x_).bind fun r26=>
  dH (fun (x_2:Bool)=>
   some x_2)
  (fun k3=>
   (bif decide (r20.2=r26.2) then
    (bif (zb3 r20.1 r26.1) then
     (bif (zb3 r16 x_) then
      (zcq fuel).bind fun r43=>
      k3 r43
      else
      k3 false)
     else
     k3 false)
    else
    k3 false)))
theorem zfq (F0:Frz)(w:World)(hF0:F0.At w)(p:GProblem)(vp_0:Value)(cp_0:List (List Value))(hp_0:SlD cK F0 vp_0 2 cp_0 p.Domains)(vp_1:Value)(hp_1:SlC F0 vp_1 5 (p.Rules.Pairs.map cO))(vp_2:Value)(hp_2:SlC F0 vp_2 5 (p.Rules.Loads.map cP))(vp_3:Value)(hp_3:SlC F0 vp_3 4 (p.Rules.Caps.map cR))(x_:GProof)(vx__0:Value)(hx__0:SlC F0 vx__0 1 (x_.Stations.map eI))(vx__1:Value)(cx__1:List (List Value))(hx__1:SlD cI F0 vx__1 1 cx__1 x_.Lemmas)(htab:Tab w)(fuel:Nat)(hfu:100000≤fuel)(r:Bool)(hr:zch fuel p x_=some r):Calls Tryz.prog 4 #[.agg [vp_0,vp_1,vp_2,vp_3].toArray, .agg [vx__0,vx__1].toArray] w fun e w'=>e= .returned (.bool r)∧Below w.heap.size w w':=by
 have hk:=hr;unfold zch at hk;haveI:=hp_0.1.oneC;haveI:=hp_1.oneC;haveI:=hp_2.oneC;haveI:=hp_3.oneC;haveI:=hx__0.oneC;haveI:=hx__1.1.oneC;obtain ⟨S0,F1,rfl,hS0,hp0⟩:=ey hF0;have hM0:¬(fun _:Nat=>False) 0:=fun h=>h;have htk:∀ {hs:HS} {w':World},Hp w (fun _=>False) hs w'→Tab w':=fun hw=>htab.keptF hw;refine dt Tryz.func4 rfl rfl rfl hp0 ?_;refine gp ?_;rintro _ _ ⟨g2,rfl,rfl⟩;refine mM ?_;rintro _ _ ⟨g3,rfl,rfl⟩;refine mJ ?_;have hq:=d5 hk;clear hk;obtain ⟨r12,hr12,hk⟩:=hq; (try dsimp only at hk);refine my ?_;refine ik ?_;refine cU (cM rfl rfl rfl (fun w hw=>zhZ _ w (hw.fr (i:=2) rfl) p vp_0 cp_0 hp_0 vp_1 hp_1 vp_2 hp_2 vp_3 hp_3 x_ vx__0 hx__0 vx__1 cx__1 hx__1 fuel r12 hr12)) ?_;refine fD ?_;refine dA ?_;refine T.cond rfl (fun h1=>?_) (fun h1=>?_)
 ·replace hk:=dr hk h1;refine T.seq ?_;have hq:=d5 hk;clear hk;obtain ⟨r14,hr14,hk⟩:=hq; (try dsimp only at hk);refine fP ?_;refine cU (cM rfl rfl rfl (fun w hw=>zfn _ w (hw.fr (i:=2) rfl) (htab.keptF hw) fuel hfu r14 hr14)) ?_;refine kq ?_;refine kh ?_;obtain rfl:=Option.some.inj hk;exact dW
 ·replace hk:=dq hk h1;refine jh ?_;have hq:=d5 hk;clear hk;obtain ⟨r16,hr16,hk⟩:=hq; (try dsimp only at hk);refine mH ?_;refine cU (dR 2 rfl rfl rfl rfl (fun w hw hF=>zeF _ w hF x_ vx__0 hx__0 vx__1 cx__1 hx__1 (-1) r16 hr16)) ?_;rintro _ _ ⟨⟨v16_0_0,v16_0_1,cs16_0_1⟩,F2,le1_2,⟨hf16_0_0,hf16_0_1⟩,rfl,rfl⟩;dsimp only at hf16_0_0 hf16_0_1 ⊢;haveI:=hf16_0_0.oneC;haveI:=hf16_0_1.1.oneC;refine fX ?_;rintro _ _ ⟨g5,rfl,rfl⟩;refine kK ?_;have hq:=d5 hk;clear hk;obtain ⟨r20,hr20,hk⟩:=hq; (try dsimp only at hk);refine fP ?_;refine cL (dO 2) ?_;refine ik ?_;refine cU (dR 3 rfl rfl rfl rfl (fun w hw hF=>zgd _ w hF p vp_0 cp_0 (SlD.mono (rep:=cK) (fun _ _ _ _=>GDomain.mono) hp_0 le1_2) vp_1 (SlC.mono hp_1 le1_2) vp_2 (SlC.mono hp_2 le1_2) vp_3 (SlC.mono hp_3 le1_2) r16 v16_0_0 hf16_0_0 v16_0_1 cs16_0_1 hf16_0_1 (htab.keptF hw) fuel hfu r20 hr20)) ?_;rintro _ _ ⟨⟨v20_0_0,v20_0_1,cs20_0_1⟩,F3,le2_3,⟨hf20_0_0,hf20_0_1⟩,rfl,rfl⟩;dsimp only at hf20_0_0 hf20_0_1 ⊢;have le1_3:=le1_2.trans le2_3;haveI:=hf20_0_0.oneC;haveI:=hf20_0_1.1.oneC;refine eB ?_;refine fX ?_;rintro _ _ ⟨g6,rfl,rfl⟩;refine j8 ?_;refine j9 ?_;have hq:=d5 hk;clear hk;obtain ⟨r26,hr26,hk⟩:=hq; (try dsimp only at hk);refine fP ?_;refine cL (dO 3) ?_;refine cL (dO 2) ?_;refine cU (dR 4 rfl rfl rfl rfl (fun w hw hF=>ziU _ w hF p vp_0 cp_0 (SlD.mono (rep:=cK) (fun _ _ _ _=>GDomain.mono) hp_0 le1_3) vp_1 (SlC.mono hp_1 le1_3) vp_2 (SlC.mono hp_2 le1_3) vp_3 (SlC.mono hp_3 le1_3) x_ vx__0 (SlC.mono hx__0 le1_3) vx__1 cx__1 (SlD.mono (rep:=cI) (fun _ _ _ _=>R_List_GChoice.mono) hx__1 le1_3) fuel r26 hr26)) ?_;rintro _ _ ⟨⟨v26_0_0,v26_0_1,cs26_0_1⟩,F4,le3_4,⟨hf26_0_0,hf26_0_1⟩,rfl,rfl⟩;dsimp only at hf26_0_0 hf26_0_1 ⊢;have le1_4:=le1_3.trans le3_4;have le2_4:=le2_3.trans le3_4;haveI:=hf26_0_0.oneC;haveI:=hf26_0_1.1.oneC;refine eB ?_;refine fX ?_;rintro _ _ ⟨g8,rfl,rfl⟩;refine j8 ?_;refine j9 ?_; (try dsimp only at hk);have hq:=d7 hk;clear hk;obtain ⟨k3,hk3,hk⟩:=hq; (try dsimp only at hk);refine cZ (ι:=Bool) (fun z=>[(4, .bool z)]) (fun z=>[.fr F4]) (fun z=>k3 z=some r) ?_ ?_
  ·refine fP ?_;refine TL.run 4 rfl ?_;refine dn rfl rfl rfl (fun h4=>?_) (fun h4=>?_)
   ·have p4:=of_decide_eq_true h4;replace hk:=dr hk h4;refine cL (dO 1) ?_;refine ik ?_;refine cU (cM rfl rfl rfl (fun w hw=>zex _ w (hw.fr (i:=5) rfl) r20.1 v20_0_0 (SlC.mono hf20_0_0 le3_4) v20_0_1 cs20_0_1 (SlD.mono (rep:=cI) (fun _ _ _ _=>R_List_GChoice.mono) hf20_0_1 le3_4) r26.1 v26_0_0 hf26_0_0 v26_0_1 cs26_0_1 hf26_0_1)) ?_;refine kx ?_;refine dn rfl rfl rfl (fun h5=>?_) (fun h5=>?_)
    ·replace hk:=dr hk h5;refine cL (dO 2) ?_;refine cL (dO 3) ?_;refine cU (cM rfl rfl rfl (fun w hw=>zex _ w (hw.fr (i:=5) rfl) r16 v16_0_0 (SlC.mono hf16_0_0 le2_4) v16_0_1 cs16_0_1 (SlD.mono (rep:=cI) (fun _ _ _ _=>R_List_GChoice.mono) hf16_0_1 le2_4) x_ vx__0 (SlC.mono hx__0 le1_4) vx__1 cx__1 (SlD.mono (rep:=cI) (fun _ _ _ _=>R_List_GChoice.mono) hx__1 le1_4))) ?_;refine kx ?_;refine dn rfl rfl rfl (fun h6=>?_) (fun h6=>?_)
     ·replace hk:=dr hk h6;have hq:=d5 hk;clear hk;obtain ⟨r43,hr43,hk⟩:=hq;refine cU (cM rfl rfl rfl (fun w hw=>zfn _ w (hw.fr (i:=5) rfl) (htab.keptF hw) fuel hfu r43 hr43)) ?_;refine lc ?_;refine K.pick [5] rfl a6 ?_;exact cS r43 hk (.c .nil) (List.Sublist.refl _)
     ·replace hk:=dq hk h6;refine eB ?_;refine eW ?_;refine K.pick [5] rfl a6 ?_;exact q4Z
    ·replace hk:=dq hk h5;refine TL.run 8 rfl ?_;refine eW ?_;refine K.pick [5] rfl a6 ?_;exact q4Z
   ·have p4:=of_decide_eq_false h4;replace hk:=dq hk h4;refine TL.run 13 rfl ?_;refine eW ?_;refine K.pick [5] rfl a6 ?_;exact q4Z
  ·rintro x_2 hk;rw [←hk3] at hk; (try dsimp only at hk);refine T.ret ?_;obtain rfl:=Option.some.inj hk;exact dW
section
variable {p:GProblem}{x:GProof}{fuel:Nat}
theorem ziM (hf:100000≤fuel)(p:GProblem)(x:GProof):zch fuel p x=some true:=by
 have hkn:=zlX hf;unfold zch;obtain ⟨b,hb,hsz⟩:=zmf hf p x;rw [hb,Option.bind_some]
 cases b with
 |false=>rw [Bool.not_false,cond_true,hkn];rfl
 |true=>
  obtain ⟨z1,z2,z3⟩:=hsz rfl; (have hs:∀g∈x.Lemmas,g.length≤1000:=fun g hg=>by have:=z3 g hg;omega);rw [Bool.not_true,cond_false,zj7 a5,Option.bind_some];simp only [dH,zpi hf (p:=p) (x:=x) a5 a5 hs,zmv hf,znx,Option.bind_some,decide_true,cond_true,hkn]
end
end Go.Proofs.YtogbggmckmnlfaaGreatDoor
namespace Go.Proofs.YtogbggmckmnlfaaGreatDoor
open Go.RowKit Go.ChangeShapes Go.WideShapes Go.Deep
def Opens {H:Type}(enc:TypeId×Value→H)(w:World)(base:Nat)(spare:Nat→Bool)(held:Bool)(t:TypeId){α:Type}(R:List Value→α→Prop):Prop:=
 ∀fuel cs y,DataW.trod enc Tryz.prog w base spare held fuel t cs=some y→∃x,R cs x
section
variable {H:Type}{enc:TypeId×Value→H}{w:World}{base:Nat}{spare:Nat→Bool}{held:Bool}
theorem Opens.int {t:TypeId}(ht:Tryz.prog.underlying t=some (.int .i64)):Opens enc w base spare held t (fun cs (x:Int)=>cs=[.int .i64 x]):=fun fuel cs y h=>by
 obtain ⟨k,hk,_⟩:=DataW.trod_int ht h;exact ⟨k,hk⟩
theorem zoK {a:Addr}{v:Value}(h:w.cell? a=some v):Cb w a.block:=by
 unfold World.cell? at h
 split at h
 all_goals (first|exact ⟨_,_,_,by assumption⟩|simp at h|skip)
theorem Opens.any {t e : TypeId} {k : Nat} {α : Type} [Inhabited α] {R : List Value → α → Prop} (ht : Tryz.prog.underlying t = some (.slice e)) (hk : Tryz.prog.cellsOf e = k) (hpos : 0 < k) (ho : Opens enc w base spare held e R) :
    Opens enc w base spare held t (fun cs (l : List α) => ∃ v c, cs = [v] ∧ SlC (Frz.all w) v k c ∧ c.length = l.length ∧ ∀ i, i < l.length → R (cJ c i) (cJ l i)) := fun fuel cs y h => by
  rcases open_slice ht h with ⟨h0, _⟩ | ⟨a, len, cap, m, n, D, Pl, hcs, hb, hl, hm, hmm, _, hx⟩
  · exact ⟨[], _, [], h0, SlC.nil _ _, rfl, fun i hi => absurd hi (Nat.not_lt_zero i)⟩
  · subst hcs; (have hlm : len ≤ m := by rw [hmm]; split <;> omega)
    have each : ∀ i, i < m → ∃ x : List Value × α, x.1.length = k ∧ R x.1 x.2 ∧ ∀ j, j < k → w.cell? (a.add (i * k + j)) = x.1[j]? := fun i hi => by
      obtain ⟨cs', h1, h2⟩ := hx i hi; rw [hk] at h1; obtain ⟨_, hlen, hcell⟩ := World.cells?_some h1; obtain ⟨x, hR⟩ := ho _ _ _ h2; exact ⟨(cs', x), hlen, hR, fun j hj => by rw [← hcell j hj, add_add]⟩
    obtain ⟨X, hX⟩ := choose_lt each
    have hn : ∀ i, i < len → cJ ((List.range len).map fun i => (X i).1) i = (X i).1 := fun i hi => by
      rw [dV (by simpa using hi)]; simp
    have hn2 : ∀ i, i < len → cJ ((List.range len).map fun i => (X i).2) i = (X i).2 := fun i hi => by
      rw [dV (by simpa using hi)]; simp
    refine ⟨(List.range len).map fun i => (X i).2, _, (List.range len).map fun i => (X i).1, rfl, ⟨some a, cap, by simp, by simpa using hl, by unfold maxLen at hm; omega, fun c hc => ?_, fun hp => ?_⟩, by simp, fun i hi => ?_⟩
    · simp at hc; obtain ⟨i, hi, rfl⟩ := hc; exact (hX i a5).1
    · (have hp' : 0 < len := by simpa using hp); have c0 := (hX 0 a5).2.2 0 hpos; have hx0 := (hX 0 a5).1; rw [List.getElem?_eq_getElem a5] at c0; have hcb := zoK c0; have hs := World.cell?_spot c0; simp [Addr.add] at hs hcb; obtain ⟨b, off, sp⟩ := a; simp at hs hcb; subst hs; refine ⟨b, off, rfl, hcb, fun i hi j hj => ?_⟩; simp at hi; rw [hn i hi] at hj ⊢; have hxi := hX i a5; have := hxi.2.2 j a5;refine Eq.trans ?_ this
      show w.cell? _ = _
      rw [zeb, Nat.add_assoc]
    · simp at hi; rw [hn i hi, hn2 i hi]; exact (hX i a5).2.1
theorem fN {t e : TypeId} {k : Nat} {α : Type} [Inhabited α] {en : α → List Value} (ht : Tryz.prog.underlying t = some (.slice e)) (hk : Tryz.prog.cellsOf e = k) (hpos : 0 < k) (ho : Opens enc w base spare held e (fun cs (x : α) => cs = en x)) :
    Opens enc w base spare held t (fun cs (l : List α) => ∃ v, cs = [v] ∧ SlC (Frz.all w) v k (l.map en)) := fun fuel cs y h => by
  obtain ⟨l, v, c, h1, h2, h3, h4⟩ := Opens.any ht hk hpos ho _ _ _ h;refine ⟨l, v, h1, ?_⟩
  have : c = l.map en := by
    apply List.ext_getElem (by simpa using h3); intro i hi hi2; rw [← dV hi, h4 i a5, List.getElem_map, dV a5]
  rw [← this]; exact h2
theorem Opens.bytes {t e : TypeId} (ht : Tryz.prog.underlying t = some (.slice e)) (he : Tryz.prog.underlying e = some (.int .u8)) (hk : Tryz.prog.cellsOf e = 1) :
    Opens enc w base spare held t (fun cs (l : List Int) => ∃ v, cs = [v] ∧ SlC (Frz.all w) v 1 (l.map (eK .u8)) ∧ ∀ x ∈ l, 0 ≤ x ∧ x ≤ 255) := fun fuel cs y h => by
  have ho : Opens enc w base spare held e (fun cs (x : Int) => cs = eK .u8 x ∧ (0 ≤ x ∧ x ≤ 255)) := fun fuel cs y h => by
    obtain ⟨k, h1, _, h2⟩ := DataW.trod_int he h;refine ⟨k, h1, ?_⟩; (have e1 : IntKind.u8.min = 0 := by decide); (have e2 : IntKind.u8.max = 255 := by decide); simp only [Lit.wf, e1, e2, Bool.and_eq_true, decide_eq_true_eq] at h2; exact h2
  obtain ⟨l, v, c, h1, h2, h3, h4⟩ := Opens.any ht hk a6 ho _ _ _ h; refine ⟨l, v, h1, ?_, fun x hx => ?_⟩
  · have : c = l.map (eK .u8) := by
      apply List.ext_getElem (by simpa using h3); intro i hi hi2; rw [← dV hi, (h4 i a5).1, List.getElem_map, dV a5]
    rw [← this]; exact h2
  · obtain ⟨i, hi, e⟩ := List.mem_iff_getElem.1 hx; have := (h4 i hi).2; rw [dV hi, e] at this; exact this
theorem jV {t e : TypeId} {k : Nat} {α : Type} [Inhabited α] {rep : Frz → List Value → α → Prop} (ht : Tryz.prog.underlying t = some (.slice e)) (hk : Tryz.prog.cellsOf e = k) (hpos : 0 < k) (ho : Opens enc w base spare held e (rep (Frz.all w))) :
    Opens enc w base spare held t (fun cs (l : List α) => ∃ v c, cs = [v] ∧ SlD rep (Frz.all w) v k c l) := fun fuel cs y h => by
  obtain ⟨l, v, c, h1, h2, h3, h4⟩ := Opens.any ht hk hpos ho _ _ _ h; exact ⟨l, v, c, h1, h2, h3, h4⟩
end
end Go.Proofs.YtogbggmckmnlfaaGreatDoor
