/- Yl Ca P1 P2 P3 Yf Y1 P4 Z1 Z2 Dp Yt Dt Du Yu Yv P5 P6: shortened and put together by squeeze.py. -/
import Derived.Test.YtmnjbhkcfghebaaGreatDoorQ12
import Derived.RecoverIn
set_option maxRecDepth 100000
set_option maxHeartbeats 4000000
set_option linter.unusedVariables false
set_option linter.unusedSectionVars false
set_option linter.unusedSimpArgs false
namespace Go.Proofs.YtmnjbhkcfghebaaGreatDoor
open Go.RowKit
def c7 (F:Frz)(c:List Value)(x:List GBid):Prop:=∃(v0:Value) (cs0:List (List Value)),c=[v0]∧SlD cW F v0 7 cs0 x
theorem R_List_GBid.mono {F G:Frz}{c:List Value}{x:List GBid}(hle:F.Le G)(h:c7 F c x):c7 G c x:=by
 obtain ⟨v0,cs0,h0,h1⟩:=h;exact ⟨v0,cs0,h0,SlD.mono (rep:=cW) (fun _ _ _ _=>GBid.mono) h1 hle⟩
theorem R_List_GBid.len {F:Frz}{c:List Value}{x:List GBid}(h:c7 F c x):c.length=1:=by
 obtain ⟨v0,cs0,h0,h1⟩:=h;subst h0;rfl
theorem R_List_GBid.one {F:Frz}{c:List Value}{x:List GBid}(h:c7 F c x):OneCs c:=by
 obtain ⟨v0,cs0,h0,h1⟩:=h;subst h0;haveI:=h1.1.oneC
 infer_instance
theorem eA {F:Frz}{c:List Value}{x:List GBid}(h:c7 F c x):c[0]?=some (nth c 0)∧∃cs,SlD cW F (nth c 0) 7 cs x:=by
 obtain ⟨v0,cs0,h0,h1⟩:=h;subst h0;exact ⟨rfl,cs0,h1⟩
def zcI (l:List GProduct)(bidders:List GBidder)(key:List Int)(rounds:List (List GBid)):Bool:=
 (bif ((((decide (10<(l.length:Int)))||(decide (6<(bidders.length:Int))))||(decide (40<(key.length:Int))))||(decide (4<(rounds.length:Int)))) then
 false
 else
 dF (fun (_:Unit)=>
 true)
 (fun k5=>
 dq (fun (i_7:Nat) (next6:Unit→Bool) (_:Unit)=>
 (bif decide (16<((nth rounds i_7).length:Int)) then
 false
 else
 next6 ()))
 (fun (_:Unit)=>
 k5 ()) (rounds.length - 0) 0 ()))
theorem zh7 (F0:Frz)(w:World)(hF0:F0.At w)(l:List GProduct)(vl:Value)(hl:SlC F0 vl 5 (l.map cV))(bidders:List GBidder)(vbidders:Value)(cbidders:List (List Value))(hbidders:SlD cR F0 vbidders 4 cbidders bidders)(key:List Int)(vkey:Value)(hkey:SlC F0 vkey 1 (key.map (eK .u8)))(rounds:List (List GBid))(vrounds:Value)(crounds:List (List Value))(hrounds:SlD c7 F0 vrounds 1 crounds rounds):Calls Tryz.prog 16 #[vl,vbidders,vkey,vrounds] w fun e w'=>e= .returned (.bool (zcI l bidders key rounds))∧Below w.heap.size w w':=by
 obtain ⟨r,hk⟩:∃r,zcI l bidders key rounds=r:=⟨_,rfl⟩;rw [hk];unfold zcI at hk;haveI:=hl.oneC;haveI:=hbidders.1.oneC;haveI:=hkey.oneC;haveI:=hrounds.1.oneC;obtain ⟨S0,F1,rfl,hS0,hp0⟩:=eo hF0;refine dQ Tryz.func16 rfl rfl rfl hp0 ?_;refine eV ?_;refine iT ?_;refine c9 (ι:=Unit) (fun z=>[(3,vrounds),(27, .bool ((((decide (10<(l.length:Int)))||(decide (6<(bidders.length:Int))))||(decide (40<(key.length:Int))))||(decide (4<(rounds.length:Int)))))]) (fun z=>[.fr F1]) (fun z=>True) ?_ ?_
 ·refine ef ?_;refine q1V ?_;have hm11:l.length≤9223372036854775807:=(List.length_map _)▸hl.max;refine ek ?_;refine dg rfl rfl rfl (fun h1=>?_) (fun h1=>?_)
  ·have p1:=of_decide_eq_true h1;refine TL.run 14 rfl ?_;refine fG ?_;exact cY () trivial (.c (.b (eD (eD (eD h1))).symm .nil)) (List.Sublist.refl _)
  ·have p1:=of_decide_eq_false h1;refine dy ?_;refine q27 ?_;have hm15:bidders.length≤9223372036854775807:=hbidders.2.1▸hbidders.1.max;refine fP ?_;refine dg rfl rfl rfl (fun h2=>?_) (fun h2=>?_)
   ·have p2:=of_decide_eq_true h2;refine TL.run 9 rfl ?_;refine fG ?_;exact cY () trivial (.c (.b (eD (eD (fw h1 h2))).symm .nil)) (List.Sublist.refl _)
   ·have p2:=of_decide_eq_false h2;refine q2u ?_;have hm20:key.length≤9223372036854775807:=(List.length_map _)▸hkey.max;refine fP ?_;refine dg rfl rfl rfl (fun h3=>?_) (fun h3=>?_)
    ·have p3:=of_decide_eq_true h3;refine jH ?_;exact cY () trivial (.c (.b (eD (fw (fw h1 h2) h3)).symm .nil)) (List.Sublist.refl _)
    ·have p3:=of_decide_eq_false h3;refine dy ?_;refine cS (dk rfl rfl hrounds.1 hrounds.2.1) ?_;have hm25:rounds.length≤9223372036854775807:=hrounds.2.1▸hrounds.1.max;refine jZ ?_;exact cY () trivial (.c (.b (fK (fw (fw h1 h2) h3)) .nil)) (List.Sublist.refl _)
 ·rintro _ _;have hm11:l.length≤9223372036854775807:=(List.length_map _)▸hl.max;have hm15:bidders.length≤9223372036854775807:=hbidders.2.1▸hbidders.1.max;have hm20:key.length≤9223372036854775807:=(List.length_map _)▸hkey.max;have hm25:rounds.length≤9223372036854775807:=hrounds.2.1▸hrounds.1.max;refine T.cond rfl (fun h4=>?_) (fun h4=>?_)
  ·replace hk:=dr hk h4;refine iQ ?_;subst hk;exact d8
  ·have p4:=h4; (try simp only [iC] at p4);replace hk:=dt hk h4;refine j0 ?_;refine dZ ?_;have hq:=d7 hk;clear hk;obtain ⟨k5,hk5,hk⟩:=hq; (try dsimp only at hk);refine c9 (ι:=Unit) (fun z=>[]) (fun z=>[.fr F1]) (fun z=>k5 ()=r) ?_ ?_
   ·have hq:=fJ hk;clear hk;obtain ⟨f6,kk6,hf6,hkk6,hk⟩:=hq;refine eH ?_;refine T.loop (ι:=Nat) (fun z=>[(3,vrounds),(9, .int .i64 (z:Int))]) (fun z=>[.fr F1]) (fun z=>dq f6 kk6 (rounds.length - z) z ()=r) (fun z=>rounds.length - z) 0 ?_ ?_ ?_ ?_
    ·exact hk
    ·exact (.c (.c .nil))
    ·exact eG
    ·rintro i_7 hk;refine l6 ?_;refine cS (dk rfl rfl hrounds.1 hrounds.2.1) ?_;refine dZ ?_;refine T.cond rfl (fun h8=>?_) (fun h8=>?_)
     ·have p8:=of_decide_eq_true h8;rw [fF a7] at hk;generalize hn6:dq f6 kk6 (rounds.length - (i_7+1)) (i_7+1)=next6 at hk;rw [←hf6] at hk; (try dsimp only at hk);refine lP ?_;refine cS (df (i:=i_7) rfl rfl rfl hrounds.1 hrounds.2.1 rfl a7) ?_;refine cS (fx 0 (i:=i_7) (j:=0) rfl rfl rfl hrounds.1 hrounds.2.1 a7 rfl (eA (hrounds.2.2 i_7 a7)).1) ?_;obtain ⟨cs37_0,hd37_0⟩:=(eA (hrounds.2.2 i_7 a7)).2;haveI:=hd37_0.1.oneC;refine cS (dk rfl rfl hd37_0.1 hd37_0.2.1) ?_;have hm38:(nth rounds i_7).length≤9223372036854775807:=hd37_0.2.1▸hd37_0.1.max;refine dZ ?_;refine T.cond rfl (fun h9=>?_) (fun h9=>?_)
      ·have p9:=of_decide_eq_true h9;replace hk:=dr hk h9;refine eV ?_;refine ky ?_;subst hk;exact d8
      ·have p9:=of_decide_eq_false h9;replace hk:=dt hk h9;refine q3E ?_;rw [←hn6] at hk;exact K.next (i_7+1) hk a7 (.c (.c .nil)) (List.Sublist.refl _)
     ·have p8:=of_decide_eq_false h8;rw [fH a7,←hkk6] at hk; (try dsimp only at hk);refine eN ?_;exact kY
   ·rintro _ hk;rw [←hk5] at hk; (try dsimp only at hk);refine kp ?_;subst hk;exact d8
def zcr (fuel : Nat)  : Option Bool :=
 (zc3 [(GProduct.mk 0 1 2 1 100)] [(GBidder.mk 0 2 0 [2]),(GBidder.mk 1 2 0 [1])] (GIncrement.mk 100 10) ([107,101,121]:List Int)).bind fun r25=>
 (bif (r25.1).isSome then
 dF (fun (x_2:Bool)=>
 (bif x_2 then
 some false
 else
 (zf3 fuel 1 2).bind fun r55=>
 (zaQ fuel (r25.1.getD default) [(GBid.mk 0 0 (-2) (GRatio.mk (GInt.mk r55.Num.Neg r55.Num.Digits) (GInt.mk r55.Den.Neg r55.Den.Digits)))]).bind fun r61=>
 (zdZ fuel [(GBid.mk 0 0 (-2) (GRatio.mk (GInt.mk r55.Num.Neg r55.Num.Digits) (GInt.mk r55.Den.Neg r55.Den.Digits)))]).bind fun r66=>
 (zbv (GAuction.mk ((r25.1.getD default).catalogue) r61.2.2.1 (GIncrement.mk ((r25.1.getD default).increment.Activity) ((r25.1.getD default).increment.Step)) ((r25.1.getD default).key) r61.2.2.2.1 r61.2.2.2.2) 0).bind fun r71=>
 (zbv (GAuction.mk ((r25.1.getD default).catalogue) r61.2.2.1 (GIncrement.mk ((r25.1.getD default).increment.Activity) ((r25.1.getD default).increment.Step)) ((r25.1.getD default).key) r61.2.2.2.1 r61.2.2.2.2) 1).bind fun r76=>
 dF (fun (x_8:Bool)=>
 some x_8)
 (fun k9=>
 (bif decide (r61.2.1=0) then
 (bif decide (r66.2=0) then
 (bif decide (r71.2=0) then
 (bif decide (r76.2=0) then
 (bif (zcs r61.1 [(-1)]) then
 (zaz (GAuction.mk ((r25.1.getD default).catalogue) r61.2.2.1 (GIncrement.mk ((r25.1.getD default).increment.Activity) ((r25.1.getD default).increment.Step)) ((r25.1.getD default).key) r61.2.2.2.1 r61.2.2.2.2)).bind fun r100=>
 (bif (zcs r100 [105]) then
 (zaS (GAuction.mk ((r25.1.getD default).catalogue) r61.2.2.1 (GIncrement.mk ((r25.1.getD default).increment.Activity) ((r25.1.getD default).increment.Step)) ((r25.1.getD default).key) r61.2.2.2.1 r61.2.2.2.2)).bind fun r106=>
 (bif r106 then
 (zbB (GAuction.mk ((r25.1.getD default).catalogue) r61.2.2.1 (GIncrement.mk ((r25.1.getD default).increment.Activity) ((r25.1.getD default).increment.Step)) ((r25.1.getD default).key) r61.2.2.2.1 r61.2.2.2.2)).bind fun r110=>
 (bif decide (r110=210) then
 (zbJ (GAuction.mk ((r25.1.getD default).catalogue) r61.2.2.1 (GIncrement.mk ((r25.1.getD default).increment.Activity) ((r25.1.getD default).increment.Step)) ((r25.1.getD default).key) r61.2.2.2.1 r61.2.2.2.2)).bind fun r115=>
 (bif decide (r115=2) then
 (bif decide (r71.1.Eligibility=1) then
 (bif decide (r76.1.Eligibility=1) then
 k9 ((u8s r66.1) == ([1,0,0,3,1,2]:List UInt8))
 else
 k9 false)
 else
 k9 false)
 else
 k9 false)
 else
 k9 false)
 else
 k9 false)
 else
 k9 false)
 else
 k9 false)
 else
 k9 false)
 else
 k9 false)
 else
 k9 false)
 else
 k9 false))))
 (fun k3=>
 (bif decide (¬r25.2=0) then
 k3 true
 else
 (zat (r25.1.getD default)).bind fun r36=>
 (bif !(zcs r36 [1]) then
 k3 true
 else
 (zaz (r25.1.getD default)).bind fun r43=>
 (bif !(zcs r43 [100]) then
 k3 true
 else
 (zaJ (r25.1.getD default)).bind fun r50=>
 k3 (!(zcs r50 [110]))))))
 else
 none)
theorem zd8 (F0 : Frz)(w : World)(hF0 : F0.At w)  (hgl : GlF F0)(fuel : Nat)(r : Bool)(hr : zcr fuel = some r) : Calls Tryz.prog 11 #[] w fun e w' => e = .returned (.bool r) ∧ Below w.heap.size w w' := by
 have hk:=hr;unfold zcr at hk;obtain ⟨S0,F1,rfl,hS0,hp0⟩:=eo hF0;refine dQ Tryz.func11 rfl rfl rfl hp0 ?_;refine eV ?_;refine eR ?_;refine jE ?_;refine iz ?_;rintro _ _ ⟨g14,rfl,rfl⟩;refine gD ?_;refine jK (fun w hw=>hw.freezeR (i:=1) (j:=0) a8 rfl rfl) ?_;rintro F2 ⟨le1_2,hz2⟩;refine fI ?_;have hfF2:SlC F2.toFrz (.slice (some ⟨g14,0,none⟩) 1 1) 5 ([(GProduct.mk 0 1 2 1 100)].map cV):=(SlK.lit hz2 rfl (Nat.le_refl _) a8).toF (xs:=[(GProduct.mk 0 1 2 1 100)]) rfl GProduct.len;have hq:=dw hk;clear hk;obtain ⟨r25,hr25,hk⟩:=hq; (try dsimp only at hk);refine T.bw ((r25.1).isSome) (fun h1=>?_) (fun h1=>?_)
 ·replace hk:=dr hk h1;refine ef ?_;refine iz ?_;rintro _ _ ⟨g17,rfl,rfl⟩;refine q1L ?_;rintro F3 ⟨le2_3,hz3⟩;refine fI ?_;have le1_3:=le1_2.trans le2_3;have hfF3:SlC F3.toFrz (.slice (some ⟨g17,0,none⟩) 1 1) 1 ([2].map eI):=(SlK.lit hz3 rfl (Nat.le_refl _) a8).toF (xs:=[2]) rfl (fun _=>rfl);refine jE ?_;refine iz ?_;rintro _ _ ⟨g19,rfl,rfl⟩;refine q1L ?_;rintro F4 ⟨le3_4,hz4⟩;refine fI ?_;have le1_4:=le1_3.trans le3_4;have le2_4:=le2_3.trans le3_4;have hfF4:SlC F4.toFrz (.slice (some ⟨g19,0,none⟩) 1 1) 1 ([1].map eI):=(SlK.lit hz4 rfl (Nat.le_refl _) a8).toF (xs:=[1]) rfl (fun _=>rfl);refine jE ?_;refine iz ?_;rintro _ _ ⟨g21,rfl,rfl⟩;have hl21:OwnD cR F4.toFrz 4 [[.int .i64 0, .int .i64 2, .int .i64 0,(.slice (some ⟨g17,0,none⟩) 1 1)],[.int .i64 1, .int .i64 2, .int .i64 0,(.slice (some ⟨g19,0,none⟩) 1 1)]] [(GBidder.mk 0 2 0 [2]),(GBidder.mk 1 2 0 [1])]:=(fB (fB (OwnD.nil _ _ 4) ⟨_,rfl,(SlC.mono hfF3 le3_4)⟩) ⟨_,rfl,hfF4⟩);refine q1L ?_;rintro F5 ⟨le4_5,hz5⟩;refine fI ?_;have le1_5:=le1_4.trans le4_5;have le2_5:=le2_4.trans le4_5;have hfF5:SlD cR F5.toFrz (.slice (some ⟨g21,0,none⟩) 2 2) 4 [[.int .i64 0, .int .i64 2, .int .i64 0,(.slice (some ⟨g17,0,none⟩) 1 1)],[.int .i64 1, .int .i64 2, .int .i64 0,(.slice (some ⟨g19,0,none⟩) 1 1)]] [(GBidder.mk 0 2 0 [2]),(GBidder.mk 1 2 0 [1])]:=(SlK.lit hz5 rfl (Nat.le_refl _) a8).toD (OwnD.mono (rep:=cR) (fun _ _ _ _=>GBidder.mono) hl21 le4_5) rfl;refine jE ?_;refine iz ?_;rintro _ _ ⟨g23,rfl,rfl⟩;refine q3X ?_;rintro _ _ ⟨F6,⟨le5_6,hf24⟩,rfl,rfl⟩;refine fI ?_;have le1_6:=le1_5.trans le5_6;have le2_6:=le2_5.trans le5_6;haveI:=hf24.oneC;refine cX (d5 [0] [] [] rfl rfl rfl rfl a8 (fun w hw hw2 hF=>(zd5 _ w hF [(GProduct.mk 0 1 2 1 100)] (.slice (some ⟨g14,0,none⟩) 1 1) (SlC.mono hfF2 le2_6) [(GBidder.mk 0 2 0 [2]),(GBidder.mk 1 2 0 [1])] (.slice (some ⟨g21,0,none⟩) 2 2) [[.int .i64 0, .int .i64 2, .int .i64 0,(.slice (some ⟨g17,0,none⟩) 1 1)],[.int .i64 1, .int .i64 2, .int .i64 0,(.slice (some ⟨g19,0,none⟩) 1 1)]] (SlD.mono (rep:=cR) (fun _ _ _ _=>GBidder.mono) hfF5 le5_6) (GIncrement.mk 100 10) ([107,101,121]:List Int) (.slice (some ⟨g23,0,none⟩) 3 3) hf24 r25 hr25).mono (fun e w' hp=>hp.1 h1))) ?_;rintro _ _ ⟨⟨g25_n,v25_n_0,v25_n_1,c25_n_1,v25_n_4,v25_n_6⟩,F7,le6_7,⟨hf25_n_0,hf25_n_1,hf25_n_4,hf25_n_6⟩,rfl,rfl⟩;refine ft ?_; (try dsimp only at hf25_n_0 hf25_n_1 hf25_n_4 hf25_n_6);have le1_7:=le1_6.trans le6_7;refine io ?_;refine iT ?_; (try dsimp only at hk);have hq:=d7 hk;clear hk;obtain ⟨k3,hk3,hk⟩:=hq; (try dsimp only at hk);refine c9 (ι:=Bool×FzB w (fun _=>False) S0) (fun z=>[(2, .pointer (some ⟨g25_n,0,none⟩)),(54, .bool z.1)]) (fun z=>[.row g25_n 104 [v25_n_0,v25_n_1, .int .i64 ((r25.1.getD default).increment.Activity), .int .i64 ((r25.1.getD default).increment.Step),v25_n_4, .int .i64 ((r25.1.getD default).rounds),v25_n_6], .fr z.2]) (fun z=>k3 z.1=some r∧F7.toFrz.Le z.2.toFrz) ?_ ?_
  ·refine ie ?_;refine dg rfl rfl rfl (fun h4=>?_) (fun h4=>?_)
   ·have p4:=of_decide_eq_true h4;replace hk:=dr hk h4;refine TL.run 24 rfl ?_;refine fG ?_;exact cY (true,F7) ⟨hk,(Frz.Le.refl _)⟩ (.c (.c .nil)) (List.Sublist.refl _)
   ·have p4:=of_decide_eq_false h4;replace hk:=dt hk h4;refine dy ?_;refine q2m ?_;refine fP ?_;have hq:=dw hk;clear hk;obtain ⟨r36,hr36,hk⟩:=hq;refine cX (d5 [0,1] [.row g25_n 104 [v25_n_0,v25_n_1, .int .i64 ((r25.1.getD default).increment.Activity), .int .i64 ((r25.1.getD default).increment.Step),v25_n_4, .int .i64 ((r25.1.getD default).rounds),v25_n_6]] [] rfl rfl rfl rfl a8 (fun w hw hw2 hF=>za7 _ w hF (r25.1.getD default) g25_n v25_n_0 hf25_n_0 v25_n_1 c25_n_1 hf25_n_1 v25_n_4 hf25_n_4 v25_n_6 hf25_n_6 hw2.takes.1 hw2.takes.2 r36 hr36)) ?_;rintro _ _ ⟨v36_0_0,F9,le7_9,hf36_0_0,hq,rfl⟩;obtain rfl:=hq.symm;refine ft ?_;haveI:=hf36_0_0.oneC;refine iz ?_;rintro _ _ ⟨g37,rfl,rfl⟩;refine q1M ?_;rintro F10 ⟨le9_10,hz10⟩;refine fI ?_;have le7_10:=le7_9.trans le9_10;have hfF10:SlC F10.toFrz (.slice (some ⟨g37,0,none⟩) 1 1) 1 ([1].map eI):=(SlK.lit hz10 rfl (Nat.le_refl _) a8).toF (xs:=[1]) rfl (fun _=>rfl);refine cX (de rfl rfl rfl (fun w hw=>zdT _ w (hw.fr (i:=1) rfl) r36 v36_0_0 (SlC.mono hf36_0_0 le9_10) [1] (.slice (some ⟨g37,0,none⟩) 1 1) hfF10)) ?_;refine ee ?_;refine fP ?_;refine dg rfl rfl rfl (fun h5=>?_) (fun h5=>?_)
    ·replace hk:=dr hk h5;refine TL.run 13 rfl ?_;refine fG ?_;exact cY (true,F10) ⟨hk,le7_10⟩ (.c (.c .nil)) (List.Sublist.refl _)
    ·replace hk:=dt hk h5;refine dy ?_;have hq:=dw hk;clear hk;obtain ⟨r43,hr43,hk⟩:=hq;refine cX (d5 [0,1] [.row g25_n 104 [v25_n_0,v25_n_1, .int .i64 ((r25.1.getD default).increment.Activity), .int .i64 ((r25.1.getD default).increment.Step),v25_n_4, .int .i64 ((r25.1.getD default).rounds),v25_n_6]] [] rfl rfl rfl rfl a8 (fun w hw hw2 hF=>zbu _ w hF (r25.1.getD default) g25_n v25_n_0 (SlC.mono hf25_n_0 le7_10) v25_n_1 c25_n_1 (SlD.mono (rep:=cR) (fun _ _ _ _=>GBidder.mono) hf25_n_1 le7_10) v25_n_4 (SlC.mono hf25_n_4 le7_10) v25_n_6 (SlC.mono hf25_n_6 le7_10) hw2.takes.1 hw2.takes.2 r43 hr43)) ?_;rintro _ _ ⟨v43_0_0,F11,le10_11,hf43_0_0,hq,rfl⟩;obtain rfl:=hq.symm;refine ft ?_;have le7_11:=le7_10.trans le10_11;haveI:=hf43_0_0.oneC;refine iz ?_;rintro _ _ ⟨g44,rfl,rfl⟩;refine q1M ?_;rintro F12 ⟨le11_12,hz12⟩;refine fI ?_;have le7_12:=le7_11.trans le11_12;have hfF12:SlC F12.toFrz (.slice (some ⟨g44,0,none⟩) 1 1) 1 ([100].map eI):=(SlK.lit hz12 rfl (Nat.le_refl _) a8).toF (xs:=[100]) rfl (fun _=>rfl);refine cX (de rfl rfl rfl (fun w hw=>zdT _ w (hw.fr (i:=1) rfl) r43 v43_0_0 (SlC.mono hf43_0_0 le11_12) [100] (.slice (some ⟨g44,0,none⟩) 1 1) hfF12)) ?_;refine ee ?_;refine fP ?_;refine dg rfl rfl rfl (fun h6=>?_) (fun h6=>?_)
     ·replace hk:=dr hk h6;refine q3b ?_;exact cY (true,F12) ⟨hk,le7_12⟩ (.c (.c .nil)) (List.Sublist.refl _)
     ·replace hk:=dt hk h6;refine dy ?_;have hq:=dw hk;clear hk;obtain ⟨r50,hr50,hk⟩:=hq;refine cX (d5 [0,1] [.row g25_n 104 [v25_n_0,v25_n_1, .int .i64 ((r25.1.getD default).increment.Activity), .int .i64 ((r25.1.getD default).increment.Step),v25_n_4, .int .i64 ((r25.1.getD default).rounds),v25_n_6]] [] rfl rfl rfl rfl a8 (fun w hw hw2 hF=>zbG _ w hF (r25.1.getD default) g25_n v25_n_0 (SlC.mono hf25_n_0 le7_12) v25_n_1 c25_n_1 (SlD.mono (rep:=cR) (fun _ _ _ _=>GBidder.mono) hf25_n_1 le7_12) v25_n_4 (SlC.mono hf25_n_4 le7_12) v25_n_6 (SlC.mono hf25_n_6 le7_12) hw2.takes.1 hw2.takes.2 r50 hr50)) ?_;rintro _ _ ⟨v50_0_0,F13,le12_13,hf50_0_0,hq,rfl⟩;obtain rfl:=hq.symm;refine ft ?_;have le7_13:=le7_12.trans le12_13;haveI:=hf50_0_0.oneC;refine iz ?_;rintro _ _ ⟨g51,rfl,rfl⟩;refine q1M ?_;rintro F14 ⟨le13_14,hz14⟩;refine fI ?_;have le7_14:=le7_13.trans le13_14;have hfF14:SlC F14.toFrz (.slice (some ⟨g51,0,none⟩) 1 1) 1 ([110].map eI):=(SlK.lit hz14 rfl (Nat.le_refl _) a8).toF (xs:=[110]) rfl (fun _=>rfl);refine cX (de rfl rfl rfl (fun w hw=>zdT _ w (hw.fr (i:=1) rfl) r50 v50_0_0 (SlC.mono hf50_0_0 le13_14) [110] (.slice (some ⟨g51,0,none⟩) 1 1) hfF14)) ?_;refine kZ ?_;exact cY (!(zcs r50 [110]),F14) ⟨hk,le7_14⟩ (.c (.c .nil)) (List.Sublist.refl _)
  ·rintro ⟨x_2,F8⟩ ⟨hk,le7_8⟩; (try dsimp only at *);rw [←hk3] at hk; (try dsimp only at hk);have le1_8:=le1_7.trans le7_8;refine T.cond rfl (fun h7=>?_) (fun h7=>?_)
   ·replace hk:=dr hk h7;refine iQ ?_;obtain rfl:=Option.some.inj hk;exact d8
   ·replace hk:=dt hk h7;refine fN ?_;have hq:=dw hk;clear hk;obtain ⟨r55,hr55,hk⟩:=hq; (try dsimp only at hk);refine gy ?_;refine cX (dl 1 rfl rfl rfl rfl (fun w hw hF=>zi0 _ w hF 1 2 fuel r55 hr55)) ?_;rintro _ _ ⟨⟨v55_0_1,v55_0_3⟩,F15,le8_15,⟨hf55_0_1,hf55_0_3⟩,rfl,rfl⟩;dsimp only at hf55_0_1 hf55_0_3 ⊢;have le1_15:=le1_8.trans le8_15;have le7_15:=le7_8.trans le8_15;haveI:=hf55_0_1.oneC;haveI:=hf55_0_3.oneC;refine jE ?_;refine iz ?_;rintro _ _ ⟨g57,rfl,rfl⟩;have hl57:OwnD cW F15.toFrz 7 [[.int .i64 0, .int .i64 0, .int .i64 (-2), .bool r55.Num.Neg,v55_0_1, .bool r55.Den.Neg,v55_0_3]] [(GBid.mk 0 0 (-2) (GRatio.mk (GInt.mk r55.Num.Neg r55.Num.Digits) (GInt.mk r55.Den.Neg r55.Den.Digits)))]:=(fB (OwnD.nil _ _ 7) ⟨_,_,rfl,hf55_0_1,hf55_0_3⟩);refine gD ?_;refine jK (fun w hw=>hw.freezeR (i:=2) (j:=0) a8 rfl rfl) ?_;rintro F16 ⟨le15_16,hz16⟩;refine fI ?_;have le1_16:=le1_15.trans le15_16;have le7_16:=le7_15.trans le15_16;have hfF16:SlD cW F16.toFrz (.slice (some ⟨g57,0,none⟩) 1 1) 7 [[.int .i64 0, .int .i64 0, .int .i64 (-2), .bool r55.Num.Neg,v55_0_1, .bool r55.Den.Neg,v55_0_3]] [(GBid.mk 0 0 (-2) (GRatio.mk (GInt.mk r55.Num.Neg r55.Num.Digits) (GInt.mk r55.Den.Neg r55.Den.Digits)))]:=(SlK.lit hz16 rfl (Nat.le_refl _) a8).toD (OwnD.mono (rep:=cW) (fun _ _ _ _=>GBid.mono) hl57 le15_16) rfl;have hq:=dw hk;clear hk;obtain ⟨r61,hr61,hk⟩:=hq; (try dsimp only at hk);refine eO ?_;refine cX (d5 [0,1] [.row g25_n 104 [v25_n_0,v25_n_1, .int .i64 ((r25.1.getD default).increment.Activity), .int .i64 ((r25.1.getD default).increment.Step),v25_n_4, .int .i64 ((r25.1.getD default).rounds),v25_n_6]] [] rfl rfl rfl rfl a8 (fun w hw hw2 hF=>zci _ w hF (r25.1.getD default) g25_n v25_n_0 (SlC.mono hf25_n_0 le7_16) v25_n_1 c25_n_1 (SlD.mono (rep:=cR) (fun _ _ _ _=>GBidder.mono) hf25_n_1 le7_16) v25_n_4 (SlC.mono hf25_n_4 le7_16) v25_n_6 (SlC.mono hf25_n_6 le7_16) [(GBid.mk 0 0 (-2) (GRatio.mk (GInt.mk r55.Num.Neg r55.Num.Digits) (GInt.mk r55.Den.Neg r55.Den.Digits)))] (.slice (some ⟨g57,0,none⟩) 1 1) [[.int .i64 0, .int .i64 0, .int .i64 (-2), .bool r55.Num.Neg,v55_0_1, .bool r55.Den.Neg,v55_0_3]] hfF16 (hgl.mono le1_16) hw2.takes.1 hw2.takes.2 fuel r61 hr61)) ?_;rintro _ _ ⟨⟨v61_0_0,v61_2_1,c61_2_1,v61_2_6⟩,F17,le16_17,⟨hf61_0_0,hf61_2_1,hf61_2_6⟩,rfl,rfl⟩;refine ft ?_; (try dsimp only at hf61_0_0 hf61_2_1 hf61_2_6);have le7_17:=le7_16.trans le16_17;haveI:=hf61_0_0.oneC;haveI:=hf61_2_1.1.oneC;haveI:=hf61_2_6.oneC;refine io ?_;refine fi ?_;have hq:=dw hk;clear hk;obtain ⟨r66,hr66,hk⟩:=hq; (try dsimp only at hk);refine ef ?_;refine cX (dl 1 rfl rfl rfl rfl (fun w hw hF=>zgc _ w hF [(GBid.mk 0 0 (-2) (GRatio.mk (GInt.mk r55.Num.Neg r55.Num.Digits) (GInt.mk r55.Den.Neg r55.Den.Digits)))] (.slice (some ⟨g57,0,none⟩) 1 1) [[.int .i64 0, .int .i64 0, .int .i64 (-2), .bool r55.Num.Neg,v55_0_1, .bool r55.Den.Neg,v55_0_3]] (SlD.mono (rep:=cW) (fun _ _ _ _=>GBid.mono) hfF16 le16_17) fuel r66 hr66)) ?_;rintro _ _ ⟨v66_0_0,F18,le17_18,hf66_0_0,rfl,rfl⟩;have le7_18:=le7_17.trans le17_18;haveI:=hf66_0_0.oneC;refine io ?_;refine fi ?_;have hq:=dw hk;clear hk;obtain ⟨r71,hr71,hk⟩:=hq; (try dsimp only at hk);refine ef ?_;refine cX (d5 [0,1] [.row g25_n 104 [v25_n_0,v61_2_1, .int .i64 ((r25.1.getD default).increment.Activity), .int .i64 ((r25.1.getD default).increment.Step),v25_n_4, .int .i64 r61.2.2.2.1,v61_2_6]] [] rfl rfl rfl rfl a8 (fun w hw hw2 hF=>zca _ w hF (GAuction.mk ((r25.1.getD default).catalogue) r61.2.2.1 (GIncrement.mk ((r25.1.getD default).increment.Activity) ((r25.1.getD default).increment.Step)) ((r25.1.getD default).key) r61.2.2.2.1 r61.2.2.2.2) g25_n v25_n_0 (SlC.mono hf25_n_0 le7_18) v61_2_1 c61_2_1 (SlD.mono (rep:=cR) (fun _ _ _ _=>GBidder.mono) hf61_2_1 le17_18) v25_n_4 (SlC.mono hf25_n_4 le7_18) v61_2_6 (SlC.mono hf61_2_6 le17_18) 0 hw2.takes.1 hw2.takes.2 r71 hr71)) ?_
    rintro _ _ ⟨v71_0_3,F19,le18_19,hf71_0_3,rfl,rfl⟩;refine ft ?_;have le7_19:=le7_18.trans le18_19;have le17_19:=le17_18.trans le18_19;haveI:=hf71_0_3.oneC;refine l9 ?_;rintro _ _ ⟨g9,rfl,rfl⟩;refine gg ?_;refine gD ?_;have hq:=dw hk;clear hk;obtain ⟨r76,hr76,hk⟩:=hq; (try dsimp only at hk);refine ef ?_;refine cX (d5 [1,2,0] [.row g25_n 104 [v25_n_0,v61_2_1, .int .i64 ((r25.1.getD default).increment.Activity), .int .i64 ((r25.1.getD default).increment.Step),v25_n_4, .int .i64 r61.2.2.2.1,v61_2_6]] [.row g9 57 [.int .i64 r71.1.ID, .int .i64 r71.1.Eligibility, .int .i64 r71.1.Waivers,v71_0_3]] rfl rfl rfl rfl a8 (fun w hw hw2 hF=>zca _ w hF (GAuction.mk ((r25.1.getD default).catalogue) r61.2.2.1 (GIncrement.mk ((r25.1.getD default).increment.Activity) ((r25.1.getD default).increment.Step)) ((r25.1.getD default).key) r61.2.2.2.1 r61.2.2.2.2) g25_n v25_n_0 (SlC.mono hf25_n_0 le7_19) v61_2_1 c61_2_1 (SlD.mono (rep:=cR) (fun _ _ _ _=>GBidder.mono) hf61_2_1 le17_19) v25_n_4 (SlC.mono hf25_n_4 le7_19) v61_2_6 (SlC.mono hf61_2_6 le17_19) 1 hw2.takes.1 hw2.takes.2 r76 hr76)) ?_;rintro _ _ ⟨v76_0_3,F20,le19_20,hf76_0_3,rfl,rfl⟩;refine ft ?_;have le7_20:=le7_19.trans le19_20;have le17_20:=le17_19.trans le19_20;have le18_20:=le18_19.trans le19_20;haveI:=hf76_0_3.oneC;refine l9 ?_;rintro _ _ ⟨g11,rfl,rfl⟩;refine gg ?_;refine gD ?_; (try dsimp only at hk);have hq:=d7 hk;clear hk;obtain ⟨k9,hk9,hk⟩:=hq; (try dsimp only at hk);refine c9 (ι:=Bool×FzB w (fun _=>False) S0) (fun z=>[(0, .bool z.1)]) (fun z=>[.fr z.2]) (fun z=>k9 z.1=some r∧F20.toFrz.Le z.2.toFrz) ?_ ?_
    ·refine ie ?_;refine dg rfl rfl rfl (fun h10=>?_) (fun h10=>?_)
     ·have p10:=of_decide_eq_true h10;replace hk:=dr hk h10;refine kJ ?_;refine dg rfl rfl rfl (fun h11=>?_) (fun h11=>?_)
      ·have p11:=of_decide_eq_true h11;replace hk:=dr hk h11;refine kJ ?_;refine dg rfl rfl rfl (fun h12=>?_) (fun h12=>?_)
       ·have p12:=of_decide_eq_true h12;replace hk:=dr hk h12;refine kJ ?_;refine dg rfl rfl rfl (fun h13=>?_) (fun h13=>?_)
        ·have p13:=of_decide_eq_true h13;replace hk:=dr hk h13;refine dy ?_;refine iz ?_;rintro _ _ ⟨g95,rfl,rfl⟩;refine gX (fun w hw=>hw.freezeR (i:=3) (j:=0) a8 rfl rfl) ?_;rintro F22 ⟨le20_22,hz22⟩;refine fI ?_;have le7_22:=le7_20.trans le20_22;have le17_22:=le17_20.trans le20_22;have le18_22:=le18_20.trans le20_22;have hfF22:SlC F22.toFrz (.slice (some ⟨g95,0,none⟩) 1 1) 1 ([(-1)].map eI):=(SlK.lit hz22 rfl (Nat.le_refl _) a8).toF (xs:=[(-1)]) rfl (fun _=>rfl);refine cX (de rfl rfl rfl (fun w hw=>zdT _ w (hw.fr (i:=2) rfl) r61.1 v61_0_0 (SlC.mono hf61_0_0 le17_22) [(-1)] (.slice (some ⟨g95,0,none⟩) 1 1) hfF22)) ?_;refine jN ?_;refine dg rfl rfl rfl (fun h14=>?_) (fun h14=>?_)
         ·replace hk:=dr hk h14;refine dy ?_;have hq:=dw hk;clear hk;obtain ⟨r100,hr100,hk⟩:=hq;refine cX (d5 [1,2,0,3] [.row g25_n 104 [v25_n_0,v61_2_1, .int .i64 ((r25.1.getD default).increment.Activity), .int .i64 ((r25.1.getD default).increment.Step),v25_n_4, .int .i64 r61.2.2.2.1,v61_2_6]] [.row g11 57 [.int .i64 r76.1.ID, .int .i64 r76.1.Eligibility, .int .i64 r76.1.Waivers,v76_0_3], .row g9 57 [.int .i64 r71.1.ID, .int .i64 r71.1.Eligibility, .int .i64 r71.1.Waivers,v71_0_3]] rfl rfl rfl rfl a8 (fun w hw hw2 hF=>zbu _ w hF (GAuction.mk ((r25.1.getD default).catalogue) r61.2.2.1 (GIncrement.mk ((r25.1.getD default).increment.Activity) ((r25.1.getD default).increment.Step)) ((r25.1.getD default).key) r61.2.2.2.1 r61.2.2.2.2) g25_n v25_n_0 (SlC.mono hf25_n_0 le7_22) v61_2_1 c61_2_1 (SlD.mono (rep:=cR) (fun _ _ _ _=>GBidder.mono) hf61_2_1 le17_22) v25_n_4 (SlC.mono hf25_n_4 le7_22) v61_2_6 (SlC.mono hf61_2_6 le17_22) hw2.takes.1 hw2.takes.2 r100 hr100)) ?_;rintro _ _ ⟨v100_0_0,F23,le22_23,hf100_0_0,hq,rfl⟩;obtain rfl:=hq.symm;refine ft ?_;have le7_23:=le7_22.trans le22_23;have le17_23:=le17_22.trans le22_23;have le18_23:=le18_22.trans le22_23;have le20_23:=le20_22.trans le22_23;haveI:=hf100_0_0.oneC;refine iz ?_;rintro _ _ ⟨g101,rfl,rfl⟩;refine q1M ?_;rintro F24 ⟨le23_24,hz24⟩;refine fI ?_;have le7_24:=le7_23.trans le23_24;have le17_24:=le17_23.trans le23_24;have le18_24:=le18_23.trans le23_24;have le20_24:=le20_23.trans le23_24;have hfF24:SlC F24.toFrz (.slice (some ⟨g101,0,none⟩) 1 1) 1 ([105].map eI):=(SlK.lit hz24 rfl (Nat.le_refl _) a8).toF (xs:=[105]) rfl (fun _=>rfl);refine cX (de rfl rfl rfl (fun w hw=>zdT _ w (hw.fr (i:=1) rfl) r100 v100_0_0 (SlC.mono hf100_0_0 le23_24) [105] (.slice (some ⟨g101,0,none⟩) 1 1) hfF24)) ?_;refine jN ?_;refine dg rfl rfl rfl (fun h15=>?_) (fun h15=>?_)
          ·replace hk:=dr hk h15;refine dy ?_;have hq:=dw hk;clear hk;obtain ⟨r106,hr106,hk⟩:=hq;refine cX (d5 [0,1,2,3] [.row g25_n 104 [v25_n_0,v61_2_1, .int .i64 ((r25.1.getD default).increment.Activity), .int .i64 ((r25.1.getD default).increment.Step),v25_n_4, .int .i64 r61.2.2.2.1,v61_2_6]] [.row g11 57 [.int .i64 r76.1.ID, .int .i64 r76.1.Eligibility, .int .i64 r76.1.Waivers,v76_0_3], .row g9 57 [.int .i64 r71.1.ID, .int .i64 r71.1.Eligibility, .int .i64 r71.1.Waivers,v71_0_3]] rfl rfl rfl rfl a8 (fun w hw hw2 hF=>zck _ w hF (GAuction.mk ((r25.1.getD default).catalogue) r61.2.2.1 (GIncrement.mk ((r25.1.getD default).increment.Activity) ((r25.1.getD default).increment.Step)) ((r25.1.getD default).key) r61.2.2.2.1 r61.2.2.2.2) g25_n v25_n_0 (SlC.mono hf25_n_0 le7_24) v61_2_1 c61_2_1 (SlD.mono (rep:=cR) (fun _ _ _ _=>GBidder.mono) hf61_2_1 le17_24) v25_n_4 (SlC.mono hf25_n_4 le7_24) v61_2_6 (SlC.mono hf61_2_6 le17_24) hw2.takes.1 hw2.takes.2 r106 hr106)) ?_;rintro _ _ ⟨⟨⟩,F25,le24_25, -,rfl,rfl⟩;refine ft ?_;have le7_25:=le7_24.trans le24_25;have le17_25:=le17_24.trans le24_25;have le18_25:=le18_24.trans le24_25;have le20_25:=le20_24.trans le24_25;refine ek ?_;refine dg rfl rfl rfl (fun h16=>?_) (fun h16=>?_)
           ·replace hk:=dr hk h16;refine dy ?_;have hq:=dw hk;clear hk;obtain ⟨r110,hr110,hk⟩:=hq;refine cX (dI [0,1,2,3] [.row g25_n 104 [v25_n_0,v61_2_1, .int .i64 ((r25.1.getD default).increment.Activity), .int .i64 ((r25.1.getD default).increment.Step),v25_n_4, .int .i64 r61.2.2.2.1,v61_2_6]] [.row g11 57 [.int .i64 r76.1.ID, .int .i64 r76.1.Eligibility, .int .i64 r76.1.Waivers,v76_0_3], .row g9 57 [.int .i64 r71.1.ID, .int .i64 r71.1.Eligibility, .int .i64 r71.1.Waivers,v71_0_3]] rfl rfl rfl rfl a8 (fun w hw hw2 hF=>zc7 _ w hF (GAuction.mk ((r25.1.getD default).catalogue) r61.2.2.1 (GIncrement.mk ((r25.1.getD default).increment.Activity) ((r25.1.getD default).increment.Step)) ((r25.1.getD default).key) r61.2.2.2.1 r61.2.2.2.2) g25_n v25_n_0 (SlC.mono hf25_n_0 le7_25) v61_2_1 c61_2_1 (SlD.mono (rep:=cR) (fun _ _ _ _=>GBidder.mono) hf61_2_1 le17_25) v25_n_4 (SlC.mono hf25_n_4 le7_25) v61_2_6 (SlC.mono hf61_2_6 le17_25) hw2.takes.1 hw2.takes.2 r110 hr110)) ?_;rintro _ _ ⟨⟨⟩, -,rfl,rfl⟩;refine ft ?_;refine fP ?_;refine dg rfl rfl rfl (fun h17=>?_) (fun h17=>?_)
            ·have p17:=of_decide_eq_true h17;replace hk:=dr hk h17;refine dy ?_;have hq:=dw hk;clear hk;obtain ⟨r115,hr115,hk⟩:=hq;refine cX (dI [0,1,2,3] [.row g25_n 104 [v25_n_0,v61_2_1, .int .i64 ((r25.1.getD default).increment.Activity), .int .i64 ((r25.1.getD default).increment.Step),v25_n_4, .int .i64 r61.2.2.2.1,v61_2_6]] [.row g11 57 [.int .i64 r76.1.ID, .int .i64 r76.1.Eligibility, .int .i64 r76.1.Waivers,v76_0_3], .row g9 57 [.int .i64 r71.1.ID, .int .i64 r71.1.Eligibility, .int .i64 r71.1.Waivers,v71_0_3]] rfl rfl rfl rfl a8 (fun w hw hw2 hF=>zdr _ w hF (GAuction.mk ((r25.1.getD default).catalogue) r61.2.2.1 (GIncrement.mk ((r25.1.getD default).increment.Activity) ((r25.1.getD default).increment.Step)) ((r25.1.getD default).key) r61.2.2.2.1 r61.2.2.2.2) g25_n v25_n_0 (SlC.mono hf25_n_0 le7_25) v61_2_1 c61_2_1 (SlD.mono (rep:=cR) (fun _ _ _ _=>GBidder.mono) hf61_2_1 le17_25) v25_n_4 (SlC.mono hf25_n_4 le7_25) v61_2_6 (SlC.mono hf61_2_6 le17_25) hw2.takes.1 hw2.takes.2 r115 hr115)) ?_;rintro _ _ ⟨⟨⟩, -,rfl,rfl⟩;refine ft ?_;refine fP ?_;refine dg rfl rfl rfl (fun h18=>?_) (fun h18=>?_)
             ·have p18:=of_decide_eq_true h18;replace hk:=dr hk h18;refine gn ?_;refine cS (di 3) ?_;refine fP ?_;refine dg rfl rfl rfl (fun h19=>?_) (fun h19=>?_)
              ·have p19:=of_decide_eq_true h19;replace hk:=dr hk h19;refine q1S ?_;refine fP ?_;refine dg rfl rfl rfl (fun h20=>?_) (fun h20=>?_)
               ·have p20:=of_decide_eq_true h20;replace hk:=dr hk h20;refine dy ?_;refine cS (Yv.cG 1 (e:=5) b0 b0 b0 rfl rfl rfl (SlC.mono hf66_0_0 le18_25)) ?_;refine cS (Yv.cx (a:=(u8s r66.1)) (b:=([1,0,0,3,1,2]:List UInt8)) rfl rfl rfl) ?_;refine jZ ?_;refine kH ?_;exact cY (((u8s r66.1) == ([1,0,0,3,1,2]:List UInt8)),F25) ⟨hk,le20_25⟩ (.c .nil) (List.Sublist.refl _)
               ·have p20:=of_decide_eq_false h20;replace hk:=dt hk h20;refine lE ?_;refine kH ?_;exact q4n
              ·have p19:=of_decide_eq_false h19;replace hk:=dt hk h19;refine q31 ?_;refine kH ?_;exact q4n
             ·have p18:=of_decide_eq_false h18;replace hk:=dt hk h18;refine TL.run 15 rfl ?_;refine fG ?_;refine kH ?_;exact q4n
            ·have p17:=of_decide_eq_false h17;replace hk:=dt hk h17;refine TL.run 20 rfl ?_;refine fG ?_;refine kH ?_;exact q4n
           ·replace hk:=dt hk h16;refine TL.run 25 rfl ?_;refine fG ?_;refine kH ?_;exact q4n
          ·replace hk:=dt hk h15;refine TL.run 29 rfl ?_;refine fG ?_;refine kH ?_;exact cY (false,F24) ⟨hk,le20_24⟩ (.c .nil) (List.Sublist.refl _)
         ·replace hk:=dt hk h14;refine TL.run 35 rfl ?_;refine q2t ?_;exact cY (false,F22) ⟨hk,le20_22⟩ (.c .nil) (List.Sublist.refl _)
        ·have p13:=of_decide_eq_false h13;replace hk:=dt hk h13;refine TL.run 40 rfl ?_;refine q2t ?_;exact q4v
       ·have p12:=of_decide_eq_false h12;replace hk:=dt hk h12;refine TL.run 44 rfl ?_;refine q2t ?_;exact q4v
      ·have p11:=of_decide_eq_false h11;replace hk:=dt hk h11;refine TL.run 48 rfl ?_;refine q2t ?_;exact q4v
     ·have p10:=of_decide_eq_false h10;replace hk:=dt hk h10;refine TL.run 52 rfl ?_;refine q2t ?_;exact q4v
    ·rintro ⟨x_8,F21⟩ ⟨hk,le20_21⟩; (try dsimp only at *);rw [←hk9] at hk; (try dsimp only at hk);refine T.ret ?_;obtain rfl:=Option.some.inj hk;exact d8
 ·replace hk:=dt hk h1;refine ef ?_;refine iz ?_;rintro _ _ ⟨g17,rfl,rfl⟩;refine q1L ?_;rintro F26 ⟨le2_26,hz26⟩;refine fI ?_;have hfF26:SlC F26.toFrz (.slice (some ⟨g17,0,none⟩) 1 1) 1 ([2].map eI):=(SlK.lit hz26 rfl (Nat.le_refl _) a8).toF (xs:=[2]) rfl (fun _=>rfl);refine jE ?_;refine iz ?_;rintro _ _ ⟨g19,rfl,rfl⟩;refine q1L ?_;rintro F27 ⟨le26_27,hz27⟩;refine fI ?_;have le2_27:=le2_26.trans le26_27;have hfF27:SlC F27.toFrz (.slice (some ⟨g19,0,none⟩) 1 1) 1 ([1].map eI):=(SlK.lit hz27 rfl (Nat.le_refl _) a8).toF (xs:=[1]) rfl (fun _=>rfl);refine jE ?_;refine iz ?_;rintro _ _ ⟨g21,rfl,rfl⟩;have hl21:OwnD cR F27.toFrz 4 [[.int .i64 0, .int .i64 2, .int .i64 0,(.slice (some ⟨g17,0,none⟩) 1 1)],[.int .i64 1, .int .i64 2, .int .i64 0,(.slice (some ⟨g19,0,none⟩) 1 1)]] [(GBidder.mk 0 2 0 [2]),(GBidder.mk 1 2 0 [1])]:=(fB (fB (OwnD.nil _ _ 4) ⟨_,rfl,(SlC.mono hfF26 le26_27)⟩) ⟨_,rfl,hfF27⟩);refine q1L ?_;rintro F28 ⟨le27_28,hz28⟩;refine fI ?_;have le2_28:=le2_27.trans le27_28;have hfF28:SlD cR F28.toFrz (.slice (some ⟨g21,0,none⟩) 2 2) 4 [[.int .i64 0, .int .i64 2, .int .i64 0,(.slice (some ⟨g17,0,none⟩) 1 1)],[.int .i64 1, .int .i64 2, .int .i64 0,(.slice (some ⟨g19,0,none⟩) 1 1)]] [(GBidder.mk 0 2 0 [2]),(GBidder.mk 1 2 0 [1])]:=(SlK.lit hz28 rfl (Nat.le_refl _) a8).toD (OwnD.mono (rep:=cR) (fun _ _ _ _=>GBidder.mono) hl21 le27_28) rfl;refine jE ?_;refine iz ?_;rintro _ _ ⟨g23,rfl,rfl⟩;refine q3X ?_;rintro _ _ ⟨F29,⟨le28_29,hf24⟩,rfl,rfl⟩;refine fI ?_;have le2_29:=le2_28.trans le28_29;haveI:=hf24.oneC;refine cX (d5 [0] [] [] rfl rfl rfl rfl a8 (fun w hw hw2 hF=>(zd5 _ w hF [(GProduct.mk 0 1 2 1 100)] (.slice (some ⟨g14,0,none⟩) 1 1) (SlC.mono hfF2 le2_29) [(GBidder.mk 0 2 0 [2]),(GBidder.mk 1 2 0 [1])] (.slice (some ⟨g21,0,none⟩) 2 2) [[.int .i64 0, .int .i64 2, .int .i64 0,(.slice (some ⟨g17,0,none⟩) 1 1)],[.int .i64 1, .int .i64 2, .int .i64 0,(.slice (some ⟨g19,0,none⟩) 1 1)]] (SlD.mono (rep:=cR) (fun _ _ _ _=>GBidder.mono) hfF28 le28_29) (GIncrement.mk 100 10) ([107,101,121]:List Int) (.slice (some ⟨g23,0,none⟩) 3 3) hf24 r25 hr25).mono (fun e w' hp=>hp.2 h1))) ?_;rintro _ _ ⟨⟨⟩,F30,le29_30, -,rfl,rfl⟩;refine ft ?_;refine io ?_;refine iT ?_;cases hk
section
variable {σ ρ α:Type}
theorem zhZ {f:Nat→(Unit→Bool)→Unit→Bool}{k:Unit→Bool}{n:Nat}(q:Nat→Bool)(hf:∀i next,i<n→f i next ()=(q i&&next ())):dq f k n 0 ()=((List.range n).all q&&k ()):=by
 have key:∀m i,i+m=n→dq f k m i ()=((List.range' i m).all q&&k ()):=by
  intro m
  induction m with
  |zero=>intro i _;simp [dq]
  |succ m ih=>
   intro i e
   show f i (dq f k m (i+1)) ()=_
   rw [hf i _ a7,ih (i+1) a7,List.range'_succ,List.all_cons,Bool.and_assoc]
 rw [key n 0 a7,List.range_eq_range']
theorem ziV {f:Nat→(σ→ρ)→σ→ρ}{k:σ→ρ}{n:Nat}{s:σ}(g:Nat→σ→σ)(hf:∀i next s,i<n→f i next s=next (g i s)):dq f k n 0 s=k ((List.range n).foldl (fun s i=>g i s) s):=by
 have key:∀m i s,i+m=n→dq f k m i s=k ((List.range' i m).foldl (fun s i=>g i s) s):=by
  intro m
  induction m with
  |zero=>intro i s _;rfl
  |succ m ih=>
   intro i s e
   show f i (dq f k m (i+1)) s=_
   rw [hf i _ _ a7,ih (i+1) _ a7,List.range'_succ,List.foldl_cons]
 rw [key n 0 s a7,List.range_eq_range']
theorem gx {x:Int}(h: -9223372036854775808≤x∧x≤9223372036854775807):wI x=x:=IntWalk.i64_in _ h
end
theorem zh2 {σ τ ρ ρ':Type}{f:Nat→(σ→ρ)→σ→ρ}{k:σ→ρ}{g:Nat→(τ→ρ')→τ→ρ'}{k':τ→ρ'}{n:Nat}(R:Nat→σ→τ→Prop)(post:ρ→ρ'→Prop)(hk:∀s t,R n s t→post (k s) (k' t))(hf:∀i s t next next',i<n→R i s t→(∀s t,R (i+1) s t→post (next s) (next' t))→post (f i next s) (g i next' t)):∀m i s t,i+m=n→R i s t→post (dq f k m i s) (dq g k' m i t)
 |0,i,s,t,h,hR=>hk s t (by rw [←h];exact hR)
 |m+1,i,s,t,h,hR=>hf i s t _ _ a7 hR fun s t hR=>zh2 R post hk hf m (i+1) s t a7 hR
theorem zg6 {σ τ ρ ρ':Type}{f:Nat→(σ→ρ)→σ→ρ}{k:σ→ρ}{g:Nat→(τ→ρ')→τ→ρ'}{k':τ→ρ'}{n:Nat}{s:σ}{t:τ}(R:Nat→σ→τ→Prop)(post:ρ→ρ'→Prop)(h0:R 0 s t)(hk:∀s t,R n s t→post (k s) (k' t))(hf:∀i s t next next',i<n→R i s t→(∀s t,R (i+1) s t→post (next s) (next' t))→post (f i next s) (g i next' t)):post (dq f k (n - 0) 0 s) (dq g k' (n - 0) 0 t):=zh2 R post hk hf _ _ _ _ a7 h0
theorem zkU (a b:Int):lC a b=if a<b then -1 else if b<a then 1 else 0:=by
 unfold lC zb5;rw [decide_eq_false (show ¬ ¬a=a by simp),cond_false,decide_eq_false (show ¬ ¬b=b by simp),cond_false];by_cases h:a<b
 ·rw [decide_eq_true h,cond_true,if_pos h]
 ·rw [decide_eq_false h,cond_false,if_neg h];by_cases h2:b<a
  ·rw [decide_eq_true h2,cond_true,if_pos h2]
  ·rw [decide_eq_false h2,cond_false,if_neg h2]
theorem zjP (a b:Int):zc8 [a,b]=if a=0 then b else a:=by
 show (bif decide (¬a=0) then a else bif decide (¬b=0) then b else 0)=_
 by_cases h:a=0
 ·rw [decide_eq_false (by simp [h]),cond_false,if_pos h];by_cases h2:b=0
  ·rw [decide_eq_false (by simp [h2]),cond_false,h2]
  ·rw [decide_eq_true h2,cond_true]
 ·rw [decide_eq_true h,cond_true,if_neg h]
theorem zlZ (q p:GProduct):decide (0≤mq q p)=(decide (p.Area<q.Area)||(decide (p.Area=q.Area)&&decide (p.Category≤q.Category))):=by
 unfold mq;rw [zjP,zkU,zkU];rw [Bool.eq_iff_iff];simp only [decide_eq_true_eq,Bool.or_eq_true,Bool.and_eq_true]
 repeat' split
 all_goals omega
def jY (p:GProduct):Bool:= !((((((((((decide (p.Area<0))||(decide (63<p.Area)))||(decide (p.Category<1)))||(decide (2<p.Category)))||(decide (p.Supply<1)))||(decide (12<p.Supply)))||(decide (p.Units<1)))||(decide (100000<p.Units)))||(decide (p.Reserve<0)))||(decide (549755813888<p.Reserve)))
theorem zew {p:GProduct}:jY p=true↔(0≤p.Area∧p.Area≤63∧1≤p.Category∧p.Category≤2∧1≤p.Supply∧p.Supply≤12∧1≤p.Units∧p.Units≤100000∧0≤p.Reserve∧p.Reserve≤549755813888):=by
 unfold jY;simp only [Bool.not_eq_true',Bool.or_eq_false_iff,decide_eq_false_iff_not];omega
structure InvP (l:List GProduct) (i:Nat) (v:Vec 64 Int):Prop where
 zero:∀a:Nat,a<64→(0<i→(nth l (i - 1)).Area<(a:Int))→v.get a=0
 last:0<i→jY (nth l (i - 1))=true∧((nth l (i - 1)).Category=1→v.get (nth l (i - 1)).Area.toNat=(nth l (i - 1)).Supply)
def okN (q p:GProduct):Bool:= !((decide (p.Area<q.Area))||((decide (p.Area=q.Area))&&((decide (p.Category≤q.Category))||(decide (12<wI (p.Supply+q.Supply))))))
theorem zh9 {l:List GProduct}{i:Nat}{v:Vec 64 Int}(h:InvP l i v):
  ∃r,zcg (nth l i) v=some r∧((jY (nth l i)=true∧(0<i→okN (nth l (i - 1)) (nth l i)=true)∧r.1=true∧(0<i→decide (0≤mq (nth l (i - 1)) (nth l i))=false)∧InvP l (i+1) r.2)∨((jY (nth l i)=false∨0<i∧okN (nth l (i - 1)) (nth l i)=false)∧(r.1=false∨0<i∧decide (0≤mq (nth l (i - 1)) (nth l i))=true))):=by
 obtain ⟨hz,hl⟩:=h;generalize nth l (i - 1)=q at *;generalize hp:nth l i=p;unfold zcg ln;by_cases h1:0≤p.Area∧p.Area≤63∧1≤p.Category∧p.Category≤2∧1≤p.Supply∧p.Supply≤12
 ·obtain ⟨a1,a2,a3,a4,a5,a6⟩:=h1;rw [decide_eq_true a1,decide_eq_true a2,decide_eq_true a3,decide_eq_true a4,decide_eq_true a5,decide_eq_true a6];simp only [Bool.and_self,Bool.not_true,Bool.or_self,cond_false]; (have ha:p.Area.toNat<64:=by omega);rw [dJ a7,fC ha,if_pos rfl];refine ⟨_,rfl,?_⟩;dsimp only;rw [zlZ]
  have hsum:(0<i→jY q=true∧q.Area≤p.Area∧(q.Area=p.Area→q.Category<p.Category))→wI (v.get p.Area.toNat+p.Supply)=if 0<i∧q.Area=p.Area then q.Supply+p.Supply else p.Supply:=by
   intro hh;by_cases hi:0<i∧q.Area=p.Area
   ·obtain ⟨b1,b2,b3⟩:=hh hi.1;rw [zew] at b1;have b4:=(hl hi.1).2 (by have:=b3 hi.2;omega);rw [if_pos hi,←hi.2,b4,gx a7]
   ·rw [if_neg hi,hz p.Area.toNat ha (fun hi0=>by have:=(hh hi0).2.1;have:q.Area≠p.Area:=fun e=>hi ⟨hi0,e⟩;omega),gx a7];omega
  by_cases hgood:jY p=true∧(0<i→okN q p=true)
  ·obtain ⟨g1,g2⟩:=hgood
   have hord:0<i→jY q=true∧q.Area≤p.Area∧(q.Area=p.Area→q.Category<p.Category∧p.Supply+q.Supply≤12):=by
    intro hi;have:=g2 hi;have hq:=(hl hi).1;unfold okN at this;simp only [Bool.not_eq_true',Bool.or_eq_false_iff,Bool.and_eq_false_iff,decide_eq_false_iff_not] at this;rw [zew] at hq;rw [gx a7] at this;refine ⟨(hl hi).1,by omega,fun e=>?_⟩;omega
   have hs:=hsum fun hi=>⟨(hord hi).1,(hord hi).2.1,fun e=>((hord hi).2.2 e).1⟩;refine .inl ⟨g1,g2,?_,fun hi=>?_,⟨fun a ha2 h0=>?_,fun _=>?_⟩⟩
   ·rw [hs];rw [zew] at g1;simp only [Bool.and_eq_true,decide_eq_true_eq]
    split
    ·rename_i hc;have:=(hord hc.1).2.2 hc.2;omega
    ·omega
   ·have:=hord hi;simp only [Bool.or_eq_false_iff,Bool.and_eq_false_iff,decide_eq_false_iff_not];omega
   ·have h9:=h0 a7;rw [show i+1 - 1=i by omega,hp] at h9;rw [fC ha,if_neg a7]; (exact hz a ha2 fun hi=>by have:=(hord hi).2.1;omega)
   ·rw [show i+1 - 1=i by omega,hp];refine ⟨g1,fun hc=>?_⟩;rw [fC ha,if_pos rfl,hs,if_neg];rintro ⟨hi,he⟩;have:=(hord hi).2.2 he;have hq:=(hord hi).1;rw [zew] at hq;omega
  ·right
   have hbad:jY p=false∨0<i∧okN q p=false:=by
    cases h3:jY p with
    |false=>exact .inl rfl
    |true=>
     refine .inr ?_;by_cases hi:0<i
     ·refine ⟨hi,?_⟩
      cases h4:okN q p with
      |false=>rfl
      |true=>exact absurd ⟨h3,fun _=>h4⟩ hgood
     ·exact absurd ⟨h3,fun h=>absurd h hi⟩ hgood
   refine ⟨hbad,?_⟩;by_cases hcmp:0<i∧((decide (p.Area<q.Area))||((decide (p.Area=q.Area))&&(decide (p.Category≤q.Category))))=true
   ·exact .inr hcmp
   ·left
    have hord:0<i→jY q=true∧q.Area≤p.Area∧(q.Area=p.Area→q.Category<p.Category):=by
     intro hi;have h5:¬((decide (p.Area<q.Area))||((decide (p.Area=q.Area))&&(decide (p.Category≤q.Category))))=true:=fun h=>hcmp ⟨hi,h⟩;simp only [Bool.or_eq_true,Bool.and_eq_true,decide_eq_true_eq] at h5;exact ⟨(hl hi).1,by omega,fun e=>by omega⟩
    rw [hsum hord];rcases hbad with hb|⟨hi,hb⟩
    ·rw [←Bool.not_eq_true,zew] at hb;rw [←Bool.not_eq_true];simp only [Bool.and_eq_true,decide_eq_true_eq];omega
    ·have h6:=hord hi;have hq:=h6.1;rw [zew] at hq;unfold okN at hb;rw [gx a7] at hb;simp only [Bool.not_eq_false',Bool.or_eq_true,Bool.and_eq_true,decide_eq_true_eq] at hb;rw [←Bool.not_eq_true];simp only [Bool.and_eq_true,decide_eq_true_eq]; (have he:q.Area=p.Area:=by omega);rw [if_pos ⟨hi,he⟩];have:=h6.2.2 he;omega
 ·refine ⟨(false,v),?_, .inr ⟨.inl ?_, .inl rfl⟩⟩
  ·rw [show ((((!(decide (0≤p.Area)&&decide (p.Area≤63)))||(!(decide (1≤p.Category)&&decide (p.Category≤2))))||(!(decide (1≤p.Supply)&&decide (p.Supply≤12)))))=true from ?_,cond_true];rw [←Bool.not_eq_false];simp only [Bool.or_eq_false_iff,Bool.not_eq_false',Bool.and_eq_true,decide_eq_true_eq];omega
  ·rw [←Bool.not_eq_true,zew];omega
theorem ii (l:List GProduct):zbO l=some (it l):=by
 unfold zbO zaV it;simp only [dF]
 have h:=zg6 (n:=l.length) (s:=Vec.fill 64 (0:Int)) (t:=())
  (f:=fun (i_5:Nat) (next4:Vec 64 Int→Option (Bool×Vec 64 Int)) (c_3:Vec 64 Int)=>
   (zcg (nth l i_5) c_3).bind fun r18=>
   (bif ((!r18.1)||((decide (0<(i_5:Int)))&&(decide (0≤(mq (nth l (((i_5:Int) - 1).toNat)) (nth l i_5)))))) then
    some (false,r18.2)
    else
    next4 r18.2)) (k:=fun c_3=>some (true,c_3))
  (g:=fun (i_3:Nat) (next2:Unit→Bool) (_:Unit)=>
   (bif ((((((((((decide ((nth l i_3).Area<0))||(decide (63<(nth l i_3).Area)))||(decide ((nth l i_3).Category<1)))||(decide (2<(nth l i_3).Category)))||(decide ((nth l i_3).Supply<1)))||(decide (12<(nth l i_3).Supply)))||(decide ((nth l i_3).Units<1)))||(decide (100000<(nth l i_3).Units)))||(decide ((nth l i_3).Reserve<0)))||(decide (549755813888<(nth l i_3).Reserve))) then
    false
    else
    (bif decide (0<(i_3:Int)) then
     (bif ((decide ((nth l i_3).Area<(nth l (((i_3:Int) - 1).toNat)).Area))||((decide ((nth l i_3).Area=(nth l (((i_3:Int) - 1).toNat)).Area))&&((decide ((nth l i_3).Category≤(nth l (((i_3:Int) - 1).toNat)).Category))||(decide (12<wI (((nth l i_3).Supply)+((nth l (((i_3:Int) - 1).toNat)).Supply))))))) then
      false
      else
      next2 ())
     else
     next2 ()))) (k':=fun _=>true)
  (fun i v _=>InvP l i v) (fun x y=>x.map (·.1)=some y)
  ⟨fun a ha _=>gq ha,fun h=>absurd h a7⟩ (fun _ _ _=>rfl) (fun i v t next next' hi hR hn=>by
   obtain ⟨r,hr,hc⟩:=zh9 hR; (try dsimp only);rw [hr,Option.bind_some,show ((i:Int) - 1).toNat=i - 1 by omega]; (have e1:decide (0<(i:Int))=decide (0<i):=by rw [Bool.eq_iff_iff];simp);rw [e1];rcases hc with ⟨h1,h2,h3,h4,h5⟩|⟨h1,h2⟩
   ·unfold jY at h1;rw [Bool.not_eq_true'] at h1;rw [h1,cond_false,h3,Bool.not_true,Bool.false_or];by_cases hi0:0<i
    ·have h6:=h2 hi0;unfold okN at h6;rw [Bool.not_eq_true'] at h6;rw [h6,h4 hi0,Bool.and_false,cond_false,cond_false,decide_eq_true hi0,cond_true];exact hn _ _ h5
    ·rw [decide_eq_false hi0,Bool.false_and,cond_false,cond_false];exact hn _ _ h5
   ·have e2:((!r.1)||((decide (0<i))&&(decide (0≤(mq (nth l (i - 1)) (nth l i))))))=true:=by
     rcases h2 with h2|⟨h2,h3⟩
     ·rw [h2];rfl
     ·rw [h3,decide_eq_true h2];simp
    rw [e2,cond_true];rcases h1 with h1|⟨h0,h1⟩
    ·unfold jY at h1;rw [Bool.not_eq_false'] at h1;rw [h1,cond_true];rfl
    ·unfold okN at h1;rw [Bool.not_eq_false'] at h1;rw [h1,decide_eq_true h0]
     cases (decide ((nth l i).Area<0)||decide (63<(nth l i).Area)||decide ((nth l i).Category<1)||decide (2<(nth l i).Category)||decide ((nth l i).Supply<1)||decide (12<(nth l i).Supply)||decide ((nth l i).Units<1)||decide (100000<(nth l i).Units)||decide ((nth l i).Reserve<0)||decide (549755813888<(nth l i).Reserve)) <;> rfl)
 generalize dq _ _ (l.length - 0) 0 (Vec.fill 64 (0:Int))=x at h ⊢;generalize dq _ _ (l.length - 0) 0 ()=y at h ⊢
 cases x with
 |none=>cases h
 |some x=>exact h
theorem jM {σ ρ:Type}(f:Nat→(σ→ρ)→σ→ρ)(k:σ→ρ)(m i:Nat)(s:σ):dq f k (m+1) i s=f i (dq f k m (i+1)) s:=rfl
theorem lW {σ ρ:Type}(f:(σ→Option ρ)→σ→Option ρ)(m:Nat)(s:σ):eS f (m+1) s=f (eS f m) s:=rfl
theorem zg1 {β ρ:Type}(g:Nat→β){f:Nat→(List β→ρ)→List β→ρ}{k:List β→ρ}{n:Nat}(hf:∀i next s,i<n→s.length=i→f i next s=next (s++[g i])):dq f k (n - 0) 0 []=k ((List.range n).map g):=by
 have key:∀m i,i+m=n→dq f k m i ((List.range i).map g)=k ((List.range n).map g):=by
  intro m
  induction m with
  |zero=>intro i e;rw [show i=n by omega];rfl
  |succ m ih=>
   intro i e;rw [jM,hf i _ _ a7 b6];rw [show (List.range i).map g++[g i]=(List.range (i+1)).map g by rw [List.range_succ,List.map_append];rfl];exact q4e
 exact key (n - 0) 0 a7
theorem gJ {β:Type}[Inhabited β]{g:Nat→β}{n j:Nat}(h:j<n):nth ((List.range n).map g) j=g j:=by
 rw [eZ (by simpa using h)];simp
theorem zhb {β:Type}[Inhabited β]{a b:List β}(hl:a.length=b.length)(h:∀j,j<a.length→nth a j=nth b j):a=b:=by
 refine List.ext_getElem hl fun i h1 h2=>?_;rw [←eZ h1,←eZ h2];exact h i h1
theorem zhY {l:List Int}{i:Nat}(h:i<l.length):l.set i (nth l i)=l:=by
 rw [eZ h];exact List.set_getElem_self h
theorem zfQ {ρ:Type}(g:Nat→Int→Int){f:Nat→(List Int→ρ)→List Int→ρ}{k:List Int→ρ}{n:Nat}{s0:List Int}(hs:s0.length=n)(hf:∀i next s,i<n→s.length=n→nth s i=nth s0 i→f i next s=next (s.set i (g i (nth s i)))):dq f k (n - 0) 0 s0=k ((List.range n).map fun i=>g i (nth s0 i)):=by
 have key:∀m i s,i+m=n→s.length=n→(∀j,j<n→nth s j=if j<i then g j (nth s0 j) else nth s0 j)→dq f k m i s=k ((List.range n).map fun i=>g i (nth s0 i)):=by
  intro m
  induction m with
  |zero=>
   intro i s e hl h;refine congrArg k (zhb (by simp [hl]) fun j hj=>?_);rw [h j a7,if_pos a7,gJ a7]
  |succ m ih=>
   intro i s e hl h;have h0:=h i a7;rw [if_neg a7] at h0;rw [jM,hf i _ _ a7 hl h0];refine ih (i+1) _ a7 (by rw [List.length_set];exact hl) fun j hj=>?_;rw [iW a7];by_cases e2:i=j
   ·subst e2;rw [if_pos rfl,if_pos a7,h0]
   ·rw [if_neg e2,h j hj];by_cases e3:j<i
    ·rw [if_pos e3,if_pos a7]
    ·rw [if_neg e3,if_neg a7]
 exact key (n - 0) 0 s0 a7 hs (fun j hj=>by rw [if_neg a7])
def fU (f:Nat→Int):Nat→Int
 |0=>0
 |n+1=>wI (fU f n+f n)
theorem zfN {f g:Nat→Int}:∀ {n:Nat},(∀i,i<n→f i=g i)→fU f n=fU g n
 |0,_=>rfl
 |n+1,h=>by rw [fU,fU,zfN (n:=n) (fun i hi=>h i a7),h n a7]
theorem zhl {f:Nat→Int}{c:Int}:∀ {n:Nat},(∀i,i<n→0≤f i∧f i≤c)→0≤c→(n:Int) *c≤9223372036854775807→0≤fU f n∧fU f n≤n*c
 |0,_,_,_=>by simp [fU]
 |n+1,h,hc,hb=>by
  (have e:((n+1:Nat):Int) *c=n*c+c:=by rw [Int.natCast_add,Int.add_mul];simp);rw [e] at hb ⊢;have ih:=zhl (n:=n) (fun i hi=>h i a7) hc a7;have h1:=h n a7;rw [fU,gx a7];omega
theorem ziX {ρ:Type}(g:Nat→Int){f:Nat→(Int→ρ)→Int→ρ}{k:Int→ρ}{n:Nat}(hf:∀i next s,i<n→f i next s=next (wI (s+g i))):dq f k (n - 0) 0 0=k (fU g n):=by
 have key:∀m i,i+m=n→dq f k m i (fU g i)=k (fU g n):=by
  intro m
  induction m with
  |zero=>intro i e;rw [show i=n by omega];rfl
  |succ m ih=>
   intro i e;rw [jM,hf i _ _ a7];exact q4e
 exact key (n - 0) 0 a7
theorem sum_x {fuel:Nat}{a b:List Int}(hl:a.length=b.length)(hf:a.length+2≤fuel):zfr fuel a b=some (fU (fun i=>wI (nth a i*nth b i)) a.length):=by
 unfold zfr;simp only [dF]
 have key:∀m i fu,i+m=a.length→m+1≤fu→eS (fun (next5:(Int×Int)→Option Int) (s5:Int×Int)=>
   (bif ((decide (s5.2<(a.length:Int)))&&(decide (s5.2<(b.length:Int)))) then
    dj (0≤s5.2∧s5.2<(a.length:Int)) <|
    next5 (wI (s5.1+(wI ((nth a s5.2.toNat) * (nth b s5.2.toNat)))),(s5.2+1))
    else
    some s5.1)) fu (fU (fun i=>wI (nth a i*nth b i)) i,(i:Int))=some (fU (fun i=>wI (nth a i*nth b i)) a.length):=by
  intro m
  induction m with
  |zero=>
   intro i fu e hfu;obtain ⟨fu,rfl⟩:∃q,fu=q+1:=⟨fu - 1,by omega⟩;rw [lW];dsimp only;rw [decide_eq_false a7,Bool.false_and,cond_false,show i=a.length by omega]
  |succ m ih=>
   intro i fu e hfu;obtain ⟨fu,rfl⟩:∃q,fu=q+1:=⟨fu - 1,by omega⟩;rw [lW];dsimp only;rw [decide_eq_true a7,decide_eq_true a7,Bool.and_self,cond_true,dJ a7,show ((i:Int)).toNat=i by omega];exact ih (i+1) fu a7 a7
 exact key a.length 0 fuel a7 a7
theorem zjR {l:List GProduct}(hn:l.length≤100):zee l=some ((List.range l.length).map fun i=>(nth l i).Units):=by
 unfold zee;simp only [dF]
 rw [zg1 (fun i=>(nth l i).Units) (fun i next s hi hs=>by
  rw [dJ (by unfold dm;rw [List.length_append,hs];simp;omega)])]
structure DemOk (l:List GProduct) (d:List Int):Prop where
 len:d.length=l.length
 bd:∀j,j<l.length→0≤nth d j∧nth d j≤(nth l j).Supply
theorem zlj (p:GProduct):((((((((((decide (p.Area<0))||(decide (63<p.Area)))||(decide (p.Category<1)))||(decide (2<p.Category)))||(decide (p.Supply<1)))||(decide (12<p.Supply)))||(decide (p.Units<1)))||(decide (100000<p.Units)))||(decide (p.Reserve<0)))||(decide (549755813888<p.Reserve)))= !jY p:=by unfold jY;rw [Bool.not_not]
theorem zgo {l:List GProduct}(h:it l=true):∀j,j<l.length→jY (nth l j)=true:=by
 have key:∀m i,i+m=l.length→dq (fun (i_3:Nat) (next2:Unit→Bool) (_:Unit)=>
   (bif ((((((((((decide ((nth l i_3).Area<0))||(decide (63<(nth l i_3).Area)))||(decide ((nth l i_3).Category<1)))||(decide (2<(nth l i_3).Category)))||(decide ((nth l i_3).Supply<1)))||(decide (12<(nth l i_3).Supply)))||(decide ((nth l i_3).Units<1)))||(decide (100000<(nth l i_3).Units)))||(decide ((nth l i_3).Reserve<0)))||(decide (549755813888<(nth l i_3).Reserve))) then
    false
    else
    (bif decide (0<(i_3:Int)) then
     (bif ((decide ((nth l i_3).Area<(nth l (((i_3:Int) - 1).toNat)).Area))||((decide ((nth l i_3).Area=(nth l (((i_3:Int) - 1).toNat)).Area))&&((decide ((nth l i_3).Category≤(nth l (((i_3:Int) - 1).toNat)).Category))||(decide (12<wI (((nth l i_3).Supply)+((nth l (((i_3:Int) - 1).toNat)).Supply))))))) then
      false
      else
      next2 ())
     else
     next2 ()))) (fun _=>true) m i ()=true→∀j,i≤j→j<l.length→jY (nth l j)=true:=by
  intro m
  induction m with
  |zero=>intro i hi _ j h1 h2;omega
  |succ m ih=>
   intro i hi h j h1 h2;rw [jM] at h; (try dsimp only at h);rw [zlj] at h
   have e:jY (nth l i)=true:=by
    cases hc:jY (nth l i) with
    |true=>rfl
    |false=>rw [hc] at h;cases h
   rw [e,Bool.not_true,cond_false] at h;have h9:=h;by_cases hj:j=i
   ·subst hj;exact e
   ·refine ih (i+1) a7 ?_ j a7 h2;generalize dq _ _ m (i+1) ()=y at h9 ⊢
    revert h9
    cases decide (0<(i:Int))
    ·exact id
    ·rw [cond_true];generalize (_||_:Bool)=z
     cases z
     ·exact id
     ·intro h;cases h
 unfold it at h;simp only [dF] at h;intro j hj;exact key (l.length - 0) 0 a7 h j a7 hj
theorem zg3 {l:List GProduct}(h:it l=true)(blocks:List Int):zdu l blocks=kD l blocks:=by
 unfold zdu kD;rw [h];by_cases hl:blocks.length=l.length
 ·rw [hl,decide_eq_false b6];rfl
 ·rw [decide_eq_true (show ¬(blocks.length:Int)=(l.length:Int) by omega)];rfl
theorem zjZ {l:List GProduct}{blocks:List Int}(h:kD l blocks=true):DemOk l blocks:=by
 unfold kD at h
 cases hc:(decide (¬(blocks.length:Int)=(l.length:Int))) with
 |true=>rw [hc] at h;cases h
 |false=>
  rw [hc,cond_false] at h;rw [decide_eq_false_iff_not] at hc;simp only [dF] at h
  rw [show blocks.length - 0=blocks.length from rfl,zhZ (fun i=>decide (0≤nth blocks i)&&decide (nth blocks i≤(nth l i).Supply)) (fun i next hi=>by
   cases hc2:((decide ((nth blocks i)<0))||(decide ((nth l i).Supply<(nth blocks i)))) with
   |true=>
    rw [cond_true];rw [Bool.or_eq_true,decide_eq_true_eq,decide_eq_true_eq] at hc2
    rw [show (decide (0≤nth blocks i)&&decide (nth blocks i≤(nth l i).Supply))=false by
     rw [←Bool.not_eq_true,Bool.and_eq_true,decide_eq_true_eq,decide_eq_true_eq];omega]
    rfl
   |false=>
    rw [cond_false];rw [Bool.or_eq_false_iff,decide_eq_false_iff_not,decide_eq_false_iff_not] at hc2;rw [decide_eq_true (show 0≤nth blocks i by omega),decide_eq_true (show nth blocks i≤(nth l i).Supply by omega)]
    rfl)] at h
  rw [Bool.and_true,List.all_eq_true] at h;refine ⟨by omega,fun j hj=>?_⟩;have:=h j (List.mem_range.2 a7);rw [Bool.and_eq_true,decide_eq_true_eq,decide_eq_true_eq] at this;exact this
def fy (l:List GProduct)(d:List Int):Int:=fU (fun i=>wI (nth d i* (nth l i).Units)) l.length
theorem zh5 {l:List GProduct}{d:List Int}(hd:d.length=l.length):zcb l d=some (fy l d):=by
 unfold zcb fy;simp only [dF];rw [hd];rw [ziX (fun i=>wI (nth d i* (nth l i).Units)) (fun i next s hi=>by rw [dJ a7])]
theorem ziW {fuel:Nat}{l:List GProduct}{d:List Int}(hp:it l=true)(hn:l.length≤100)(hf:200≤fuel)(h:kD l d=true):zc4 fuel l d=some (fy l d,0):=by
 have hd:=(zjZ h).len;unfold zc4;rw [zg3 hp,h,Bool.not_true,cond_false,zjR hn,Option.bind_some,sum_x (by simp [hd]) cM,Option.bind_some];rw [show ((List.range l.length).map fun i=>(nth l i).Units).length=l.length by simp];unfold fy;rw [zfN (fun i hi=>by rw [gJ hi,Int.mul_comm])]
theorem zgz {fuel:Nat}{l:List GProduct}{d:List Int}(h:zdu l d=false):zc4 fuel l d=some (0,2):=by
 unfold zc4;rw [h];rfl
structure BidOk (l:List GProduct) (b:GBidder):Prop where
 id:0≤b.ID∧b.ID≤31
 el:0≤b.Eligibility∧b.Eligibility≤76800000
 wa:0≤b.Waivers∧b.Waivers≤3
 dem:DemOk l b.Blocks
 un:fy l b.Blocks≤b.Eligibility
theorem zkA (b:GBidder)(i:Nat)(q:Int):(((((((decide (b.ID<0))||(decide (31<b.ID)))||(decide (b.Eligibility<0)))||(decide (76800000<b.Eligibility)))||(decide (b.Waivers<0)))||(decide (3<b.Waivers)))||((decide (0<(i:Int)))&&(decide (b.ID≤q))))= !decide ((0≤b.ID∧b.ID≤31∧0≤b.Eligibility∧b.Eligibility≤76800000∧0≤b.Waivers∧b.Waivers≤3)∧(0<i→q<b.ID)):=by
 rw [Bool.eq_iff_iff];simp only [Bool.or_eq_true,Bool.and_eq_true,decide_eq_true_eq,Bool.not_eq_true',decide_eq_false_iff_not];omega
theorem zgI {fuel:Nat}{l:List GProduct}{bs:List GBidder}(hn:l.length≤100)(hb:bs.length≤32)(hf:200≤fuel):
  ∃r,j6 l bs=some r∧zcS fuel l bs=some r∧(r=true→it l=true∧∀j,j<bs.length→BidOk l (nth bs j)):=by
 cases hp:it l with
 |false=>
  refine ⟨false,?_,?_,fun h=>by cases h⟩
  ·unfold j6;simp only [dF];rw [decide_eq_false a7,cond_false,ii,Option.bind_some,hp];rfl
  ·unfold zcS;simp only [dF];rw [hp];by_cases h0:bs.length=0
   ·rw [h0];rfl
   ·obtain ⟨m,hm⟩:∃m,bs.length - 0=m+1:=⟨bs.length - 1,by omega⟩;rw [hm,jM]; (try dsimp only);rw [zgz (by unfold zdu;rw [hp];rfl),Option.bind_some];generalize (_||_:Bool)=z
    cases z <;> rfl
 |true=>
  have h:=zg6 (n:=bs.length) (s:=(-1:Int)) (t:=())
   (f:=fun (i_8:Nat) (next7:Int→Option Bool) (last_6:Int)=>
     (bif ((decide ((nth bs i_8).ID≤last_6))||(decide (32≤(nth bs i_8).ID))) then
      some false
      else
      (bif ((((decide ((nth bs i_8).Eligibility<0))||(decide (76800000<(nth bs i_8).Eligibility)))||(decide ((nth bs i_8).Waivers<0)))||(decide (3<(nth bs i_8).Waivers))) then
       some false
       else
       dF (fun (x_16:Bool)=>
        (bif x_16 then
         some false
         else
         next7 ((nth bs i_8).ID)))
       (fun k17=>
        (bif !(kD l ((nth bs i_8).Blocks)) then
         k17 true
         else
         (zcb l ((nth bs i_8).Blocks)).bind fun r58=>
         k17 (decide ((nth bs i_8).Eligibility<r58))))))) (k:=fun _=>some true)
   (g:=fun (i_3:Nat) (next2:Unit→Option Bool) (_:Unit)=>
   (bif (((((((decide ((nth bs i_3).ID<0))||(decide (31<(nth bs i_3).ID)))||(decide ((nth bs i_3).Eligibility<0)))||(decide (76800000<(nth bs i_3).Eligibility)))||(decide ((nth bs i_3).Waivers<0)))||(decide (3<(nth bs i_3).Waivers)))||((decide (0<(i_3:Int)))&&(decide ((nth bs i_3).ID≤(nth bs (((i_3:Int) - 1).toNat)).ID)))) then
    some false
    else
    (zc4 fuel l ((nth bs i_3).Blocks)).bind fun r66=>
    (bif ((decide (¬r66.2=0))||(decide ((nth bs i_3).Eligibility<r66.1))) then
     some false
     else
     next2 ()))) (k':=fun _=>some true)
   (fun i last _=>(∀j,j<i→BidOk l (nth bs j))∧last=if i=0 then -1 else (nth bs (i - 1)).ID) (fun x y=>x=y∧∃r,x=some r∧(r=true→∀j,j<bs.length→BidOk l (nth bs j)))
   ⟨fun j hj=>absurd hj a7,rfl⟩ (fun s t hR=>⟨rfl,true,rfl,fun _=>hR.1⟩) (fun i last t next next' hi hR hn2=>by
    obtain ⟨hok,hlast⟩:=hR; (try dsimp only);rw [zkA,show ((i:Int) - 1).toNat=i - 1 by omega];have hprev:0<i→0≤(nth bs (i - 1)).ID:=fun h0=>(hok (i - 1) a7).id.1;generalize hbb:nth bs i=b at *;by_cases h1:last<b.ID∧b.ID≤31
    ·rw [show ((decide (b.ID≤last))||(decide (32≤b.ID)))=false by simp;omega,cond_false];by_cases h2:0≤b.Eligibility∧b.Eligibility≤76800000∧0≤b.Waivers∧b.Waivers≤3
     ·rw [show ((((decide (b.Eligibility<0))||(decide (76800000<b.Eligibility)))||(decide (b.Waivers<0)))||(decide (3<b.Waivers)))=false by simp;omega,cond_false]
      have hid:0≤b.ID∧(0<i→(nth bs (i - 1)).ID<b.ID):=by
       by_cases h0:i=0
       ·rw [if_pos h0] at hlast;exact ⟨by omega,fun h=>by omega⟩
       ·rw [if_neg h0] at hlast;have:=hprev a7;exact ⟨by omega,fun _=>by omega⟩
      rw [decide_eq_true (show (0≤b.ID∧b.ID≤31∧0≤b.Eligibility∧b.Eligibility≤76800000∧0≤b.Waivers∧b.Waivers≤3)∧(0<i→(nth bs (i - 1)).ID<b.ID) from ⟨by omega,hid.2⟩),Bool.not_true,cond_false];simp only [dF]
      cases hfit:kD l b.Blocks with
      |false=>
       rw [zgz (by rw [zg3 hp];exact hfit),Option.bind_some];exact ⟨rfl,false,rfl,fun h=>by cases h⟩
      |true=>
       rw [ziW hp hn hf hfit,zh5 (zjZ hfit).len,Option.bind_some,Bool.not_true,cond_false,Option.bind_some];dsimp only;rw [decide_eq_false (show ¬ ¬(0:Int)=0 by simp),Bool.false_or];by_cases hu:b.Eligibility<fy l b.Blocks
       ·rw [decide_eq_true hu];exact ⟨rfl,false,rfl,fun h=>by cases h⟩
       ·rw [decide_eq_false hu,cond_false,cond_false];refine hn2 _ _ ⟨fun j hj=>?_,?_⟩
        ·by_cases e:j=i
         ·subst e;rw [hbb];exact ⟨⟨hid.1,h1.2⟩,⟨h2.1,h2.2.1⟩,h2.2.2,zjZ hfit,by omega⟩
         ·exact hok j a7
        ·rw [if_neg a7,show i+1 - 1=i by omega,hbb]
     ·rw [show ((((decide (b.Eligibility<0))||(decide (76800000<b.Eligibility)))||(decide (b.Waivers<0)))||(decide (3<b.Waivers)))=true by simp;omega,cond_true];rw [decide_eq_false (by rintro ⟨h,_⟩;omega)];exact ⟨rfl,false,rfl,fun h=>by cases h⟩
    ·rw [show ((decide (b.ID≤last))||(decide (32≤b.ID)))=true by simp;omega,cond_true]
     rw [decide_eq_false (by
      rintro ⟨h,h3⟩;by_cases h0:i=0
      ·rw [if_pos h0] at hlast;omega
      ·rw [if_neg h0] at hlast;have:=h3 a7;omega)]
     exact ⟨rfl,false,rfl,fun h=>by cases h⟩)
  obtain ⟨he,r,hr,hall⟩:=h;refine ⟨r,?_,?_,fun h=>⟨rfl,hall h⟩⟩
  ·unfold j6;simp only [dF];rw [decide_eq_false a7,cond_false,ii,Option.bind_some,hp,Bool.not_true,cond_false];exact hr
  ·unfold zcS;simp only [dF];rw [hp];exact he▸hr
def fT (bs:List GBidder)(j:Nat):Int:=fU (fun k=>nth (nth bs k).Blocks j) bs.length
theorem lK {l:List GProduct}(h:it l=true){j:Nat}(hj:j<l.length):1≤(nth l j).Supply∧(nth l j).Supply≤12:=by
 have:=zgo h j hj;rw [zew] at this;omega
structure Val (l:List GProduct) (bs:List GBidder):Prop where
 n:l.length≤100
 m:bs.length≤32
 prods:it l=true
 bids:∀j,j<bs.length→BidOk l (nth bs j)
 prog:j6 l bs=some true
 ref:∀fuel,200≤fuel→zcS fuel l bs=some true
theorem zkX {l:List GProduct}{bs:List GBidder}(hn:l.length≤100)(hm:bs.length≤32)(h:j6 l bs=some true):Val l bs:=by
 have key:∀fuel,200≤fuel→zcS fuel l bs=some true:=fun fuel hf=>by
  obtain ⟨r,h1,h2,_⟩:=zgI (bs:=bs) hn hm hf;rw [h] at h1
  cases h1;exact h2
 obtain ⟨r,h1,_,h3⟩:=zgI (fuel:=200) (bs:=bs) hn hm (Nat.le_refl _);rw [h] at h1
 cases h1
 exact ⟨hn,hm,(h3 rfl).1,(h3 rfl).2,h,key⟩
theorem Val.blk {l:List GProduct}{bs:List GBidder}(h:Val l bs){k j:Nat}(hk:k<bs.length)(hj:j<l.length):0≤nth (nth bs k).Blocks j∧nth (nth bs k).Blocks j≤12:=by
 have h1:=(h.bids k hk).dem.bd j hj;have h2:=lK h.prods hj;omega
theorem Val.tot_bd {l:List GProduct}{bs:List GBidder}(h:Val l bs){j:Nat}(hj:j<l.length):0≤fT bs j∧fT bs j≤384:=by
 have h1:=zhl (f:=fun k=>nth (nth bs k).Blocks j) (c:=12) (n:=bs.length) (fun k hk=>h.blk hk hj) a7 (by have:=h.m;omega);have:=h.m;unfold fT;omega
theorem ziq {l:List GProduct}{bs:List GBidder}(h:Val l bs):zct l bs=some ((List.range l.length).map (fT bs),0):=by
 unfold zct;rw [h.prog,Option.bind_some,Bool.not_true,cond_false,dJ (by have:=h.n;unfold dm;omega)];simp only [dF]
 have key:∀m i,i+m=bs.length→dq (fun (i_6:Nat) (next5:List Int→Option (List Int×Int)) (l_4:List Int)=>
    dq (fun (i_10:Nat) (next9:List Int→Option (List Int×Int)) (l_8:List Int)=>
     dj (0≤(i_10:Int)∧(i_10:Int)<(l_8.length:Int)) <|
     next9 (l_8.set i_10 (wI ((nth l_8 i_10)+(nth ((nth bs i_6).Blocks) i_10)))))
    (fun (l_8:List Int)=>
     next5 l_8) ((((nth bs i_6).Blocks).length) - 0) 0 l_4) (fun l_4=>some (l_4,0)) m i ((List.range l.length).map fun j=>fU (fun k=>nth (nth bs k).Blocks j) i)=some ((List.range l.length).map (fT bs),0):=by
  intro m
  induction m with
  |zero=>intro i e;rw [show i=bs.length by omega];rfl
  |succ m ih=>
   intro i e;have hl:=(h.bids i a7).dem.len;rw [jM]; (try dsimp only);rw [hl]
   rw [zfQ (n:=l.length) (fun j x=>wI (x+nth (nth bs i).Blocks j)) b6 (fun j next s hj hs he=>by
    rw [dJ a7])]
   rw [←ih (i+1) a7];refine congrArg _ (List.map_congr_left fun j hj=>?_);have hj:=List.mem_range.1 hj; (try dsimp only);rw [gJ hj];rfl
 have h0:List.replicate l.length (0:Int)=(List.range l.length).map fun j=>fU (fun k=>nth (nth bs k).Blocks j) 0:=by
  refine List.ext_getElem b6 fun i h1 h2=>?_;simp [fU]
 rw [h0];exact key (bs.length - 0) 0 a7
def kx (l:List GProduct)(bs:List GBidder)(j:Nat):Int:=max (wI (fT bs j - (nth l j).Supply)) 0
theorem zkC {l:List GProduct}{bs:List GBidder}(h:Val l bs):zcT l ((List.range l.length).map (fT bs))=some ((List.range l.length).map (kx l bs),0):=by
 unfold zcT;rw [ii,Option.bind_some,h.prods];rw [show (!true||decide (¬(((List.range l.length).map (fT bs)).length:Int)=(l.length:Int)))=false by simp,cond_false,dJ (by have:=h.n;unfold dm;omega)];simp only [dF];rw [show ((List.range l.length).map (fT bs)).length=l.length by simp]
 rw [zfQ (n:=l.length) (fun j x=>kx l bs j) b6 (fun j next s hj hs he=>by
  have:=h.tot_bd hj;rw [gJ hj,decide_eq_false a7,decide_eq_false a7,Bool.or_self,cond_false,dJ a7]
  rfl)]
structure Good (a:GAuction):Prop where
 val:Val a.catalogue a.bidders
 key:1≤a.key.length
 plen:a.prices.length=a.catalogue.length
 pbd:∀j,j<a.catalogue.length→0≤nth a.prices j∧nth a.prices j≤1099511627776
 step:1≤a.increment.Step∧a.increment.Step≤50
 rm:jy a.bidders
section
variable {a:GAuction}(h:Good a)
theorem zg0 (h:Good a):lj a=false:=by
 unfold lj;exact decide_eq_false (by have:=h.key;omega)
theorem zlV (h:Good a):zaA a=some ((List.range a.catalogue.length).map (fT a.bidders)):=by
 unfold zaA;rw [ziq h.val];rfl
theorem zlo (h:Good a):zat a=some ((List.range a.catalogue.length).map (kx a.catalogue a.bidders)):=by
 unfold zat;rw [zg0 h,cond_false,zlV h,Option.bind_some,zkC h.val];rfl
def clk (a:GAuction)(j:Nat):Int:=if 0<kx a.catalogue a.bidders j then wI (nth a.prices j+max (wI (nth a.prices j*a.increment.Step) / 100) 1) else nth a.prices j
theorem ll {p s:Int}(h1:0≤p∧p≤1099511627776)(h2:1≤s∧s≤50):0≤p*s∧p*s≤54975581388800:=by
 refine ⟨Int.mul_nonneg h1.1 a7,?_⟩;have:=Int.mul_le_mul h1.2 h2.2 a7 (by omega:(0:Int)≤1099511627776);omega
theorem ziS (h:Good a):zaJ a=some ((List.range a.catalogue.length).map (clk a)):=by
 unfold zaJ;rw [zg0 h,cond_false,dJ (by have:=h.val.n;rw [h.plen];unfold dm;omega),zlo h,Option.bind_some];simp only [dF];rw [show ((List.range a.catalogue.length).map (kx a.catalogue a.bidders)).length=a.catalogue.length by simp]
 rw [zfQ (n:=a.catalogue.length) (fun j x=>if 0<kx a.catalogue a.bidders j then wI (x+max (wI (x*a.increment.Step) / 100) 1) else x) h.plen (fun j next s hj hs he=>by
  have h1:=ll (h.pbd j hj) h.step;rw [gJ hj];by_cases hc:0<kx a.catalogue a.bidders j
  ·rw [decide_eq_true hc,cond_true,dJ a7,he,gx a7,dJ a7,if_pos hc]
  ·rw [decide_eq_false hc,cond_false,if_neg hc,zhY a7])]
 rfl
theorem ziY (s:List Int):zaK s=(List.range s.length).any fun i=>decide (0<nth s i):=by
 unfold zaK zbm za5;simp only [dF]
 have key:∀m i,i+m=s.length→decide (0≤dq (fun (i_3:Nat) (next2:Unit→Int) (_:Unit)=>(bif (decide (0<nth s i_3)) then (i_3:Int) else next2 ())) (fun _=>(-1)) m i ())=(List.range' i m).any fun i=>decide (0<nth s i):=by
  intro m
  induction m with
  |zero=>intro i _;rfl
  |succ m ih=>
   intro i e;rw [jM,List.range'_succ,List.any_cons]; (try dsimp only)
   cases decide (0<nth s i) with
   |true=>rw [cond_true,Bool.true_or];exact decide_eq_true a7
   |false=>rw [cond_false,Bool.false_or];exact q4e
 rw [List.range_eq_range'];exact key (s.length - 0) 0 a7
theorem zlT (h:Good a):zaS a=some (!(List.range a.catalogue.length).any fun i=>decide (0<kx a.catalogue a.bidders i)):=by
 unfold zaS;simp only [dF];rw [zg0 h,Bool.not_false,cond_true,zlo h,Option.bind_some,ziY];rw [show ((List.range a.catalogue.length).map (kx a.catalogue a.bidders)).length=a.catalogue.length by simp];refine congrArg some (congrArg _ ?_);rw [Bool.eq_iff_iff,List.any_eq_true,List.any_eq_true];constructor
 ·rintro ⟨i,h1,h2⟩;rw [gJ (List.mem_range.1 h1)] at h2;exact ⟨i,h1,h2⟩
 ·rintro ⟨i,h1,h2⟩;exact ⟨i,h1,by rw [gJ (List.mem_range.1 h1)];exact h2⟩
end
theorem zht (bs:List GBidder)(id:Int):ff bs id= -1∨0≤ff bs id∧ff bs id<bs.length:=by
 unfold ff;simp only [dF]
 have key:∀m i,i+m=bs.length→(dq (fun (i_3:Nat) (next2:Unit→Int) (_:Unit)=>(bif decide ((nth bs i_3).ID=id) then (i_3:Int) else next2 ())) (fun _=>(-1)) m i ()= -1∨0≤dq (fun (i_3:Nat) (next2:Unit→Int) (_:Unit)=>(bif decide ((nth bs i_3).ID=id) then (i_3:Int) else next2 ())) (fun _=>(-1)) m i ()∧dq (fun (i_3:Nat) (next2:Unit→Int) (_:Unit)=>(bif decide ((nth bs i_3).ID=id) then (i_3:Int) else next2 ())) (fun _=>(-1)) m i ()<bs.length):=by
  intro m
  induction m with
  |zero=>intro i _;exact .inl rfl
  |succ m ih=>
   intro i e;rw [jM]; (try dsimp only)
   cases decide ((nth bs i).ID=id) with
   |true=>rw [cond_true];exact .inr a7
   |false=>rw [cond_false];exact q4e
 exact key (bs.length - 0) 0 a7
def cutV:Value→Nat→Value
 | .slice none _ _,_=> .slice none 0 0
 | .slice (some A) _ _,m=> .slice (some A) m m
 |v,_=>v
instance {v:Value} {m:Nat} [h:OneC v]:OneC (cutV v m):=by
 unfold cutV
 split <;> first|exact inferInstance|exact h
section
variable {P:Program}{n:Nat}{B D:World}{M S0:Nat→Prop}{fs:eb}{hs:HS}{o:Oper}{e ei:TypeId}{v:Value}{vs:List Value}{xs:List GBidder}
end
def zeu (l:List GProduct)(bidders:List GBidder)(i:GIncrement)(key:List Int):Option (Option GAuction×Int):=
 (zbO l).bind fun r14=>
 dF (fun (x_1:Bool)=>
 (bif x_1 then
 some (none,2)
 else
 dj (dm l.length 40) <|
 dj (jy bidders) <|
 dj (dm key.length 1) <|
 dF (fun (c_8:List Int)=>
 some (some (GAuction.mk l bidders (GIncrement.mk i.Activity i.Step) key 0 c_8),0))
 (fun k9=>
 dq (fun (i_12:Nat) (next11:List Int→Option (Option GAuction×Int)) (c_10:List Int)=>
 dj (dm (c_10++[(nth l i_12).Reserve]).length 8) <|
 next11 (c_10++[(nth l i_12).Reserve]))
 (fun (c_10:List Int)=>
 k9 c_10) (l.length - 0) 0 [])))
 (fun k2=>
 (bif !r14 then
 k2 true
 else
 (j6 l bidders).bind fun r19=>
 (bif !r19 then
 k2 true
 else
 (bif !(zbz i) then
 k2 true
 else
 (bif decide ((key.length:Int)<1) then
 k2 true
 else
 k2 (decide (32<(key.length:Int))))))))
theorem zjX (n:Nat):zcr (n+100)=some true:=by kernel_rfl
theorem zjy {fuel:Nat}(hf:100≤fuel):zcr fuel=some true:=by
 obtain ⟨n,rfl⟩:∃n,fuel=n+100:=⟨fuel - 100,by omega⟩;exact zjX n
theorem zl0 {l:List GProduct}{bs:List GBidder}{key:List Int}{rounds:List (List GBid)}(h:zcI l bs key rounds=true):l.length≤10∧bs.length≤6∧key.length≤40∧rounds.length≤4:=by
 unfold zcI at h
 cases hc:((((decide (10<(l.length:Int)))||(decide (6<(bs.length:Int))))||(decide (40<(key.length:Int))))||(decide (4<(rounds.length:Int)))) with
 |true=>rw [hc] at h;cases h
 |false=>
  simp only [Bool.or_eq_false_iff,decide_eq_false_iff_not] at hc;omega
def ir (l:List GProduct)(bs:List GBidder)(i:GIncrement)(key:List Int):GAuction:=⟨l,bs,⟨i.Activity,i.Step⟩,key,0,(List.range l.length).map fun j=>(nth l j).Reserve⟩
def mz (l:List GProduct)(bs:List GBidder)(i:GIncrement)(key:List Int)(r:Bool):Bool:=r&&zbZ i&&decide (1≤key.length)&&decide (key.length≤32)
theorem zlH {l:List GProduct}{bs:List GBidder}{i:GIncrement}{key:List Int}(hn:l.length≤100)(hm:bs.length≤32)(hk:key.length≤100)(hr:jy bs){r:Bool}(h:j6 l bs=some r)(hv:r=true→it l=true):
  zeu l bs i key=some (bif mz l bs i key r then (some (ir l bs i key),0) else (none,2)):=by
 unfold zeu mz;simp only [dF];rw [ii,Option.bind_some];have e1:zbz i=zbZ i:=rfl
 cases hp:it l with
 |false=>
  cases r with
  |true=>rw [hv rfl] at hp;cases hp
  |false=>rfl
 |true=>
  rw [Bool.not_true,cond_false,h,Option.bind_some]
  cases r with
  |false=>rfl
  |true=>
   rw [Bool.not_true,cond_false,e1,Bool.true_and]
   cases zbZ i with
   |false=>rfl
   |true=>
    rw [Bool.not_true,cond_false,Bool.true_and];by_cases h1:(key.length:Int)<1
    ·rw [decide_eq_true h1,cond_true,cond_true,decide_eq_false (show ¬1≤key.length by omega)];rfl
    ·rw [decide_eq_false h1,cond_false,decide_eq_true (show 1≤key.length by omega),Bool.true_and];by_cases h2:(32:Int)<key.length
     ·rw [decide_eq_true h2,cond_true,decide_eq_false (show ¬key.length≤32 by omega)];rfl
     ·rw [decide_eq_false h2,cond_false,decide_eq_true (show key.length≤32 by omega),cond_true,dJ (by unfold dm;omega),dJ hr,dJ (by unfold dm;omega)]
      rw [zg1 (fun j=>(nth l j).Reserve) (fun j next s hj hs=>by
       rw [dJ (by unfold dm;rw [List.length_append,hs];simp;omega)])]
      rfl
theorem zkz {l:List GProduct}{bs:List GBidder}{i:GIncrement}{key:List Int}(hv:Val l bs)(hr:jy bs)(hi:zbZ i=true)(hk:1≤key.length):Good (ir l bs i key):=by
 unfold zbZ at hi;simp only [Bool.and_eq_true,decide_eq_true_eq] at hi;refine ⟨hv,hk,by simp [ir],fun j hj=>?_,by exact ⟨hi.1.2,hi.2⟩,hr⟩;have h1:=zgo hv.prods j hj;rw [zew] at h1;unfold ir at hj ⊢;dsimp only at hj ⊢;rw [gJ hj];omega
def jr (x:Int)(n:Int):Int:=orK .u32 (shrK .u32 x n) (shlK .u32 x (32 - n))
theorem zgk (k:IntKind)(a b:Int):orK k a b=orK k b a:=by unfold orK;rw [BitVec.or_comm]
theorem rot16 (x:Int):jj x (-16)=jr x 16:=by unfold jr;rw [zgk];rfl
theorem rot12 (x:Int):jj x (-12)=jr x 12:=by unfold jr;rw [zgk];rfl
theorem rot8 (x:Int):jj x (-8)=jr x 8:=by unfold jr;rw [zgk];rfl
theorem rot7 (x:Int):jj x (-7)=jr x 7:=by unfold jr;rw [zgk];rfl
def zlX (v:Vec 16 Int)(a b c d:Nat)(x r1 r2:Int):Vec 16 Int:=
 let u1:=Vec.put v a (IntKind.u32.wrap (Vec.get v a+IntKind.u32.wrap (Vec.get v b+x)))
 let u2:=Vec.put u1 d (jr (xorK .u32 (Vec.get u1 d) (Vec.get u1 a)) r1)
 let u3:=Vec.put u2 c (IntKind.u32.wrap (Vec.get u2 c+Vec.get u2 d))
 Vec.put u3 b (jr (xorK .u32 (Vec.get u3 b) (Vec.get u3 c)) r2)
def jq (v:Vec 16 Int)(a b c d:Nat)(x y:Int):Vec 16 Int:=zlX (zlX v a b c d x 16 12) a b c d y 8 7
theorem zfA {α β:Type}(e:α)(k:α→β):ip e k=k e:=by unfold ip;rfl
theorem mix_x {v:Vec 16 Int}{a b c d:Nat}{x y:Int}(h:a<16∧b<16∧c<16∧d<16):ju v (a:Int) (b:Int) (c:Int) (d:Int) x y=some (jq v a b c d x y):=by
 unfold ju;rw [dJ a7,dJ a7];simp only [zfA];rw [dJ a7,dJ a7];simp only [Int.toNat_natCast,rot16,rot12,rot8,rot7]
 rfl
def rowV (m row v:Vec 16 Int):Vec 16 Int:=
 let g:=fun k=>Vec.get m (Vec.get row k).toNat
 jq (jq (jq (jq (jq (jq (jq (jq v 0 4 8 12 (g 0) (g 1)) 1 5 9 13 (g 2) (g 3)) 2 6 10 14 (g 4) (g 5)) 3 7 11 15 (g 6) (g 7)) 0 5 10 15 (g 8) (g 9)) 1 6 11 12 (g 10) (g 11)) 2 7 8 13 (g 12) (g 13)) 3 4 9 14 (g 14) (g 15)
def zik (m v:Vec 16 Int):Vec 16 Int:=(List.range 10).foldl (fun v i=>rowV m (nth blOrder i) v) v
def zll (b:Nat→Int)(i:Nat):Int:=orK .u32 (orK .u32 (orK .u32 (IntKind.u32.wrap (b (4*i))) (shlK .u32 (IntKind.u32.wrap (b (4*i+1))) 8)) (shlK .u32 (IntKind.u32.wrap (b (4*i+2))) 16)) (shlK .u32 (IntKind.u32.wrap (b (4*i+3))) 24)
def zj2 (b:Nat→Int):Vec 16 Int:=(List.range 16).foldl (fun v i=>Vec.put v i (zll b i)) (Vec.fill 16 0)
def zlq (s:Vec 8 Int):Vec 16 Int:=(List.range 8).foldl (fun v i=>Vec.put v (8+i) (Vec.get eB i)) (Vec.blit (Vec.fill 16 0) 0 s.1)
def zjj (v:Vec 16 Int)(t:BitVec 64)(last:Bool):Vec 16 Int:=
 bif last then Vec.put (Vec.put (Vec.put v 12 (xorK .u32 (Vec.get v 12) (IntKind.u32.wrap (t.toNat:Int)))) 13 (xorK .u32 (Vec.get (Vec.put v 12 (xorK .u32 (Vec.get v 12) (IntKind.u32.wrap (t.toNat:Int)))) 13) (IntKind.u32.wrap ((t >>> 32).toNat:Int)))) 14 (xorK .u32 (Vec.get (Vec.put (Vec.put v 12 (xorK .u32 (Vec.get v 12) (IntKind.u32.wrap (t.toNat:Int)))) 13 (xorK .u32 (Vec.get (Vec.put v 12 (xorK .u32 (Vec.get v 12) (IntKind.u32.wrap (t.toNat:Int)))) 13) (IntKind.u32.wrap ((t >>> 32).toNat:Int)))) 14) 4294967295)
 else Vec.put (Vec.put v 12 (xorK .u32 (Vec.get v 12) (IntKind.u32.wrap (t.toNat:Int)))) 13 (xorK .u32 (Vec.get (Vec.put v 12 (xorK .u32 (Vec.get v 12) (IntKind.u32.wrap (t.toNat:Int)))) 13) (IntKind.u32.wrap ((t >>> 32).toNat:Int)))
def endV (s:Vec 8 Int)(v:Vec 16 Int):Vec 8 Int:=(List.range 8).foldl (fun s i=>Vec.put s i (xorK .u32 (Vec.get s i) (xorK .u32 (Vec.get v i) (Vec.get v (i+8))))) s
def zhT (s:Vec 8 Int)(b:Nat→Int)(t:BitVec 64)(last:Bool):Vec 8 Int:=endV s (zik (zj2 b) (zjj (zlq s) t last))
theorem zj8:∀i:Fin 10,∀k:Fin 16,0≤Vec.get (nth blOrder i.val) k.val∧Vec.get (nth blOrder i.val) k.val<16:=by decide +kernel
theorem zjr {i k:Nat}(hi:i<10)(hk:k<16):0≤Vec.get (nth blOrder i) k∧Vec.get (nth blOrder i) k<16:=zj8 ⟨i,hi⟩ ⟨k,hk⟩
theorem zdD {σ ρ:Type}{f:Nat→(σ→ρ)→σ→ρ}{k:σ→ρ}{n:Nat}{s:σ}(g:Nat→σ→σ)(hf:∀i next s,i<n→f i next s=next (g i s)):dq f k (n - 0) 0 s=k ((List.range n).foldl (fun s i=>g i s) s):=ziV g hf
theorem zej {σ ρ:Type}(k:σ→ρ)(e:(σ→ρ)→ρ):dF k e=e k:=by unfold dF;rfl
theorem zjd {σ ρ:Type}(k:σ→ρ)(b:Bool)(x y:σ):dF k (fun k2=>bif b then k2 x else k2 y)=k (bif b then x else y):=by unfold dF;cases b <;> rfl
theorem mix_i {v:Vec 16 Int}{a b c d:Int}{x y:Int}(h:(0≤a∧a<16)∧(0≤b∧b<16)∧(0≤c∧c<16)∧(0≤d∧d<16)):ju v a b c d x y=some (jq v a.toNat b.toNat c.toNat d.toNat x y):=by
 have:=mix_x (v:=v) (a:=a.toNat) (b:=b.toNat) (c:=c.toNat) (d:=d.toNat) (x:=x) (y:=y) a7;rw [show ((a.toNat:Nat):Int)=a by omega,show ((b.toNat:Nat):Int)=b by omega,show ((c.toNat:Nat):Int)=c by omega,show ((d.toNat:Nat):Int)=d by omega] at this;exact this
theorem zhH {α β:Type}{x:Option α}{a:α}{f:α→Option β}(h:x=some a):x.bind f=f a:=by rw [h];rfl
theorem row_x {i:Nat}(hi:i<10){m v:Vec 16 Int}{R:Type}(next:Vec 16 Int→Option R):
  (dj (0≤(Vec.get (nth blOrder i) 0)∧(Vec.get (nth blOrder i) 0)<(16:Int)) <|
   dj (0≤(Vec.get (nth blOrder i) 1)∧(Vec.get (nth blOrder i) 1)<(16:Int)) <|
   (ju v 0 4 8 12 (Vec.get m ((Vec.get (nth blOrder i) 0).toNat)) (Vec.get m ((Vec.get (nth blOrder i) 1).toNat))).bind fun r103=>
   dj (0≤(Vec.get (nth blOrder i) 2)∧(Vec.get (nth blOrder i) 2)<(16:Int)) <|
   dj (0≤(Vec.get (nth blOrder i) 3)∧(Vec.get (nth blOrder i) 3)<(16:Int)) <|
   (ju r103 1 5 9 13 (Vec.get m ((Vec.get (nth blOrder i) 2).toNat)) (Vec.get m ((Vec.get (nth blOrder i) 3).toNat))).bind fun r112=>
   dj (0≤(Vec.get (nth blOrder i) 4)∧(Vec.get (nth blOrder i) 4)<(16:Int)) <|
   dj (0≤(Vec.get (nth blOrder i) 5)∧(Vec.get (nth blOrder i) 5)<(16:Int)) <|
   (ju r112 2 6 10 14 (Vec.get m ((Vec.get (nth blOrder i) 4).toNat)) (Vec.get m ((Vec.get (nth blOrder i) 5).toNat))).bind fun r121=>
   dj (0≤(Vec.get (nth blOrder i) 6)∧(Vec.get (nth blOrder i) 6)<(16:Int)) <|
   dj (0≤(Vec.get (nth blOrder i) 7)∧(Vec.get (nth blOrder i) 7)<(16:Int)) <|
   (ju r121 3 7 11 15 (Vec.get m ((Vec.get (nth blOrder i) 6).toNat)) (Vec.get m ((Vec.get (nth blOrder i) 7).toNat))).bind fun r130=>
   dj (0≤(Vec.get (nth blOrder i) 8)∧(Vec.get (nth blOrder i) 8)<(16:Int)) <|
   dj (0≤(Vec.get (nth blOrder i) 9)∧(Vec.get (nth blOrder i) 9)<(16:Int)) <|
   (ju r130 0 5 10 15 (Vec.get m ((Vec.get (nth blOrder i) 8).toNat)) (Vec.get m ((Vec.get (nth blOrder i) 9).toNat))).bind fun r139=>
   dj (0≤(Vec.get (nth blOrder i) 10)∧(Vec.get (nth blOrder i) 10)<(16:Int)) <|
   dj (0≤(Vec.get (nth blOrder i) 11)∧(Vec.get (nth blOrder i) 11)<(16:Int)) <|
   (ju r139 1 6 11 12 (Vec.get m ((Vec.get (nth blOrder i) 10).toNat)) (Vec.get m ((Vec.get (nth blOrder i) 11).toNat))).bind fun r148=>
   dj (0≤(Vec.get (nth blOrder i) 12)∧(Vec.get (nth blOrder i) 12)<(16:Int)) <|
   dj (0≤(Vec.get (nth blOrder i) 13)∧(Vec.get (nth blOrder i) 13)<(16:Int)) <|
   (ju r148 2 7 8 13 (Vec.get m ((Vec.get (nth blOrder i) 12).toNat)) (Vec.get m ((Vec.get (nth blOrder i) 13).toNat))).bind fun r157=>
   dj (0≤(Vec.get (nth blOrder i) 14)∧(Vec.get (nth blOrder i) 14)<(16:Int)) <|
   dj (0≤(Vec.get (nth blOrder i) 15)∧(Vec.get (nth blOrder i) 15)<(16:Int)) <|
   (ju r157 3 4 9 14 (Vec.get m ((Vec.get (nth blOrder i) 14).toNat)) (Vec.get m ((Vec.get (nth blOrder i) 15).toNat))).bind fun r166=>
   next r166)=next (rowV m (nth blOrder i) v):=by
 have o:=fun k (hk:k<16)=>zjr hi hk;have hm:=fun (v:Vec 16 Int) (a b c d:Int) (x y:Int) h=>mix_i (v:=v) (a:=a) (b:=b) (c:=c) (d:=d) (x:=x) (y:=y) h
 rw [dJ (o 0 a8),dJ (o 1 a8),zhH (hm _ 0 4 8 12 _ _ a8),dJ (o 2 a8),dJ (o 3 a8),zhH (hm _ 1 5 9 13 _ _ a8),
  dJ (o 4 a8),dJ (o 5 a8),zhH (hm _ 2 6 10 14 _ _ a8),dJ (o 6 a8),dJ (o 7 a8),zhH (hm _ 3 7 11 15 _ _ a8),
  dJ (o 8 a8),dJ (o 9 a8),zhH (hm _ 0 5 10 15 _ _ a8),dJ (o 10 a8),dJ (o 11 a8),zhH (hm _ 1 6 11 12 _ _ a8),
  dJ (o 12 a8),dJ (o 13 a8),zhH (hm _ 2 7 8 13 _ _ a8),dJ (o 14 a8),dJ (o 15 a8),zhH (hm _ 3 4 9 14 _ _ a8)]
 rfl
theorem zgs {x:GHash}{g:Nat→Vec 8 Int→Vec 8 Int}:∀(l:List Nat) (s:Vec 8 Int),l.foldl (fun (s:Bool×Vec 8 Int×Vec 64 Int×Int×BitVec 64×Int) i=>(s.1,g i s.2.1,s.2.2.1,s.2.2.2.1,s.2.2.2.2.1,s.2.2.2.2.2)) (x.made,s,x.block,x.fill,x.before,x.written)=(x.made,l.foldl (fun s i=>g i s) s,x.block,x.fill,x.before,x.written)
 | [],_=>rfl
 |i :: l,s=>by rw [List.foldl_cons,List.foldl_cons,zgs l (g i s)]
theorem zgY {x:GHash}{t:BitVec 64}{last:Bool}:zaX x t last=some ⟨x.made,zhT x.state (Vec.get x.block) t last,x.block,x.fill,x.before,x.written⟩:=by
 unfold zaX
 rw [zej,zdD (n:=16) (fun i v=>Vec.put v i (zll (Vec.get x.block) i)) (fun i next s hi=>by
  have w1:wI (4* (i:Int))=4* (i:Int):=IntWalk.i64_in _ a7;have w2:wI (4* (i:Int)+4)=4* (i:Int)+4:=IntWalk.i64_in _ a7;rw [w1,w2,dJ a7,dJ a7,dJ a7,dJ a7,dJ a7,dJ a7,dJ a7,show (4* (i:Int)).toNat=4*i by omega]
  rfl)]
 rw [show ((List.range 16).foldl (fun v i=>Vec.put v i (zll (Vec.get x.block) i)) (Vec.fill 16 0))=zj2 (Vec.get x.block) from rfl];unfold zhT;generalize zj2 (Vec.get x.block)=m; (try dsimp only);rw [zej,zdD (n:=8) (fun i v=>Vec.put v (8+i) (Vec.get eB i)) (fun i next s hi=>rfl)];rw [show ((List.range 8).foldl (fun v i=>Vec.put v (8+i) (Vec.get eB i)) (Vec.blit (Vec.fill 16 0) 0 x.state.1))=zlq x.state from rfl];generalize zlq x.state=v0; (try dsimp only);rw [zfA]; (try dsimp only);rw [zfA]; (try dsimp only);rw [zjd];rw [show (bif last then Vec.put (Vec.put (Vec.put v0 12 (xorK .u32 (Vec.get v0 12) (IntKind.u32.wrap (t.toNat:Int)))) 13 (xorK .u32 (Vec.get (Vec.put v0 12 (xorK .u32 (Vec.get v0 12) (IntKind.u32.wrap (t.toNat:Int)))) 13) (IntKind.u32.wrap ((t >>> 32).toNat:Int)))) 14 (xorK .u32 (Vec.get (Vec.put (Vec.put v0 12 (xorK .u32 (Vec.get v0 12) (IntKind.u32.wrap (t.toNat:Int)))) 13 (xorK .u32 (Vec.get (Vec.put v0 12 (xorK .u32 (Vec.get v0 12) (IntKind.u32.wrap (t.toNat:Int)))) 13) (IntKind.u32.wrap ((t >>> 32).toNat:Int)))) 14) 4294967295) else Vec.put (Vec.put v0 12 (xorK .u32 (Vec.get v0 12) (IntKind.u32.wrap (t.toNat:Int)))) 13 (xorK .u32 (Vec.get (Vec.put v0 12 (xorK .u32 (Vec.get v0 12) (IntKind.u32.wrap (t.toNat:Int)))) 13) (IntKind.u32.wrap ((t >>> 32).toNat:Int))))=zjj v0 t last from rfl];generalize zjj v0 t last=v1; (try dsimp only);rw [zej,zdD (n:=10) (fun i v=>rowV m (nth blOrder i) v) (fun i next s hi=>row_x hi next)];rw [show ((List.range 10).foldl (fun v i=>rowV m (nth blOrder i) v) v1)=zik m v1 from rfl];generalize zik m v1=v2; (try dsimp only);rw [zdD (n:=8) (fun i (s:Bool×Vec 8 Int×Vec 64 Int×Int×BitVec 64×Int)=>(s.1,Vec.put s.2.1 i (xorK .u32 (Vec.get s.2.1 i) (xorK .u32 (Vec.get v2 i) (Vec.get v2 (i+8)))),s.2.2.1,s.2.2.2.1,s.2.2.2.2.1,s.2.2.2.2.2)) (fun i next s hi=>rfl)];rw [zgs (g:=fun i s=>Vec.put s i (xorK .u32 (Vec.get s i) (xorK .u32 (Vec.get v2 i) (Vec.get v2 (i+8)))))]
 rfl
def keyS (key:List Int):Vec 8 Int:=Vec.put eB 0 (xorK .u32 (Vec.get eB 0) (IntKind.u32.wrap (16842784+(IntKind.u32.wrap (256* (IntKind.u32.wrap (key.length:Int)))))))
def lH (key:List Int):Vec 64 Int:=Vec.blit (Vec.fill 64 0) 0 key
def msgB (key b:List Int):Vec 64 Int:=Vec.blit (Vec.blit (lH key) 0 b) b.length (List.replicate (64 - b.length) 0)
def tagS (key b:List Int):Vec 8 Int:=zhT (zhT (keyS key) (Vec.get (lH key)) 64#64 false) (Vec.get (msgB key b)) (64#64+BitVec.ofInt 64 (b.length:Int)) true
def tagV (key b:List Int):Vec 32 Int:=(List.range 8).foldl (fun c i=>(List.range 4).foldl (fun c j=>Vec.put c (4*i+j) (IntKind.u8.wrap (shrK .u32 (Vec.get (tagS key b) i) (8* (j:Int))))) c) (Vec.fill 32 0)
theorem zlx {key:List Int}(hk:1≤key.length):ji key=some ⟨true,keyS key,lH key,64,0#64,0⟩:=by
 unfold ji;rw [zfA,zej,decide_eq_true a7,cond_true]
 rfl
theorem zkc {fuel:Nat}{s:Vec 8 Int}{blk:Vec 64 Int}{b:List Int}(hf:10≤fuel)(hb:1≤b.length∧b.length≤64):∃n,zbq fuel ⟨true,s,blk,64,0#64,0⟩ [b]=some ⟨true,zhT s (Vec.get blk) 64#64 false,Vec.blit blk 0 b,(b.length:Int),64#64,n⟩:=by
 obtain ⟨f,rfl⟩:∃f,fuel=f+2:=⟨fuel - 2,by omega⟩;unfold zbq;rw [show ([b]:List (List Int)).length - 0=0+1 from rfl,jM];dsimp only;rw [show nth [b] 0=b from rfl,show f+2=(f+1)+1 from rfl,lW];dsimp only;rw [decide_eq_true a7,cond_true,zej,decide_eq_true rfl,cond_true,zgY,Option.bind_some];dsimp only; (have hm:min b.length (64 - (0:Int).toNat)=b.length:=by rw [show (0:Int).toNat=0 from rfl];omega);have hd:b.drop b.length=[]:=List.drop_eq_nil_of_le (Nat.le_refl _); (have hw:wI (0+(b.length:Int))=(b.length:Int):=by rw [Int.zero_add];exact IntWalk.i64_in _ a7);rw [decide_eq_false (show ¬(64:Int)<(b.length:Int) by omega),Bool.and_false,cond_false,dJ a8,dJ a8,dJ (by rw [hm];omega)];simp only [hm,hd,hw];rw [lW];dsimp only;rw [decide_eq_false a8,cond_false];exact ⟨_,rfl⟩
theorem zkm {x:GHash}{n:Nat}(hn:x.fill=(n:Int))(h:n≤64):∃y,zbp x=some ((List.range 8).foldl (fun c i=>(List.range 4).foldl (fun c j=>Vec.put c (4*i+j) (IntKind.u8.wrap (shrK .u32 (Vec.get (zhT x.state (Vec.get (Vec.blit x.block n (List.replicate (64 - n) 0))) (x.before+BitVec.ofInt 64 (n:Int)) true) i) (8* (j:Int))))) c) (Vec.fill 32 0),y):=by
 unfold zbp;rw [hn,dJ a7,dJ a7,zfA,zgY,Option.bind_some,Int.toNat_natCast];dsimp only;generalize zhT x.state (Vec.get (Vec.blit x.block n (List.replicate (64 - n) 0))) (x.before+BitVec.ofInt 64 (n:Int)) true=s;rw [zej]
 rw [zdD (n:=8) (fun i c=>(List.range 4).foldl (fun c j=>Vec.put c (4*i+j) (IntKind.u8.wrap (shrK .u32 (Vec.get s i) (8* (j:Int))))) c) (fun i next c hi=>by
  rw [zdD (n:=4) (fun j c=>Vec.put c (4*i+j) (IntKind.u8.wrap (shrK .u32 (Vec.get s i) (8* (j:Int))))) (fun j next c hj=>by
   have w1:wI (8* (j:Int))=8* (j:Int):=IntWalk.i64_in _ a7;have w2:wI (4* (i:Int))=4* (i:Int):=IntWalk.i64_in _ a7;have w3:wI (4* (i:Int)+(j:Int))=4* (i:Int)+(j:Int):=IntWalk.i64_in _ a7
   rw [w1,w2,w3,dJ a7,dJ a7,show (4* (i:Int)+(j:Int)).toNat=4*i+j by omega])])]
 exact ⟨_,rfl⟩
theorem zk5 {fuel:Nat}{key b:List Int}(hf:10≤fuel)(hk:1≤key.length∧key.length≤32)(hb:1≤b.length∧b.length≤64):zdw fuel key b=some (tagV key b,0):=by
 unfold zdw zdQ;rw [decide_eq_false a7,decide_eq_false a7,Bool.or_self,cond_false,zlx hk.1,Option.isSome_some,cond_true,Option.getD_some];obtain ⟨n,hn⟩:=zkc (s:=keyS key) (blk:=lH key) hf hb;rw [hn,Option.bind_some];obtain ⟨y,hy⟩:=zkm (x:=⟨true,zhT (keyS key) (Vec.get (lH key)) 64#64 false,Vec.blit (lH key) 0 b,(b.length:Int),64#64,n⟩) rfl hb.2;rw [hy,Option.bind_some,Option.bind_some]
 rfl
def eT (f:Nat→Int):Nat→Int
 |0=>0
 |n+1=>eT f n+f n
theorem zj5 {f:Nat→Int}{c:Int}:∀ {n:Nat},(∀i,i<n→0≤f i∧f i≤c)→0≤c→(n:Int) *c≤9223372036854775807→fU f n=eT f n
 |0,_,_,_=>rfl
 |n+1,h,hc,hb=>by
  (have e:((n+1:Nat):Int) *c=n*c+c:=by rw [Int.natCast_add,Int.add_mul];simp);rw [e] at hb;have h0:=zhl (n:=n) (fun i hi=>h i a7) hc a7;have h1:=h n a7;rw [fU,gx a7,eT,zj5 (n:=n) (fun i hi=>h i a7) hc a7]
theorem zgy {f g:Nat→Int}:∀ {n:Nat},(∀i,i<n→f i=g i)→eT f n=eT g n
 |0,_=>rfl
 |n+1,h=>by rw [eT,eT,zgy (n:=n) (fun i hi=>h i a7),h n a7]
theorem zfC {f g:Nat→Int}{p:Nat}:∀ {n:Nat},(∀i,i<n→i≠p→g i=f i)→p<n→eT g n=eT f n+(g p - f p)
 |0,_,hp=>by omega
 |n+1,h,hp=>by
  by_cases e:p=n
  ·subst e;rw [eT,eT,zgy (f:=g) (g:=f) (fun i hi=>h i a7 a7)];omega
  ·rw [eT,eT,zfC (n:=n) (fun i hi hn=>h i a7 hn) a7,h n a7 a7];omega
theorem zjq {l:List GProduct}{d:List Int}(h:DemOk l d):kD l d=true:=by
 unfold kD;rw [decide_eq_false (by rw [h.len];simp),cond_false];simp only [dF]
 rw [show d.length - 0=d.length from rfl,zhZ (fun _=>true) (fun i next hi=>by
  have:=h.bd i (by rw [←h.len];exact hi)
  rw [decide_eq_false a7,decide_eq_false a7];rfl)]
 simp
theorem zjT {l:List GProduct}{bs:List GBidder}(hn:l.length≤100)(hm:bs.length≤32)(hp:it l=true)(hok:∀j,j<bs.length→BidOk l (nth bs j))(hid:∀j,j+1<bs.length→(nth bs j).ID<(nth bs (j+1)).ID):Val l bs:=by
 refine zkX hn hm ?_;unfold j6;simp only [dF];rw [decide_eq_false a7,cond_false,ii,Option.bind_some,hp,Bool.not_true,cond_false];refine mc (n:=bs.length) (fun i (last:Int)=>last=if i=0 then -1 else (nth bs (i - 1)).ID) (fun o=>o=some true) rfl (fun _ _=>rfl) (fun i last next hi hl hnx=>?_);have hb:=hok i hi
 have h1:last<(nth bs i).ID:=by
  by_cases h0:i=0
  ·rw [if_pos h0] at hl;have:=hb.id.1;omega
  ·rw [if_neg h0] at hl;have:=hid (i - 1) a7;rw [show i - 1+1=i by omega] at this;omega
 rw [decide_eq_false a7,decide_eq_false (by have:=hb.id.2;omega),Bool.or_self,cond_false];have h2:=hb.el;have h3:=hb.wa;rw [decide_eq_false a7,decide_eq_false a7,decide_eq_false a7,decide_eq_false a7,Bool.or_self,Bool.or_self,Bool.or_self,cond_false];rw [zjq hb.dem,Bool.not_true,cond_false,zh5 hb.dem.len,Option.bind_some,decide_eq_false (by have:=hb.un;omega),cond_false];refine hnx _ ?_;rw [if_neg a7,show i+1 - 1=i by omega]
theorem zj0 {l:List GProduct}{bs:List GBidder}(h:j6 l bs=some true):∀j,j+1<bs.length→(nth bs j).ID<(nth bs (j+1)).ID:=by
 unfold j6 at h;simp only [dF] at h
 cases hc:decide (32<(bs.length:Int)) with
 |true=>rw [hc] at h;cases h
 |false=>
  rw [hc,cond_false,ii,Option.bind_some] at h
  cases hp:it l with
  |false=>rw [hp] at h;cases h
  |true=>
   rw [hp,Bool.not_true,cond_false] at h;generalize hF:(fun (i_8:Nat) (next7:Int→Option Bool) (last_6:Int)=>_)=F at h
   have hstep:∀i last next,F i next last=some true→last<(nth bs i).ID∧next (nth bs i).ID=some true:=by
    intro i last next hh;rw [←hF] at hh;dsimp only at hh
    cases h1:((decide ((nth bs i).ID≤last))||(decide (32≤(nth bs i).ID))) with
    |true=>rw [h1] at hh;cases hh
    |false=>
     rw [h1,cond_false] at hh;rw [Bool.or_eq_false_iff,decide_eq_false_iff_not] at h1;refine ⟨by omega,?_⟩
     revert hh
     generalize ((((decide ((nth bs i).Eligibility<0))||(decide (76800000<(nth bs i).Eligibility)))||(decide ((nth bs i).Waivers<0)))||(decide (3<(nth bs i).Waivers)))=z
     cases z with
     |true=>intro hh;cases hh
     |false=>
      rw [cond_false]
      cases kD l (nth bs i).Blocks with
      |false=>intro hh;cases hh
      |true=>
       rw [Bool.not_true,cond_false]
       cases zcb l (nth bs i).Blocks with
       |none=>intro hh;cases hh
       |some u=>
        rw [Option.bind_some]
        cases decide ((nth bs i).Eligibility<u) with
        |true=>intro hh;cases hh
        |false=>exact id
   have key:∀m i last,i+m=bs.length→dq F (fun _=>some true) m i last=some true→(i<bs.length→last<(nth bs i).ID)∧∀j,i≤j→j+1<bs.length→(nth bs j).ID<(nth bs (j+1)).ID:=by
    intro m
    induction m with
    |zero=>intro i last e _;exact ⟨fun h=>by omega,fun j h1 h2=>by omega⟩
    |succ m ih=>
     intro i last e hh;rw [jM] at hh;obtain ⟨h1,h2⟩:=hstep _ _ _ hh;obtain ⟨h3,h4⟩:=ih (i+1) _ a7 h2;refine ⟨fun _=>h1,fun j hj hj2=>?_⟩;by_cases e2:j=i
     ·subst e2;exact h3 hj2
     ·exact h4 j a7 hj2
   exact fun j hj=>(key _ 0 (-1) a7 h).2 j a7 hj
theorem zly {l:List GProduct}{b:GBidder}(hn:l.length≤100)(hp:it l=true)(h:BidOk l b):Val l [b]:=
 zjT hn b6 hp (fun j hj=>by
  (have:j=0:=by simpa using hj)
  subst this;exact h) (fun j hj=>by simp at hj)
theorem ziz {l:List GProduct}(h:it l=true){j:Nat}(hj:j<l.length):1≤(nth l j).Units∧(nth l j).Units≤100000:=by
 have:=zgo h j hj;rw [zew] at this;omega
theorem mul12 {a b:Int}(ha:0≤a∧a≤12)(hb:1≤b∧b≤100000):0≤a*b∧a*b≤1200000:=by
 refine ⟨Int.mul_nonneg ha.1 a7,?_⟩;have:=Int.mul_le_mul ha.2 hb.2 a7 (by omega:(0:Int)≤12);omega
theorem zh0 {l:List GProduct}{d:List Int}(hn:l.length≤100)(hp:it l=true)(h:DemOk l d):fy l d=eT (fun i=>nth d i* (nth l i).Units) l.length∧0≤fy l d:=by
 have hb:∀i,i<l.length→0≤nth d i* (nth l i).Units∧nth d i* (nth l i).Units≤1200000:=fun i hi=>by
  have h1:=h.bd i hi;have h2:=lK hp hi;exact mul12 ⟨h1.1,by omega⟩ (ziz hp hi)
 unfold fy;rw [zfN (g:=fun i=>nth d i* (nth l i).Units) (fun i hi=>by have:=hb i hi;exact gx a7)];exact ⟨zj5 hb a7 a7,(zhl hb a7 a7).1⟩
theorem zku {l:List GProduct}{d:List Int}{p:Nat}{v:Int}(hn:l.length≤100)(hp:it l=true)(h:DemOk l d)(hl:p<l.length)(h2:DemOk l (d.set p v)):fy l (d.set p v)=fy l d+(v - nth d p) * (nth l p).Units:=by
 rw [(zh0 hn hp h).1,(zh0 hn hp h2).1,zfC (p:=p) (f:=fun i=>nth d i* (nth l i).Units) (fun i hi hne=>by
  rw [iW (by rw [h.len];exact hi),if_neg (Ne.symm hne)]) hl]
 rw [iW (by rw [h.len];exact hl),if_pos rfl,Int.sub_mul]
theorem zji {l:List GProduct}{b:GBidder}(hn:l.length≤100)(hp:it l=true)(h:BidOk l b):zch l b=some (⟨b,fy l b.Blocks⟩,true):=by
 unfold zch;rw [(zly hn hp h).prog,Option.bind_some,Bool.not_true,cond_false];unfold zdM zdN;rw [ii,Option.bind_some,Option.bind_some,hp,zjq h.dem];rw [show (!(true&&true))=false from rfl,cond_false,zh5 h.dem.len,Option.bind_some,Option.bind_some,decide_eq_true rfl]
def ld (l:List GProduct)(b:GBidder)(p:Nat):Int:=min ((nth l p).Supply - nth b.Blocks p) ((b.Eligibility - fy l b.Blocks) / (nth l p).Units)
theorem ziR {l:List GProduct}{b:GBidder}{p:Nat}(hn:l.length≤100)(hp:it l=true)(h:BidOk l b)(hl:p<l.length):0≤ld l b p∧ld l b p≤12:=by
 have h1:=h.dem.bd p hl;have h2:=lK hp hl;have h3:=ziz hp hl;have h4:=h.un;have:0≤(b.Eligibility - fy l b.Blocks) / (nth l p).Units:=Int.ediv_nonneg a7 a7;unfold ld;omega
theorem zjk {l:List GProduct}{b:GBidder}{p:Nat}(hn:l.length≤100)(hp:it l=true)(h:BidOk l b)(hl:p<l.length):zaW ⟨b,fy l b.Blocks⟩ l (p:Int)=some (ld l b p):=by
 have h1:=h.dem.bd p hl;have h2:=lK hp hl;have h3:=ziz hp hl;have h4:=h.un;have h5:=h.el;have h6:=(zh0 hn hp h.dem).2;have h7:=h.dem.len;unfold zaW;dsimp only;rw [dJ a7,dJ a7,gx a7,Int.toNat_natCast,dJ a7,gx a7]
 rfl
theorem zlL {l:List GProduct}{b:GBidder}{p:Nat}(hn:l.length≤100)(hp:it l=true)(h:BidOk l b)(hl:p<l.length):zcD l b (p:Int)=some (ld l b p,0):=by
 unfold zcD;rw [zji hn hp h,Option.bind_some];unfold j2;rw [gx a7,decide_eq_true (show (0:Int)≤p by omega),decide_eq_true (show (p:Int)≤(l.length:Int) - 1 by omega)];rw [show ((!true)||(!(true&&true)))=false from rfl,cond_false,zjk hn hp h hl];rfl
theorem zln {l:List GProduct}{b:GBidder}{p:Nat}{c:Int}(hn:l.length≤100)(hp:it l=true)(h:BidOk l b)(hl:p<l.length)(hc:0<c):zcK l b (p:Int) c=some (min c (ld l b p),0):=by
 unfold zcK;rw [zji hn hp h,Option.bind_some];unfold j2;rw [gx a7,decide_eq_true (show (0:Int)≤p by omega),decide_eq_true (show (p:Int)≤(l.length:Int) - 1 by omega)];rw [show ((!true)||(!(true&&true)))=false from rfl,cond_false,decide_eq_true hc,cond_true,zjk hn hp h hl];rfl
def lR (e w a pc:Int):Int×Int:=if (e*pc+99) / 100≤a then (e,w) else if 0<w then (e,w - 1) else (a*100 / pc,0)
theorem mulpc {e pc:Int}(h:0≤e∧e≤76800000)(hp:1≤pc∧pc≤100):0≤e*pc∧e*pc≤7680000000:=by
 refine ⟨Int.mul_nonneg h.1 a7,?_⟩;have:=Int.mul_le_mul h.2 hp.2 a7 (by omega:(0:Int)≤76800000);omega
theorem zkd {e w a pc:Int}(he:0≤e∧e≤76800000)(hw:0≤w∧w≤3)(ha:0≤a∧a≤e)(hp:1≤pc∧pc≤100):a≤(lR e w a pc).1∧(lR e w a pc).1≤e∧0≤(lR e w a pc).2∧(lR e w a pc).2≤w:=by
 unfold lR;have h1:=mulpc he hp;by_cases hc:(e*pc+99) / 100≤a
 ·rw [if_pos hc];dsimp only;omega
 ·rw [if_neg hc];by_cases h2:0<w
  ·rw [if_pos h2];dsimp only;omega
  ·rw [if_neg h2];dsimp only;refine ⟨?_,?_,by omega,by omega⟩
   ·rw [Int.le_ediv_iff_mul_le a7];exact Int.mul_le_mul_of_nonneg_left hp.2 ha.1
   ·refine Int.ediv_le_of_le_mul a7 ?_;omega
theorem zkO {l:List GProduct}{b:GBidder}{pc:Int}(hn:l.length≤100)(hp:it l=true)(h:BidOk l b)(hc:1≤pc∧pc≤100):zcA l b pc=some (⟨b.ID,(lR b.Eligibility b.Waivers (fy l b.Blocks) pc).1,(lR b.Eligibility b.Waivers (fy l b.Blocks) pc).2,b.Blocks⟩,0):=by
 unfold zcA;rw [zji hn hp h,Option.bind_some];dsimp only;rw [Bool.not_true,cond_false];have h1:=mulpc h.el hc;have h2:=h.el;have h3:=h.wa;have h4:=h.un;have h6:=(zh0 hn hp h.dem).2
 have hk:zcX b.Eligibility b.Waivers (fy l b.Blocks) pc=some ((lR b.Eligibility b.Waivers (fy l b.Blocks) pc).1,(lR b.Eligibility b.Waivers (fy l b.Blocks) pc).2,0):=by
  unfold zcX zcJ j2;rw [decide_eq_true h2.1,decide_eq_true h2.2,decide_eq_true hc.1,decide_eq_true hc.2,decide_eq_true h3.1,decide_eq_true h3.2,decide_eq_true h6,decide_eq_true h4];rw [show ((!(true&&true))||(!(true&&true)))=false from rfl,cond_false,gx (x:=b.Eligibility*pc) a7,gx a7,dJ a7,Option.bind_some];dsimp only;rw [decide_eq_false (show ¬ ¬(0:Int)=0 by simp)];rw [show ((false||(!(true&&true)))||(!(true&&true)))=false from rfl,cond_false];unfold lR;by_cases c1:(b.Eligibility*pc+99) / 100≤fy l b.Blocks
  ·rw [decide_eq_true c1,cond_true,if_pos c1]
  ·rw [decide_eq_false c1,cond_false,if_neg c1];by_cases c2:0<b.Waivers
   ·rw [decide_eq_true c2,cond_true,if_pos c2,gx a7]
   ·rw [decide_eq_false c2,cond_false,if_neg c2,gx (x:=fy l b.Blocks*100) a7,dJ a7]
 rw [hk,Option.bind_some];dsimp only;rw [decide_eq_false (show ¬ ¬(0:Int)=0 by simp),cond_false,dJ (by rw [h.dem.len];unfold dm;omega)]
inductive Dy (α β:Type) where
 |ok (x:α)
 |er (z:β)
instance {α β:Type} [Inhabited α]:Inhabited (Dy α β):=⟨.ok default⟩
def bodyP (P:Program)(fn:Func)(R:Ending→World→Prop):Exit→Act→World→Prop
 | .normal,a,w| .ret,a,w=>LeavesInM Fence.wide 0 P fn a.tmps R a.defers .returning w
 | .panic ch,a,w=>∀tmps,LeavesInM Fence.wide 0 P fn tmps R a.defers (.panicking ch) w
 |_,_,_=>False
instance (P:Program) (fn:Func) (R:Ending→World→Prop):NP (bodyP P fn R):=⟨fun c a d v w h=>by
 cases d <;> exact h⟩
section
variable {F:Fence}{P:Program}{n:Nat}{B D:World}{M:Nat→Prop}{Q:Exit→Act→World→Prop}{fs:eb}{hs:HS}{ops:Array Oper}{l rest:List Oper}{ch:List PanicEntry}{id:Nat}
end
section
variable {Fe:Fence}[hFe:Calm Fe]{P:Program}{n:Nat}{B D:World}{M S0:Nat→Prop}{Q:Exit→Act→World→Prop}{fs:eb}{hs:HS}{ops:Array Oper}{rest:List Oper}{o:Oper}{v:Value}
end
structure GReader where
 fault:Gfault
 made:Bool
 in_:List Int
 at_:Int
deriving DecidableEq,Inhabited
def gb (F:Frz)(c:List Value)(x:GReader):Prop:=∃(v2:Value),c=[.int .i64 x.fault.first, .bool x.made,v2, .int .i64 x.at_]∧SlC F v2 1 (x.in_.map (eK .u8))
theorem GReader.mono {F G:Frz}{c:List Value}{x:GReader}(hle:F.Le G)(h:gb F c x):gb G c x:=by
 obtain ⟨v2,h0,h3⟩:=h;exact ⟨v2,h0,h3.mono hle⟩
theorem GReader.len {F:Frz}{c:List Value}{x:GReader}(h:gb F c x):c.length=4:=by
 obtain ⟨v2,h0,h3⟩:=h;subst h0;rfl
theorem GReader.one {F:Frz}{c:List Value}{x:GReader}(h:gb F c x):OneCs c:=by
 obtain ⟨v2,h0,h3⟩:=h;subst h0;haveI:=h3.oneC
 infer_instance
section
variable (P:Program)(n:Nat)(B:World)(M:Nat→Prop)(ds:List Deferred)
structure DK (Q:Exit→Act→World→Prop) (e:Exit) (fs:eb) (hs:HS):Prop where
 out:∀a w,Fr n fs a→Hp B M hs w→a.defers=ds→Q e a w
structure DT (c:Code) (Q:Exit→Act→World→Prop) (fs:eb) (hs:HS):Prop where
 out:∀a w,Fr n fs a→Hp B M hs w→a.defers=ds→c.wpIn Fence.wide 0 P Q a w
structure DL (ops:Array Oper) (Q:Exit→Act→World→Prop) (l:List Oper) (fs:eb) (hs:HS):Prop where
 out:∀a w,Fr n fs a→Hp B M hs w→a.defers=ds→wpListIn Fence.wide 0 P ops Q l a w
end
theorem put_defers (a:Act)(d:Option Nat)(v:Value):(a.put d v).defers=a.defers:=by cases d <;> rfl
section
variable {P:Program}{n:Nat}{B:World}{M:Nat→Prop}{ds:List Deferred}{Q:Exit→Act→World→Prop}{fs fs':eb}{hs hs':HS}{ops:Array Oper}{l l' rest:List Oper}{c c1 c2:Code}{id:Nat}{o:Oper}{v:Value}
theorem DT.seq (h:DT P n B M ds c1 (Exit.then (c2.wpIn Fence.wide 0 P Q) Q) fs hs):DT P n B M ds (.seq c1 c2) Q fs hs:=⟨fun a w ha hw hm=>wpIn_seq (h.out a w ha hw hm)⟩
theorem DT.skip (h:DK n B M ds Q .normal fs hs):DT P n B M ds .skip Q fs hs:=⟨fun a w ha hw hm=>wpIn_skip (h.out a w ha hw hm)⟩
theorem DT.ret (h:DK n B M ds Q .ret fs hs):DT P n B M ds .ret Q fs hs:=⟨fun a w ha hw hm=>wpIn_ret (h.out a w ha hw hm)⟩
theorem DT.cond {o:Operand}{b:Bool}(hb:ev fs o=some (.bool b))(h1:b=true→DT P n B M ds c1 Q fs hs)(h2:b=false→DT P n B M ds c2 Q fs hs):DT P n B M ds (.cond o c1 c2) Q fs hs:=
 ⟨fun a w ha hw hm=>wpIn_cond_split (ha.ev hb) (fun h=>(h1 h).out a w ha hw hm) (fun h=>(h2 h).out a w ha hw hm)⟩
theorem DT.region {l:List Oper}(h:DL P n B M ds l.toArray Q l fs hs):DT P n B M ds (.region id l.toArray false) Q fs hs:=⟨fun a w ha hw hm=>wpIn_region_lit (h.out a w ha hw hm)⟩
theorem DL.nil (h:DK n B M ds Q .normal fs hs):DL P n B M ds ops Q [] fs hs:=⟨fun a w ha hw hm=>wpListIn_nil (h.out a w ha hw hm)⟩
theorem DK.seq (h:DT P n B M ds c Q fs hs):DK n B M ds (Exit.then (c.wpIn Fence.wide 0 P Q) Q) .normal fs hs:=⟨fun a w ha hw hm=>h.out a w ha hw hm⟩
theorem DL.yv {d:Nat}(hw:Wt n ops fs o true)(hd:o.dst=some d)(hb:Nat.blt d n=true)(h:Yv P n B M fs hs o v)(k:DL P n B M ds ops Q rest ((d,v) :: fs) hs):DL P n B M ds ops Q (o :: rest) fs hs:=
 ⟨fun a w ha hp hm=>wpListIn_step fun K hK=>by
  rw [if_pos (hw a ha)];refine zii (zg7 (h a w ha hp)) ?_;rw [h a w ha hp,Oper.uponIn_value,hd]
  exact hK _ _ (k.out _ w (ha.put hb v) hp (by rw [put_defers];exact hm))⟩
theorem DL.off {d:Nat}(hw:Wt n ops fs o false)(hd:o.dst=some d)(hb:Nat.blt d n=true)(k:DL P n B M ds ops Q rest ((d,undef) :: fs) hs):DL P n B M ds ops Q (o :: rest) fs hs:=
 ⟨fun a w ha hp hm=>wpListIn_step fun K hK=>by
  rw [if_neg (by rw [hw a ha];simp),hd]
  exact ⟨fun f _=>trivial,hK _ _ (k.out _ w (ha.put hb undef) hp (by rw [put_defers];exact hm))⟩⟩
theorem DL.run:∀(k:Nat) {fs fs':eb} {l l':List Oper},jU n ops k fs l=some (fs',l')→DL P n B M ds ops Q l' fs' hs→DL P n B M ds ops Q l fs hs
 |0,fs,fs',l,l',h,t=>by simp only [jU,Option.some.injEq,Prod.mk.injEq] at h;rw [h.1,h.2];exact t
 |k+1,fs,fs',[],l',h,t=>by simp [jU] at h
 |k+1,fs,fs',o :: r,l',h,t=>by
  simp only [jU] at h
  split at h
  ·rename_i f1 h1;obtain ⟨d,v,hd,hb,rfl,h2⟩:=zgB h1;have ih:=DL.run k h t;rcases h2 with ⟨hg,hv⟩|⟨hg,rfl⟩
   ·exact DL.yv (mh hg) hd hb (mv hv) ih
   ·exact DL.off (mh hg) hd hb ih
  ·cases h
theorem DL.defer {c:Operand}{fn:Fn}{cap:Array Value}{ts:Array TypeId}(ho:o.op= .defer { callee:= .value c,args:= #[],argTypes:=ts })(hc:ev fs c=some (.func fn #[] cap))(k:DL P n B M ({ target:= .fn fn cap,args:= #[] } :: ds) ops Q rest fs hs)(hw:zfj ops fs o=some true:=by rfl)(hd:o.dst=none:=by rfl):DL P n B M ds ops Q (o :: rest) fs hs:=
 ⟨fun a w ha hp hm=>wpListIn_step fun K hK=>by
  rw [if_pos (mh hw a ha)];refine ⟨fun f _=>trivial,?_⟩
  have hr:(execOp a.eval o).run P w= .ok (.defer { target:= .fn fn cap,args:= #[] }) w:=by
   unfold execOp;simp [ho,resolve,ha.ev hc,Deferred.ofValue]
  rw [show Fence.wide.round=none from rfl,Oper.semAt_none,hr,Oper.uponIn_defer];refine hK _ _ (k.out _ w ?_ hp ?_)
  ·rw [hd];exact ⟨ha.size,ha.get⟩
  ·rw [put_defers];show _ :: a.defers=_;rw [hm]⟩
end
section
variable {B:World}{M:Nat→Prop}{rest:HS}
end
theorem zjp {σ ρ:Type}(f:(σ→Option ρ)→σ→Option ρ)(m:Nat)(s:σ):eS f (m+1) s=f (eS f m) s:=rfl
theorem zlE {σ ρ:Type}(f:Nat→(σ→ρ)→σ→ρ)(k:σ→ρ)(m:Nat)(s:σ):gz f k (m+1) s=f m (gz f k m) s:=rfl
def val (B:Nat):List Int→Nat
 | []=>0
 |x :: r=>x.toNat+B*val B r
def Dig (B:Nat)(l:List Int):Prop:=∀x∈l,0≤x∧x<(B:Int)
def Trm (l:List Int):Prop:=l=[]∨nth l (l.length - 1)≠0
section
variable {B:Nat}{l m:List Int}{x:Int}{i:Nat}
theorem Dig.nil:Dig B []:=fun _ h=>by cases h
theorem Dig.cons (hx:0≤x∧x<(B:Int))(h:Dig B l):Dig B (x :: l):=fun y hy=>by
 rcases List.mem_cons.1 hy with rfl|hy
 ·exact hx
 ·exact h y hy
theorem Dig.tail (h:Dig B (x :: l)):Dig B l:=fun y hy=>h y (List.mem_cons_of_mem _ hy)
theorem Dig.head (h:Dig B (x :: l)):0≤x∧x<(B:Int):=h x List.mem_cons_self
theorem Dig.app (h:Dig B l)(k:Dig B m):Dig B (l++m):=fun y hy=>(List.mem_append.1 hy).elim (h y) (k y)
theorem Dig.take (h:Dig B l)(i:Nat):Dig B (l.take i):=fun y hy=>h y (List.mem_of_mem_take hy)
theorem Dig.drop (h:Dig B l)(i:Nat):Dig B (l.drop i):=fun y hy=>h y (List.mem_of_mem_drop hy)
theorem Dig.nth (h:Dig B l)(hi:i<l.length):0≤nth l i∧nth l i<(B:Int):=by
 rw [eZ hi];exact h _ (List.getElem_mem hi)
theorem Dig.set (h:Dig B l)(hx:0≤x∧x<(B:Int)):Dig B (l.set i x):=fun y hy=>by
 rcases List.mem_or_eq_of_mem_set hy with hy|rfl
 ·exact h y hy
 ·exact hx
theorem gQ (hB:0<B)(n:Nat):Dig B (List.replicate n 0):=fun y hy=>by
 rw [List.eq_of_mem_replicate hy];omega
theorem zjf:val B (l++m)=val B l+B ^ l.length*val B m:=by
 induction l with
 |nil=>simp [val]
 |cons x l ih=>
  rw [List.cons_append,val,val,ih,List.length_cons,Nat.mul_add,Nat.pow_succ,Nat.mul_comm (B ^ l.length) B,Nat.mul_assoc];omega
theorem lG (h:Dig B l):val B l<B ^ l.length:=by
 induction l with
 |nil=>simp [val]
 |cons x l ih=>
  have h1:=h.head;have h2:=ih h.tail;rw [val,List.length_cons,Nat.pow_succ,Nat.mul_comm (B ^ l.length) B];have h3:B* (val B l+1)≤B*B ^ l.length:=Nat.mul_le_mul_left _ h2;rw [Nat.mul_add] at h3;omega
theorem zjw (n:Nat):val B (List.replicate n 0)=0:=by
 induction n with
 |zero=>rfl
 |succ n ih=>rw [List.replicate_succ,val,ih];simp
theorem zfK {y:Int}:nth (y :: l) 0=y:=rfl
theorem zgw {y:Int}:nth (y :: l) (i+1)=nth l i:=rfl
theorem jc (hi:i<l.length):val B (l.take (i+1))=val B (l.take i)+B ^ i* (nth l i).toNat:=by
 induction l generalizing i with
 |nil=>cases hi
 |cons y l ih=>
  cases i with
  |zero=>simp [val,zfK]
  |succ i=>
   rw [List.take_succ_cons,List.take_succ_cons,val,val,ih (by simpa using hi),zgw,Nat.mul_add,Nat.pow_succ,Nat.mul_comm (B ^ i) B,Nat.mul_assoc];omega
theorem zdP (hi:i<l.length):val B (l.drop i)=(nth l i).toNat+B*val B (l.drop (i+1)):=by
 rw [List.drop_eq_getElem_cons hi,val,eZ hi]
theorem ze3 (i:Nat)(hi:i≤l.length):val B l=val B (l.take i)+B ^ i*val B (l.drop i):=by
 conv=>lhs;rw [←List.take_append_drop i l]
 rw [zjf,List.length_take,Nat.min_eq_left hi]
theorem zlp (hi:i<l.length):val B (l.set i x)+B ^ i* (nth l i).toNat=val B l+B ^ i*x.toNat:=by
 induction l generalizing i with
 |nil=>cases hi
 |cons y l ih=>
  cases i with
  |zero=>simp [val,zfK];omega
  |succ i=>
   have:=ih (i:=i) (by simpa using hi);rw [List.set_cons_succ,val,val,zgw,Nat.pow_succ,Nat.mul_comm (B ^ i) B,Nat.mul_assoc,Nat.mul_assoc]; (have h2:B* (val B (l.set i x)+B ^ i* (nth l i).toNat)=B* (val B l+B ^ i*x.toNat):=by rw [this]);rw [Nat.mul_add,Nat.mul_add] at h2;omega
theorem zh3 (h:Dig B l)(ht:Trm l)(hn:l≠[]):B ^ (l.length - 1)≤val B l:=by
 have hp:0<l.length:=List.length_pos_iff.2 hn;have h1:nth l (l.length - 1)≠0:=ht.elim (fun e=>absurd e hn) id;have h2:=h.nth (i:=l.length - 1) a7;have h3:=jc (B:=B) (l:=l) (i:=l.length - 1) a7;rw [show l.length - 1+1=l.length by omega,List.take_length] at h3;have h4:B ^ (l.length - 1) *1≤B ^ (l.length - 1) * (nth l (l.length - 1)).toNat:=Nat.mul_le_mul_left _ a7;omega
theorem zk9 (h:Dig B l)(ht:Trm l)(hn:l≠[])(hB:0<B):0<val B l:=Nat.lt_of_lt_of_le (Nat.pow_pos hB) (zh3 h ht hn)
theorem zhs (h:Dig B l)(ht:Trm l)(hB:0<B):val B l=0↔l=[]:=by
 constructor
 ·intro e;by_cases hn:l=[]
  ·exact hn
  ·have:=zk9 h ht hn hB;omega
 ·rintro rfl;rfl
theorem ze5 (hl:Dig B l)(hm:Dig B m)(ht:Trm m)(h:l.length<m.length):val B l<val B m:=by
 (have hn:m≠[]:=fun e=>by rw [e] at h;cases h)
 have hB:0<B:=by
  have:=hm.nth (i:=0) a7;omega
 exact Nat.lt_of_lt_of_le (Nat.lt_of_lt_of_le (lG hl) (Nat.pow_le_pow_right hB a7)) (zh3 hm ht hn)
end
theorem zlN (B:Nat):∀(n:Nat) (fuel:Nat) (l:List Int),l.length=n→n+1≤fuel→∃r,j5 fuel l=some r∧val B r=val B l∧Trm r∧(Dig B l→Dig B r)∧r.length≤l.length:=by
 intro n
 induction n with
 |zero=>
  intro fuel l hl hf;obtain ⟨f,rfl⟩:∃q,fuel=q+1:=⟨fuel - 1,by omega⟩;obtain rfl:=List.eq_nil_of_length_eq_zero hl;exact ⟨[],rfl,rfl, .inl rfl,id,Nat.le_refl _⟩
 |succ n ih=>
  intro fuel l hl hf;obtain ⟨f,rfl⟩:∃q,fuel=q+1:=⟨fuel - 1,by omega⟩;have e:j5 (f+1) l=bif ((decide (0<(l.length:Int)))&&(decide ((nth l (((l.length:Int) - 1).toNat))=0))) then j5 f (l.take (((l.length:Int) - 1).toNat)) else some l:=rfl;rw [e,decide_eq_true a7,Bool.true_and,show (((l.length:Int) - 1).toNat)=l.length - 1 by omega];by_cases h0:nth l (l.length - 1)=0
  ·rw [decide_eq_true h0,cond_true];obtain ⟨r,h1,h2,h3,h4,h5⟩:=ih f (l.take (l.length - 1)) cP a7;refine ⟨r,h1,?_,h3,fun hd=>h4 (hd.take _),Nat.le_trans h5 cP⟩;have h6:=jc (B:=B) (l:=l) (i:=l.length - 1) a7;rw [show l.length - 1+1=l.length by omega,List.take_length,h0] at h6;rw [h2,h6];simp
  ·rw [decide_eq_false h0,cond_false];exact ⟨l,rfl,rfl, .inr h0,id,Nat.le_refl _⟩
theorem zkM {B:Nat}{x y:List Int}(hx:Dig B x)(hy:Dig B y)(tx:Trm x)(ty:Trm y):zby x y=if val B x<val B y then -1 else if val B y<val B x then 1 else 0:=by
 unfold zby;by_cases hl:x.length=y.length
 ·rw [decide_eq_false a7,cond_false];simp only [dF]
  have key:∀m,m≤x.length→gz (fun (i_5:Nat) (next4:Unit→Int) (_:Unit)=>
    (bif decide ((nth x i_5)<(nth y i_5)) then
     (-1)
     else
     (bif decide ((nth y i_5)<(nth x i_5)) then
      1
      else
      next4 ()))) (fun _=>(0:Int)) m ()=if val B (x.take m)<val B (y.take m) then -1 else if val B (y.take m)<val B (x.take m) then 1 else 0:=by
   intro m
   induction m with
   |zero=>intro _;rfl
   |succ m ih=>
    intro hm;have a1:=hx.nth (i:=m) a7;have a2:=hy.nth (i:=m) a7;have b1:=lG (hx.take m);have b2:=lG (hy.take m);rw [List.length_take,Nat.min_eq_left a7] at b1 b2;rw [zlE,jc a7,jc a7]; (try dsimp only)
    have mono:∀p q:Nat,p<q→B ^ m*p+B ^ m≤B ^ m*q:=fun p q h=>by
     have:=Nat.mul_le_mul_left (B ^ m) (show p+1≤q by omega);rw [Nat.mul_add,Nat.mul_one] at this;exact this
    by_cases h1:nth x m<nth y m
    ·have:=mono (nth x m).toNat (nth y m).toNat a7;rw [decide_eq_true h1,cond_true,if_pos a7]
    ·rw [decide_eq_false h1,cond_false];by_cases h2:nth y m<nth x m
     ·have:=mono (nth y m).toNat (nth x m).toNat a7;rw [decide_eq_true h2,cond_true,if_neg a7,if_pos a7]
     ·rw [decide_eq_false h2,cond_false,ih a7,show nth x m=nth y m by omega];generalize B ^ m* (nth y m).toNat=z
      repeat' split
      all_goals (first|rfl|(exfalso;omega))
  have:=key x.length (Nat.le_refl _);rw [List.take_length,hl,List.take_length] at this;rw [←hl] at this;exact this
 ·rw [decide_eq_true a7,cond_true];by_cases h:x.length<y.length
  ·rw [decide_eq_true a7,cond_true,if_pos (ze5 hx hy ty h)]
  ·have:=ze5 hy hx tx a7;rw [decide_eq_false a7,cond_false,if_neg a7,if_pos this]
theorem zhD {a d s:Nat}(h:a<2 ^ s):a ||| (d*2 ^ s)=a+d*2 ^ s:=by
 have:=Nat.shiftLeft_add_eq_or_of_lt h d;rw [Nat.shiftLeft_eq] at this;rw [Nat.or_comm,←this];omega
theorem zia (z:Int)(h:0≤z):IntKind.u32.wrap z=z % 4294967296:=by
 refine q29 ?_;simp
theorem zed (z:Int)(h:0≤z∧z<4294967296):IntKind.u32.wrap z=z:=by
 rw [zia z h.1];omega
theorem zlv {a b:Int}(ha:0≤a∧a<4294967296)(hb:0≤b∧b<4294967296):orK .u32 a b=((a.toNat ||| b.toNat:Nat):Int):=by
 unfold orK; (have e1:(BitVec.ofInt 32 a).toNat=a.toNat:=by rw [BitVec.toNat_ofInt];omega); (have e2:(BitVec.ofInt 32 b).toNat=b.toNat:=by rw [BitVec.toNat_ofInt];omega);rw [show IntKind.u32.bits=32 from rfl,BitVec.toNat_or,e1,e2];have h:a.toNat ||| b.toNat<2 ^ 32:=Nat.or_lt_two_pow a7 a7;rw [zed _ a7]
@[irreducible] def c8:Nat:=4294967296
theorem iN:c8=4294967296:=by unfold c8;rfl
theorem iB:0<c8:=by rw [iN];decide
theorem poly3 (W a a1 a2:Nat):a2+W* (a1+W*a)=(a*W+a1) *W+a2:=by
 rw [Nat.mul_add,Nat.add_mul,Nat.mul_comm W (W*a),Nat.mul_comm W a,Nat.mul_comm W a1];omega
theorem ofI {z:Int}(h:0≤z∧z<18446744073709551616):(BitVec.ofInt 64 z).toNat=z.toNat:=by
 rw [BitVec.toNat_ofInt];omega
theorem kL {z:Int}(h:0≤z∧z<(c8:Int)):(BitVec.ofInt 64 z).toNat=z.toNat:=ofI (by rw [iN] at h;omega)
theorem zkl {a b:BitVec 64}(h:a.toNat+b.toNat<18446744073709551616):(a+b).toNat=a.toNat+b.toNat:=by
 rw [BitVec.toNat_add];omega
theorem zlC {a b:BitVec 64}(h:a.toNat*b.toNat<18446744073709551616):(a*b).toNat=a.toNat*b.toNat:=by
 rw [BitVec.toNat_mul,Nat.mod_eq_of_lt a7]
theorem zh8 (a:BitVec 64)(k:Nat):(a >>> k).toNat=a.toNat / 2 ^ k:=by
 rw [BitVec.toNat_ushiftRight,Nat.shiftRight_eq_div_pow]
theorem zjh {a b:BitVec 64}(ha:a.toNat<4294967296)(hb:b.toNat<4294967296):((a <<< 32) ||| b).toNat=a.toNat*4294967296+b.toNat:=by
 rw [BitVec.toNat_or,BitVec.toNat_shiftLeft,Nat.shiftLeft_eq,Nat.mod_eq_of_lt a7];have:=zhD (a:=b.toNat) (d:=a.toNat) (s:=32) a7;rw [Nat.or_comm,this];omega
structure QIn (u v:List Int) (n:Nat):Prop where
 n2:2≤n
 vl:v.length=n
 ul:u.length=n+1
 du:Dig c8 u
 dv:Dig c8 v
 top:2147483648≤nth v (n - 1)
 lt:val c8 u<c8*val c8 v
section
variable {u v:List Int}{n:Nat}
theorem QIn.parts (h:QIn u v n):val c8 u=val c8 (u.take (n - 2))+c8 ^ (n - 2) * (((nth u n).toNat*c8+(nth u (n - 1)).toNat) *c8+(nth u (n - 2)).toNat)∧val c8 v=val c8 (v.take (n - 2))+c8 ^ (n - 2) * ((nth v (n - 1)).toNat*c8+(nth v (n - 2)).toNat)∧val c8 (u.take (n - 2))<c8 ^ (n - 2)∧val c8 (v.take (n - 2))<c8 ^ (n - 2):=by
 have:=h.n2;have hu:=h.ul;have hv:=h.vl;have b1:=lG (h.du.take (n - 2));have b2:=lG (h.dv.take (n - 2));rw [List.length_take,Nat.min_eq_left a7] at b1 b2;refine ⟨?_,?_,b1,b2⟩
 ·rw [ze3 (n - 2) a7,zdP a7,show n - 2+1=n - 1 by omega,zdP a7,show n - 1+1=n by omega,zdP a7,List.drop_eq_nil_of_le a7];simp only [val,Nat.mul_zero,Nat.add_zero];rw [poly3]
 ·rw [ze3 (n - 2) a7,zdP a7,show n - 2+1=n - 1 by omega,zdP a7,show n - 1+1=n by omega,List.drop_eq_nil_of_le a7];simp only [val,Nat.mul_zero,Nat.add_zero];rw [Nat.mul_comm (nth v (n - 1)).toNat c8,Nat.add_comm (nth v (n - 2)).toNat]
theorem QIn.lo (h:QIn u v n){Q:Nat}(hQ:Q*val c8 v≤val c8 u):Q* ((nth v (n - 1)).toNat*c8+(nth v (n - 2)).toNat)≤((nth u n).toNat*c8+(nth u (n - 1)).toNat) *c8+(nth u (n - 2)).toNat:=by
 obtain ⟨h1,h2,h3,h4⟩:=h.parts;generalize ((nth u n).toNat*c8+(nth u (n - 1)).toNat) *c8+(nth u (n - 2)).toNat=T at *;generalize (nth v (n - 1)).toNat*c8+(nth v (n - 2)).toNat=W at *;generalize c8 ^ (n - 2)=b at *; (have hb:0<b:=by omega);rw [h1,h2,Nat.mul_add] at hQ; (have e:Q* (b*W)=b* (Q*W):=by rw [←Nat.mul_assoc,Nat.mul_comm Q b,Nat.mul_assoc]);rw [e] at hQ;refine Nat.le_of_lt_succ (Nat.lt_of_mul_lt_mul_left (a:=b) ?_);rw [Nat.succ_eq_add_one,Nat.mul_add,Nat.mul_one];omega
theorem QIn.hi (h:QIn u v n){q:Nat}(hq:q<c8)(ht:q* ((nth v (n - 1)).toNat*c8+(nth v (n - 2)).toNat)≤((nth u n).toNat*c8+(nth u (n - 1)).toNat) *c8+(nth u (n - 2)).toNat):q≤val c8 u / val c8 v+1:=by
 obtain ⟨h1,h2,h3,h4⟩:=h.parts;have htop:=h.top
 have hW:c8≤(nth v (n - 1)).toNat*c8+(nth v (n - 2)).toNat:=by
  have:=Nat.mul_le_mul_right c8 (show 1≤(nth v (n - 1)).toNat by omega);omega
 generalize ((nth u n).toNat*c8+(nth u (n - 1)).toNat) *c8+(nth u (n - 2)).toNat=T at *;generalize (nth v (n - 1)).toNat*c8+(nth v (n - 2)).toNat=W at *;generalize c8 ^ (n - 2)=b at *; (have hb:0<b:=by omega)
 have hV:0<val c8 v:=by
  have:=Nat.mul_le_mul hb hW;have:=iB;omega
 refine Nat.le_of_not_lt fun hlt=>?_;have hlt2:=Nat.lt_mul_div_succ (val c8 u) hV;generalize val c8 u / val c8 v=Q at hlt hlt2
 have h5:val c8 v* (Q+1)≤val c8 v* (q - 1):=Nat.mul_le_mul_left _ a7; (have h6:val c8 v≤b*W+b:=by omega);have h7:val c8 v* (q - 1)≤(b*W+b) * (q - 1):=Nat.mul_le_mul_right _ h6;have h8:b* (q*W)≤b*T:=Nat.mul_le_mul_left _ ht; (have h9:(b*W+b) * (q - 1)=b* ((W+1) * (q - 1)):=by rw [←Nat.mul_assoc,Nat.mul_add,Nat.mul_one])
 have h10:b* (q*W)<b* ((W+1) * (q - 1)):=by
  rw [←h9];exact Nat.lt_of_le_of_lt (Nat.le_trans h8 (by rw [h1];exact Nat.le_add_left _ _)) (Nat.lt_of_lt_of_le hlt2 (Nat.le_trans h5 h7))
 have h11:=Nat.lt_of_mul_lt_mul_left h10;obtain ⟨p,rfl⟩:∃p,q=p+1:=⟨q - 1,by omega⟩;rw [show p+1 - 1=p by omega,Nat.add_mul,Nat.add_mul,Nat.mul_comm p W] at h11;omega
theorem QIn.topu (h:QIn u v n):(nth u n).toNat≤(nth v (n - 1)).toNat:=by
 obtain ⟨h1,h2,h3,h4⟩:=h.parts;have hlt:=h.lt;have d1:=h.dv.nth (i:=n - 2) (by have:=h.n2;have:=h.vl;omega);refine Nat.le_of_not_lt fun hc=>?_;rw [h1,h2] at hlt;generalize c8 ^ (n - 2)=b at *;generalize (nth u n).toNat=a at *;generalize (nth v (n - 1)).toNat=c at *;generalize (nth u (n - 1)).toNat=a1 at *;generalize (nth u (n - 2)).toNat=a2 at *;generalize hv2:(nth v (n - 2)).toNat=c2 at *; (have hc2:c2+1≤c8:=by omega)
 have h5:b* (c*c8+c2)+b≤b* (c*c8+c8):=by
  have:=Nat.mul_le_mul_left b (show c*c8+c2+1≤c*c8+c8 by omega);rw [Nat.mul_add b _ 1,Nat.mul_one] at this;exact this
 have h6:b* (c*c8+c8)≤b* (a*c8):=Nat.mul_le_mul_left _ (by
  have:=Nat.mul_le_mul_right c8 (show c+1≤a by omega)
  rw [Nat.add_mul,Nat.one_mul] at this;exact this)
 have h7:c8* (val c8 (v.take (n - 2))+b* (c*c8+c2))≤c8* (b* (a*c8)):=Nat.mul_le_mul_left _ a7; (have h8:c8* (b* (a*c8))=b* (a*c8*c8):=by rw [Nat.mul_comm,Nat.mul_assoc]);have h9:b* (a*c8*c8)≤b* ((a*c8+a1) *c8+a2):=Nat.mul_le_mul_left _ (by rw [Nat.add_mul];omega);omega
end
end Go.Proofs.YtmnjbhkcfghebaaGreatDoor
