/- Yl Ca P1 P2 P3: shortened and put together by squeeze.py. -/
import Derived.Test.YtmnjbhkcfghebaaGreatDoorQ12
set_option maxRecDepth 100000
set_option maxHeartbeats 4000000
set_option linter.unusedVariables false
set_option linter.unusedSectionVars false
set_option linter.unusedSimpArgs false
namespace Go.Proofs.YtmnjbhkcfghebaaGreatDoor
open Go.RowKit
def d6 (F:Frz)(c:List Value)(x:List GBid):Prop:=∃(v0:Value) (cs0:List (List Value)),c=[v0]∧SlD c7 F v0 7 cs0 x
theorem R_List_GBid.mono {F G:Frz}{c:List Value}{x:List GBid}(hle:F.Le G)(h:d6 F c x):d6 G c x:=by
 obtain ⟨v0,cs0,h0,h1⟩:=h;exact ⟨v0,cs0,h0,SlD.mono (rep:=c7) (fun _ _ _ _=>GBid.mono) h1 hle⟩
theorem R_List_GBid.len {F:Frz}{c:List Value}{x:List GBid}(h:d6 F c x):c.length=1:=by
 obtain ⟨v0,cs0,h0,h1⟩:=h;subst h0;rfl
theorem R_List_GBid.one {F:Frz}{c:List Value}{x:List GBid}(h:d6 F c x):OneCs c:=by
 obtain ⟨v0,cs0,h0,h1⟩:=h;subst h0;haveI:=h1.1.oneC
 infer_instance
theorem gc {F:Frz}{c:List Value}{x:List GBid}(h:d6 F c x):c[0]?=some (cS c 0)∧∃cs,SlD c7 F (cS c 0) 7 cs x:=by
 obtain ⟨v0,cs0,h0,h1⟩:=h;subst h0;exact ⟨rfl,cs0,h1⟩
theorem ks {F:Frz}{c:List Value}{x:List GBid}(h:d6 F c x):(c.drop 0).take 1=[cS c 0]:=by
 obtain ⟨v0,cs0,h0,h1⟩:=h;subst h0;rfl
def zdn (l:List GProduct)(bidders:List GBidder)(key:List Int)(rounds:List (List GBid)):Bool:=
 (bif ((((decide (10<(l.length:Int)))||(decide (6<(bidders.length:Int))))||(decide (40<(key.length:Int))))||(decide (4<(rounds.length:Int)))) then
  false
  else
  dF (fun (_:Unit)=>
   true)
  (fun k5=>
   dq (fun (i_7:Nat) (next6:Unit→Bool) (_:Unit)=>
    (bif decide (16<((cS rounds i_7).length:Int)) then
     false
     else
     next6 ()))
   (fun (_:Unit)=>
    k5 ()) (rounds.length - 0) 0 ()))
theorem zhR (F0:Frz)(w:World)(hF0:F0.At w)(l:List GProduct)(vl:Value)(hl:SlC F0 vl 5 (l.map cV))(bidders:List GBidder)(vbidders:Value)(cbidders:List (List Value))(hbidders:SlD cT F0 vbidders 4 cbidders bidders)(key:List Int)(vkey:Value)(hkey:SlC F0 vkey 1 (key.map (eK .u8)))(rounds:List (List GBid))(vrounds:Value)(crounds:List (List Value))(hrounds:SlD d6 F0 vrounds 1 crounds rounds):Calls Tryz.prog 16 #[vl,vbidders,vkey,vrounds] w fun e w'=>e= .returned (.bool (zdn l bidders key rounds))∧Below w.heap.size w w':=by
 obtain ⟨r,hk⟩:∃r,zdn l bidders key rounds=r:=⟨_,rfl⟩;rw [hk];unfold zdn at hk;haveI:=hl.oneC;haveI:=hbidders.1.oneC;haveI:=hkey.oneC;haveI:=hrounds.1.oneC;obtain ⟨S0,F1,rfl,hS0,hp0⟩:=dY hF0;refine dG Tryz.func16 rfl rfl rfl hp0 ?_;refine fS ?_;refine hI ?_;refine c9 (ι:=Unit) (fun z=>[(3,vrounds),(27, .bool ((((decide (10<(l.length:Int)))||(decide (6<(bidders.length:Int))))||(decide (40<(key.length:Int))))||(decide (4<(rounds.length:Int)))))]) (fun z=>[.fr F1]) (fun z=>True) ?_ ?_
 ·refine ec ?_;refine j4 ?_;have hm11:l.length≤9223372036854775807:=(List.length_map _)▸hl.max;refine d4 ?_;refine db rfl rfl rfl (fun h1=>?_) (fun h1=>?_)
  ·have p1:=of_decide_eq_true h1;refine q3W ?_;exact cY () trivial (.c (.b (dQ (dQ (dQ h1))).symm .nil)) (List.Sublist.refl _)
  ·have p1:=of_decide_eq_false h1;refine dr ?_;refine q2D ?_;have hm15:bidders.length≤9223372036854775807:=hbidders.2.1▸hbidders.1.max;refine fA ?_;refine db rfl rfl rfl (fun h2=>?_) (fun h2=>?_)
   ·have p2:=of_decide_eq_true h2;refine q2V ?_;exact cY () trivial (.c (.b (dQ (dQ (dZ h1 h2))).symm .nil)) (List.Sublist.refl _)
   ·have p2:=of_decide_eq_false h2;refine q1J ?_;have hm20:key.length≤9223372036854775807:=(List.length_map _)▸hkey.max;refine fA ?_;refine db rfl rfl rfl (fun h3=>?_) (fun h3=>?_)
    ·have p3:=of_decide_eq_true h3;refine iz ?_;exact cY () trivial (.c (.b (dQ (dZ (dZ h1 h2) h3)).symm .nil)) (List.Sublist.refl _)
    ·have p3:=of_decide_eq_false h3;refine dr ?_;refine cU (dn rfl rfl hrounds.1 hrounds.2.1) ?_;have hm25:rounds.length≤9223372036854775807:=hrounds.2.1▸hrounds.1.max;refine hY ?_;exact cY () trivial (.c (.b (fg (dZ (dZ h1 h2) h3)) .nil)) (List.Sublist.refl _)
 ·rintro _ _;have hm11:l.length≤9223372036854775807:=(List.length_map _)▸hl.max;have hm15:bidders.length≤9223372036854775807:=hbidders.2.1▸hbidders.1.max;have hm20:key.length≤9223372036854775807:=(List.length_map _)▸hkey.max;have hm25:rounds.length≤9223372036854775807:=hrounds.2.1▸hrounds.1.max;refine T.cond rfl (fun h4=>?_) (fun h4=>?_)
  ·replace hk:=dj hk h4;refine gw ?_;subst hk;exact dS
  ·have p4:=h4; (try simp only [gH] at p4);replace hk:=di hk h4;refine il ?_;refine dJ ?_;have hq:=dP hk;clear hk;obtain ⟨k5,hk5,hk⟩:=hq; (try dsimp only at hk);refine c9 (ι:=Unit) (fun z=>[]) (fun z=>[.fr F1]) (fun z=>k5 ()=r) ?_ ?_
   ·have hq:=eX hk;clear hk;obtain ⟨f6,kk6,hf6,hkk6,hk⟩:=hq;refine ed ?_;refine T.loop (ι:=Nat) (fun z=>[(3,vrounds),(9, .int .i64 (z:Int))]) (fun z=>[.fr F1]) (fun z=>dq f6 kk6 (rounds.length - z) z ()=r) (fun z=>rounds.length - z) 0 ?_ ?_ ?_ ?_
    ·exact hk
    ·exact (.c (.c .nil))
    ·exact eb
    ·rintro i_7 hk;refine hD ?_;refine cU (dn rfl rfl hrounds.1 hrounds.2.1) ?_;refine dJ ?_;refine T.cond rfl (fun h8=>?_) (fun h8=>?_)
     ·have p8:=of_decide_eq_true h8;rw [eW a7] at hk;generalize hn6:dq f6 kk6 (rounds.length - (i_7+1)) (i_7+1)=next6 at hk;rw [←hf6] at hk; (try dsimp only at hk);refine i3 ?_;refine cU (dc (i:=i_7) rfl rfl rfl hrounds.1 hrounds.2.1 rfl a7) ?_;refine cU (eZ 0 (i:=i_7) (j:=0) rfl rfl rfl hrounds.1 hrounds.2.1 a7 rfl (gc (hrounds.2.2 i_7 a7)).1) ?_;obtain ⟨cs37_0,hd37_0⟩:=(gc (hrounds.2.2 i_7 a7)).2;haveI:=hd37_0.1.oneC;refine cU (dn rfl rfl hd37_0.1 hd37_0.2.1) ?_;have hm38:(cS rounds i_7).length≤9223372036854775807:=hd37_0.2.1▸hd37_0.1.max;refine dJ ?_;refine T.cond rfl (fun h9=>?_) (fun h9=>?_)
      ·have p9:=of_decide_eq_true h9;replace hk:=dj hk h9;refine kp ?_;subst hk;exact dS
      ·have p9:=of_decide_eq_false h9;replace hk:=di hk h9;refine q4i ?_;rw [←hn6] at hk;exact K.next (i_7+1) hk a7 (.c (.c .nil)) (List.Sublist.refl _)
     ·have p8:=of_decide_eq_false h8;rw [eY a7,←hkk6] at hk; (try dsimp only at hk);refine ek ?_;exact jh
   ·rintro _ hk;rw [←hk5] at hk; (try dsimp only at hk);refine iU ?_;subst hk;exact dS
def zcA (fuel : Nat)  : Option Bool :=
 (ze0 [(GProduct.mk 0 1 2 1 100)] [(GBidder.mk 0 2 0 [2]),(GBidder.mk 1 2 0 [1])] (GIncrement.mk 100 10) ([107,101,121]:List Int)).bind fun r25=>
 (bif (r25.1).isSome then
  dF (fun (x_2:Bool)=>
   (bif x_2 then
    some false
    else
    (zfY fuel 1 2).bind fun r55=>
    (zbA fuel (r25.1.getD default) [(GBid.mk 0 0 (-2) (GRatio.mk (GInt.mk r55.Num.Neg r55.Num.Digits) (GInt.mk r55.Den.Neg r55.Den.Digits)))]).bind fun r61=>
    (zd8 fuel [(GBid.mk 0 0 (-2) (GRatio.mk (GInt.mk r55.Num.Neg r55.Num.Digits) (GInt.mk r55.Den.Neg r55.Den.Digits)))]).bind fun r66=>
    (zaw (GAuction.mk ((r25.1.getD default).catalogue) r61.2.2.1 (GIncrement.mk ((r25.1.getD default).increment.Activity) ((r25.1.getD default).increment.Step)) ((r25.1.getD default).key) r61.2.2.2.1 r61.2.2.2.2) 0).bind fun r71=>
    (zaw (GAuction.mk ((r25.1.getD default).catalogue) r61.2.2.1 (GIncrement.mk ((r25.1.getD default).increment.Activity) ((r25.1.getD default).increment.Step)) ((r25.1.getD default).key) r61.2.2.2.1 r61.2.2.2.2) 1).bind fun r76=>
    dF (fun (x_8:Bool)=>
     some x_8)
    (fun k9=>
     (bif decide (r61.2.1=0) then
      (bif decide (r66.2=0) then
       (bif decide (r71.2=0) then
        (bif decide (r76.2=0) then
         (bif (jy r61.1 [(-1)]) then
          (zaN (GAuction.mk ((r25.1.getD default).catalogue) r61.2.2.1 (GIncrement.mk ((r25.1.getD default).increment.Activity) ((r25.1.getD default).increment.Step)) ((r25.1.getD default).key) r61.2.2.2.1 r61.2.2.2.2)).bind fun r100=>
          (bif (jy r100 [105]) then
           (zaI (GAuction.mk ((r25.1.getD default).catalogue) r61.2.2.1 (GIncrement.mk ((r25.1.getD default).increment.Activity) ((r25.1.getD default).increment.Step)) ((r25.1.getD default).key) r61.2.2.2.1 r61.2.2.2.2)).bind fun r106=>
           (bif r106 then
            (zaK (GAuction.mk ((r25.1.getD default).catalogue) r61.2.2.1 (GIncrement.mk ((r25.1.getD default).increment.Activity) ((r25.1.getD default).increment.Step)) ((r25.1.getD default).key) r61.2.2.2.1 r61.2.2.2.2)).bind fun r110=>
            (bif decide (r110=210) then
             (zaR (GAuction.mk ((r25.1.getD default).catalogue) r61.2.2.1 (GIncrement.mk ((r25.1.getD default).increment.Activity) ((r25.1.getD default).increment.Step)) ((r25.1.getD default).key) r61.2.2.2.1 r61.2.2.2.2)).bind fun r115=>
             (bif decide (r115=2) then
             (bif decide (r71.1.Eligibility=1) then
             (bif decide (r76.1.Eligibility=1) then
             k9 ((u8s r66.1) == ([1,0,0,3,1,2]:List UInt8))
             else
             k9 false)
             else
             k9 false)
             else
             k9 false)
             else
             k9 false)
            else
            k9 false)
           else
           k9 false)
          else
          k9 false)
         else
         k9 false)
        else
        k9 false)
       else
       k9 false)
      else
      k9 false))))
  (fun k3=>
   (bif decide (¬r25.2=0) then
    k3 true
    else
    (zan (r25.1.getD default)).bind fun r36=>
    (bif !(jy r36 [1]) then
     k3 true
     else
     (zaN (r25.1.getD default)).bind fun r43=>
     (bif !(jy r43 [100]) then
      k3 true
      else
      (zaC (r25.1.getD default)).bind fun r50=>
      k3 (!(jy r50 [110]))))))
  else
  none)
theorem zeX (F0 : Frz)(w : World)(hF0 : F0.At w)  (hgl : GlF F0)(fuel : Nat)(r : Bool)(hr : zcA fuel = some r) : Calls Tryz.prog 11 #[] w fun e w' => e = .returned (.bool r) ∧ Below w.heap.size w w' := by
 have hk:=hr;unfold zcA at hk;obtain ⟨S0,F1,rfl,hS0,hp0⟩:=dY hF0;refine dG Tryz.func11 rfl rfl rfl hp0 ?_;refine io ?_;refine iP ?_;refine ga ?_;rintro _ _ ⟨g14,rfl,rfl⟩;refine fI ?_;refine gP (fun w hw=>hw.freezeR (i:=1) (j:=0) a8 rfl rfl) ?_;rintro F2 ⟨le1_2,hz2⟩;refine eH ?_;have hfF2:SlC F2.toFrz (.slice (some ⟨g14,0,none⟩) 1 1) 5 ([(GProduct.mk 0 1 2 1 100)].map cV):=(SlK.lit hz2 rfl (Nat.le_refl _) a8).toF (xs:=[(GProduct.mk 0 1 2 1 100)]) rfl GProduct.len;have hq:=dm hk;clear hk;obtain ⟨r25,hr25,hk⟩:=hq; (try dsimp only at hk);refine T.bz ((r25.1).isSome) (fun h1=>?_) (fun h1=>?_)
 ·replace hk:=dj hk h1;refine ec ?_;refine ga ?_;rintro _ _ ⟨g17,rfl,rfl⟩;refine q14 ?_;rintro F3 ⟨le2_3,hz3⟩;refine eH ?_;have le1_3:=le1_2.trans le2_3;have hfF3:SlC F3.toFrz (.slice (some ⟨g17,0,none⟩) 1 1) 1 ([2].map eI):=(SlK.lit hz3 rfl (Nat.le_refl _) a8).toF (xs:=[2]) rfl (fun _=>rfl);refine iP ?_;refine ga ?_;rintro _ _ ⟨g19,rfl,rfl⟩;refine q14 ?_;rintro F4 ⟨le3_4,hz4⟩;refine eH ?_;have le1_4:=le1_3.trans le3_4;have le2_4:=le2_3.trans le3_4;have hfF4:SlC F4.toFrz (.slice (some ⟨g19,0,none⟩) 1 1) 1 ([1].map eI):=(SlK.lit hz4 rfl (Nat.le_refl _) a8).toF (xs:=[1]) rfl (fun _=>rfl);refine iP ?_;refine ga ?_;rintro _ _ ⟨g21,rfl,rfl⟩;have hl21:OwnD cT F4.toFrz 4 [[.int .i64 0, .int .i64 2, .int .i64 0,(.slice (some ⟨g17,0,none⟩) 1 1)],[.int .i64 1, .int .i64 2, .int .i64 0,(.slice (some ⟨g19,0,none⟩) 1 1)]] [(GBidder.mk 0 2 0 [2]),(GBidder.mk 1 2 0 [1])]:=(eu (eu (OwnD.nil _ _ 4) ⟨_,rfl,(SlC.mono hfF3 le3_4)⟩) ⟨_,rfl,hfF4⟩);refine q14 ?_;rintro F5 ⟨le4_5,hz5⟩;refine eH ?_;have le1_5:=le1_4.trans le4_5;have le2_5:=le2_4.trans le4_5;have hfF5:SlD cT F5.toFrz (.slice (some ⟨g21,0,none⟩) 2 2) 4 [[.int .i64 0, .int .i64 2, .int .i64 0,(.slice (some ⟨g17,0,none⟩) 1 1)],[.int .i64 1, .int .i64 2, .int .i64 0,(.slice (some ⟨g19,0,none⟩) 1 1)]] [(GBidder.mk 0 2 0 [2]),(GBidder.mk 1 2 0 [1])]:=(SlK.lit hz5 rfl (Nat.le_refl _) a8).toD (OwnD.mono (rep:=cT) (fun _ _ _ _=>GBidder.mono) hl21 le4_5) rfl;refine iP ?_;refine ga ?_;rintro _ _ ⟨g23,rfl,rfl⟩;refine q4k ?_;rintro _ _ ⟨F6,⟨le5_6,hf24⟩,rfl,rfl⟩;refine eH ?_;have le1_6:=le1_5.trans le5_6;have le2_6:=le2_5.trans le5_6;haveI:=hf24.oneC;refine cZ (dV [0] [] [] rfl rfl rfl rfl a8 (fun w hw hw2 hF=>(zfI _ w hF [(GProduct.mk 0 1 2 1 100)] (.slice (some ⟨g14,0,none⟩) 1 1) (SlC.mono hfF2 le2_6) [(GBidder.mk 0 2 0 [2]),(GBidder.mk 1 2 0 [1])] (.slice (some ⟨g21,0,none⟩) 2 2) [[.int .i64 0, .int .i64 2, .int .i64 0,(.slice (some ⟨g17,0,none⟩) 1 1)],[.int .i64 1, .int .i64 2, .int .i64 0,(.slice (some ⟨g19,0,none⟩) 1 1)]] (SlD.mono (rep:=cT) (fun _ _ _ _=>GBidder.mono) hfF5 le5_6) (GIncrement.mk 100 10) ([107,101,121]:List Int) (.slice (some ⟨g23,0,none⟩) 3 3) hf24 r25 hr25).mono (fun e w' hp=>hp.1 h1))) ?_;rintro _ _ ⟨⟨g25_n,v25_n_0,v25_n_1,c25_n_1,v25_n_4,v25_n_6⟩,F7,le6_7,⟨hf25_n_0,hf25_n_1,hf25_n_4,hf25_n_6⟩,rfl,rfl⟩;refine eG ?_; (try dsimp only at hf25_n_0 hf25_n_1 hf25_n_4 hf25_n_6);have le1_7:=le1_6.trans le6_7;refine hN ?_;refine hI ?_; (try dsimp only at hk);have hq:=dP hk;clear hk;obtain ⟨k3,hk3,hk⟩:=hq; (try dsimp only at hk);refine c9 (ι:=Bool×FzB w (fun _=>False) S0) (fun z=>[(2, .pointer (some ⟨g25_n,0,none⟩)),(54, .bool z.1)]) (fun z=>[.row g25_n 104 [v25_n_0,v25_n_1, .int .i64 ((r25.1.getD default).increment.Activity), .int .i64 ((r25.1.getD default).increment.Step),v25_n_4, .int .i64 ((r25.1.getD default).rounds),v25_n_6], .fr z.2]) (fun z=>k3 z.1=some r∧F7.toFrz.Le z.2.toFrz) ?_ ?_
  ·refine gI ?_;refine db rfl rfl rfl (fun h4=>?_) (fun h4=>?_)
   ·have p4:=of_decide_eq_true h4;replace hk:=dj hk h4;refine TL.run 24 rfl ?_;refine e7 ?_;exact cY (true,F7) ⟨hk,(Frz.Le.refl _)⟩ (.c (.c .nil)) (List.Sublist.refl _)
   ·have p4:=of_decide_eq_false h4;replace hk:=di hk h4;refine dr ?_;refine q3Z ?_;refine fA ?_;have hq:=dm hk;clear hk;obtain ⟨r36,hr36,hk⟩:=hq;refine cZ (dV [0,1] [.row g25_n 104 [v25_n_0,v25_n_1, .int .i64 ((r25.1.getD default).increment.Activity), .int .i64 ((r25.1.getD default).increment.Step),v25_n_4, .int .i64 ((r25.1.getD default).rounds),v25_n_6]] [] rfl rfl rfl rfl a8 (fun w hw hw2 hF=>zaM _ w hF (r25.1.getD default) g25_n v25_n_0 hf25_n_0 v25_n_1 c25_n_1 hf25_n_1 v25_n_4 hf25_n_4 v25_n_6 hf25_n_6 hw2.takes.1 hw2.takes.2 r36 hr36)) ?_;rintro _ _ ⟨v36_0_0,F9,le7_9,hf36_0_0,hq,rfl⟩;obtain rfl:=hq.symm;refine eG ?_;haveI:=hf36_0_0.oneC;refine ga ?_;rintro _ _ ⟨g37,rfl,rfl⟩;refine q15 ?_;rintro F10 ⟨le9_10,hz10⟩;refine eH ?_;have le7_10:=le7_9.trans le9_10;have hfF10:SlC F10.toFrz (.slice (some ⟨g37,0,none⟩) 1 1) 1 ([1].map eI):=(SlK.lit hz10 rfl (Nat.le_refl _) a8).toF (xs:=[1]) rfl (fun _=>rfl);refine cZ (da rfl rfl rfl (fun w hw=>zcg _ w (hw.fr (i:=1) rfl) r36 v36_0_0 (SlC.mono hf36_0_0 le9_10) [1] (.slice (some ⟨g37,0,none⟩) 1 1) hfF10)) ?_;refine kV ?_;refine db rfl rfl rfl (fun h5=>?_) (fun h5=>?_)
    ·replace hk:=dj hk h5;refine TL.run 13 rfl ?_;refine e7 ?_;exact cY (true,F10) ⟨hk,le7_10⟩ (.c (.c .nil)) (List.Sublist.refl _)
    ·replace hk:=di hk h5;refine dr ?_;have hq:=dm hk;clear hk;obtain ⟨r43,hr43,hk⟩:=hq;refine cZ (dV [0,1] [.row g25_n 104 [v25_n_0,v25_n_1, .int .i64 ((r25.1.getD default).increment.Activity), .int .i64 ((r25.1.getD default).increment.Step),v25_n_4, .int .i64 ((r25.1.getD default).rounds),v25_n_6]] [] rfl rfl rfl rfl a8 (fun w hw hw2 hF=>zbs _ w hF (r25.1.getD default) g25_n v25_n_0 (SlC.mono hf25_n_0 le7_10) v25_n_1 c25_n_1 (SlD.mono (rep:=cT) (fun _ _ _ _=>GBidder.mono) hf25_n_1 le7_10) v25_n_4 (SlC.mono hf25_n_4 le7_10) v25_n_6 (SlC.mono hf25_n_6 le7_10) hw2.takes.1 hw2.takes.2 r43 hr43)) ?_;rintro _ _ ⟨v43_0_0,F11,le10_11,hf43_0_0,hq,rfl⟩;obtain rfl:=hq.symm;refine eG ?_;have le7_11:=le7_10.trans le10_11;haveI:=hf43_0_0.oneC;refine ga ?_;rintro _ _ ⟨g44,rfl,rfl⟩;refine q15 ?_;rintro F12 ⟨le11_12,hz12⟩;refine eH ?_;have le7_12:=le7_11.trans le11_12;have hfF12:SlC F12.toFrz (.slice (some ⟨g44,0,none⟩) 1 1) 1 ([100].map eI):=(SlK.lit hz12 rfl (Nat.le_refl _) a8).toF (xs:=[100]) rfl (fun _=>rfl);refine cZ (da rfl rfl rfl (fun w hw=>zcg _ w (hw.fr (i:=1) rfl) r43 v43_0_0 (SlC.mono hf43_0_0 le11_12) [100] (.slice (some ⟨g44,0,none⟩) 1 1) hfF12)) ?_;refine kV ?_;refine db rfl rfl rfl (fun h6=>?_) (fun h6=>?_)
     ·replace hk:=dj hk h6;refine q3b ?_;exact cY (true,F12) ⟨hk,le7_12⟩ (.c (.c .nil)) (List.Sublist.refl _)
     ·replace hk:=di hk h6;refine dr ?_;have hq:=dm hk;clear hk;obtain ⟨r50,hr50,hk⟩:=hq;refine cZ (dV [0,1] [.row g25_n 104 [v25_n_0,v25_n_1, .int .i64 ((r25.1.getD default).increment.Activity), .int .i64 ((r25.1.getD default).increment.Step),v25_n_4, .int .i64 ((r25.1.getD default).rounds),v25_n_6]] [] rfl rfl rfl rfl a8 (fun w hw hw2 hF=>zbv _ w hF (r25.1.getD default) g25_n v25_n_0 (SlC.mono hf25_n_0 le7_12) v25_n_1 c25_n_1 (SlD.mono (rep:=cT) (fun _ _ _ _=>GBidder.mono) hf25_n_1 le7_12) v25_n_4 (SlC.mono hf25_n_4 le7_12) v25_n_6 (SlC.mono hf25_n_6 le7_12) hw2.takes.1 hw2.takes.2 r50 hr50)) ?_;rintro _ _ ⟨v50_0_0,F13,le12_13,hf50_0_0,hq,rfl⟩;obtain rfl:=hq.symm;refine eG ?_;have le7_13:=le7_12.trans le12_13;haveI:=hf50_0_0.oneC;refine ga ?_;rintro _ _ ⟨g51,rfl,rfl⟩;refine q15 ?_;rintro F14 ⟨le13_14,hz14⟩;refine eH ?_;have le7_14:=le7_13.trans le13_14;have hfF14:SlC F14.toFrz (.slice (some ⟨g51,0,none⟩) 1 1) 1 ([110].map eI):=(SlK.lit hz14 rfl (Nat.le_refl _) a8).toF (xs:=[110]) rfl (fun _=>rfl);refine cZ (da rfl rfl rfl (fun w hw=>zcg _ w (hw.fr (i:=1) rfl) r50 v50_0_0 (SlC.mono hf50_0_0 le13_14) [110] (.slice (some ⟨g51,0,none⟩) 1 1) hfF14)) ?_;refine jB ?_;exact cY (!(jy r50 [110]),F14) ⟨hk,le7_14⟩ (.c (.c .nil)) (List.Sublist.refl _)
  ·rintro ⟨x_2,F8⟩ ⟨hk,le7_8⟩; (try dsimp only at *);rw [←hk3] at hk; (try dsimp only at hk);have le1_8:=le1_7.trans le7_8;refine T.cond rfl (fun h7=>?_) (fun h7=>?_)
   ·replace hk:=dj hk h7;refine gw ?_;obtain rfl:=Option.some.inj hk;exact dS
   ·replace hk:=di hk h7;refine fD ?_;have hq:=dm hk;clear hk;obtain ⟨r55,hr55,hk⟩:=hq; (try dsimp only at hk);refine fO ?_;refine cZ (dg 1 rfl rfl rfl rfl (fun w hw hF=>zh4 _ w hF 1 2 fuel r55 hr55)) ?_;rintro _ _ ⟨⟨v55_0_1,v55_0_3⟩,F15,le8_15,⟨hf55_0_1,hf55_0_3⟩,rfl,rfl⟩;dsimp only at hf55_0_1 hf55_0_3 ⊢;have le1_15:=le1_8.trans le8_15;have le7_15:=le7_8.trans le8_15;haveI:=hf55_0_1.oneC;haveI:=hf55_0_3.oneC;refine iP ?_;refine ga ?_;rintro _ _ ⟨g57,rfl,rfl⟩;have hl57:OwnD c7 F15.toFrz 7 [[.int .i64 0, .int .i64 0, .int .i64 (-2), .bool r55.Num.Neg,v55_0_1, .bool r55.Den.Neg,v55_0_3]] [(GBid.mk 0 0 (-2) (GRatio.mk (GInt.mk r55.Num.Neg r55.Num.Digits) (GInt.mk r55.Den.Neg r55.Den.Digits)))]:=(eu (OwnD.nil _ _ 7) ⟨_,_,rfl,hf55_0_1,hf55_0_3⟩);refine fI ?_;refine gP (fun w hw=>hw.freezeR (i:=2) (j:=0) a8 rfl rfl) ?_;rintro F16 ⟨le15_16,hz16⟩;refine eH ?_;have le1_16:=le1_15.trans le15_16;have le7_16:=le7_15.trans le15_16;have hfF16:SlD c7 F16.toFrz (.slice (some ⟨g57,0,none⟩) 1 1) 7 [[.int .i64 0, .int .i64 0, .int .i64 (-2), .bool r55.Num.Neg,v55_0_1, .bool r55.Den.Neg,v55_0_3]] [(GBid.mk 0 0 (-2) (GRatio.mk (GInt.mk r55.Num.Neg r55.Num.Digits) (GInt.mk r55.Den.Neg r55.Den.Digits)))]:=(SlK.lit hz16 rfl (Nat.le_refl _) a8).toD (OwnD.mono (rep:=c7) (fun _ _ _ _=>GBid.mono) hl57 le15_16) rfl;have hq:=dm hk;clear hk;obtain ⟨r61,hr61,hk⟩:=hq; (try dsimp only at hk);refine eo ?_;refine cZ (dV [0,1] [.row g25_n 104 [v25_n_0,v25_n_1, .int .i64 ((r25.1.getD default).increment.Activity), .int .i64 ((r25.1.getD default).increment.Step),v25_n_4, .int .i64 ((r25.1.getD default).rounds),v25_n_6]] [] rfl rfl rfl rfl a8 (fun w hw hw2 hF=>zdi _ w hF (r25.1.getD default) g25_n v25_n_0 (SlC.mono hf25_n_0 le7_16) v25_n_1 c25_n_1 (SlD.mono (rep:=cT) (fun _ _ _ _=>GBidder.mono) hf25_n_1 le7_16) v25_n_4 (SlC.mono hf25_n_4 le7_16) v25_n_6 (SlC.mono hf25_n_6 le7_16) [(GBid.mk 0 0 (-2) (GRatio.mk (GInt.mk r55.Num.Neg r55.Num.Digits) (GInt.mk r55.Den.Neg r55.Den.Digits)))] (.slice (some ⟨g57,0,none⟩) 1 1) [[.int .i64 0, .int .i64 0, .int .i64 (-2), .bool r55.Num.Neg,v55_0_1, .bool r55.Den.Neg,v55_0_3]] hfF16 (hgl.mono le1_16) hw2.takes.1 hw2.takes.2 fuel r61 hr61)) ?_;rintro _ _ ⟨⟨v61_0_0,v61_2_1,c61_2_1,v61_2_6⟩,F17,le16_17,⟨hf61_0_0,hf61_2_1,hf61_2_6⟩,rfl,rfl⟩;refine eG ?_; (try dsimp only at hf61_0_0 hf61_2_1 hf61_2_6);have le7_17:=le7_16.trans le16_17;haveI:=hf61_0_0.oneC;haveI:=hf61_2_1.1.oneC;haveI:=hf61_2_6.oneC;refine hN ?_;refine eR ?_;have hq:=dm hk;clear hk;obtain ⟨r66,hr66,hk⟩:=hq; (try dsimp only at hk);refine ec ?_;refine cZ (dg 1 rfl rfl rfl rfl (fun w hw hF=>zgb _ w hF [(GBid.mk 0 0 (-2) (GRatio.mk (GInt.mk r55.Num.Neg r55.Num.Digits) (GInt.mk r55.Den.Neg r55.Den.Digits)))] (.slice (some ⟨g57,0,none⟩) 1 1) [[.int .i64 0, .int .i64 0, .int .i64 (-2), .bool r55.Num.Neg,v55_0_1, .bool r55.Den.Neg,v55_0_3]] (SlD.mono (rep:=c7) (fun _ _ _ _=>GBid.mono) hfF16 le16_17) fuel r66 hr66)) ?_;rintro _ _ ⟨v66_0_0,F18,le17_18,hf66_0_0,rfl,rfl⟩;have le7_18:=le7_17.trans le17_18;haveI:=hf66_0_0.oneC;refine hN ?_;refine eR ?_;have hq:=dm hk;clear hk;obtain ⟨r71,hr71,hk⟩:=hq; (try dsimp only at hk);refine ec ?_;refine cZ (dV [0,1] [.row g25_n 104 [v25_n_0,v61_2_1, .int .i64 ((r25.1.getD default).increment.Activity), .int .i64 ((r25.1.getD default).increment.Step),v25_n_4, .int .i64 r61.2.2.2.1,v61_2_6]] [] rfl rfl rfl rfl a8 (fun w hw hw2 hF=>zbr _ w hF (GAuction.mk ((r25.1.getD default).catalogue) r61.2.2.1 (GIncrement.mk ((r25.1.getD default).increment.Activity) ((r25.1.getD default).increment.Step)) ((r25.1.getD default).key) r61.2.2.2.1 r61.2.2.2.2) g25_n v25_n_0 (SlC.mono hf25_n_0 le7_18) v61_2_1 c61_2_1 (SlD.mono (rep:=cT) (fun _ _ _ _=>GBidder.mono) hf61_2_1 le17_18) v25_n_4 (SlC.mono hf25_n_4 le7_18) v61_2_6 (SlC.mono hf61_2_6 le17_18) 0 hw2.takes.1 hw2.takes.2 r71 hr71)) ?_
    rintro _ _ ⟨v71_0_3,F19,le18_19,hf71_0_3,rfl,rfl⟩;refine eG ?_;have le7_19:=le7_18.trans le18_19;have le17_19:=le17_18.trans le18_19;haveI:=hf71_0_3.oneC;refine kb ?_;rintro _ _ ⟨g9,rfl,rfl⟩;refine fx ?_;refine fI ?_;have hq:=dm hk;clear hk;obtain ⟨r76,hr76,hk⟩:=hq; (try dsimp only at hk);refine ec ?_;refine cZ (dV [1,2,0] [.row g25_n 104 [v25_n_0,v61_2_1, .int .i64 ((r25.1.getD default).increment.Activity), .int .i64 ((r25.1.getD default).increment.Step),v25_n_4, .int .i64 r61.2.2.2.1,v61_2_6]] [.row g9 57 [.int .i64 r71.1.ID, .int .i64 r71.1.Eligibility, .int .i64 r71.1.Waivers,v71_0_3]] rfl rfl rfl rfl a8 (fun w hw hw2 hF=>zbr _ w hF (GAuction.mk ((r25.1.getD default).catalogue) r61.2.2.1 (GIncrement.mk ((r25.1.getD default).increment.Activity) ((r25.1.getD default).increment.Step)) ((r25.1.getD default).key) r61.2.2.2.1 r61.2.2.2.2) g25_n v25_n_0 (SlC.mono hf25_n_0 le7_19) v61_2_1 c61_2_1 (SlD.mono (rep:=cT) (fun _ _ _ _=>GBidder.mono) hf61_2_1 le17_19) v25_n_4 (SlC.mono hf25_n_4 le7_19) v61_2_6 (SlC.mono hf61_2_6 le17_19) 1 hw2.takes.1 hw2.takes.2 r76 hr76)) ?_;rintro _ _ ⟨v76_0_3,F20,le19_20,hf76_0_3,rfl,rfl⟩;refine eG ?_;have le7_20:=le7_19.trans le19_20;have le17_20:=le17_19.trans le19_20;have le18_20:=le18_19.trans le19_20;haveI:=hf76_0_3.oneC;refine kb ?_;rintro _ _ ⟨g11,rfl,rfl⟩;refine fx ?_;refine fI ?_; (try dsimp only at hk);have hq:=dP hk;clear hk;obtain ⟨k9,hk9,hk⟩:=hq; (try dsimp only at hk);refine c9 (ι:=Bool×FzB w (fun _=>False) S0) (fun z=>[(0, .bool z.1)]) (fun z=>[.fr z.2]) (fun z=>k9 z.1=some r∧F20.toFrz.Le z.2.toFrz) ?_ ?_
    ·refine gI ?_;refine db rfl rfl rfl (fun h10=>?_) (fun h10=>?_)
     ·have p10:=of_decide_eq_true h10;replace hk:=dj hk h10;refine TL.run 4 rfl ?_;refine db rfl rfl rfl (fun h11=>?_) (fun h11=>?_)
      ·have p11:=of_decide_eq_true h11;replace hk:=dj hk h11;refine TL.run 4 rfl ?_;refine db rfl rfl rfl (fun h12=>?_) (fun h12=>?_)
       ·have p12:=of_decide_eq_true h12;replace hk:=dj hk h12;refine TL.run 4 rfl ?_;refine db rfl rfl rfl (fun h13=>?_) (fun h13=>?_)
        ·have p13:=of_decide_eq_true h13;replace hk:=dj hk h13;refine dr ?_;refine ga ?_;rintro _ _ ⟨g95,rfl,rfl⟩;refine q3e ?_;rintro F22 ⟨le20_22,hz22⟩;refine eH ?_;have le7_22:=le7_20.trans le20_22;have le17_22:=le17_20.trans le20_22;have le18_22:=le18_20.trans le20_22;have hfF22:SlC F22.toFrz (.slice (some ⟨g95,0,none⟩) 1 1) 1 ([(-1)].map eI):=(SlK.lit hz22 rfl (Nat.le_refl _) a8).toF (xs:=[(-1)]) rfl (fun _=>rfl);refine cZ (da rfl rfl rfl (fun w hw=>zcg _ w (hw.fr (i:=2) rfl) r61.1 v61_0_0 (SlC.mono hf61_0_0 le17_22) [(-1)] (.slice (some ⟨g95,0,none⟩) 1 1) hfF22)) ?_;refine iy ?_;refine db rfl rfl rfl (fun h14=>?_) (fun h14=>?_)
         ·replace hk:=dj hk h14;refine dr ?_;have hq:=dm hk;clear hk;obtain ⟨r100,hr100,hk⟩:=hq;refine cZ (dV [1,2,0,3] [.row g25_n 104 [v25_n_0,v61_2_1, .int .i64 ((r25.1.getD default).increment.Activity), .int .i64 ((r25.1.getD default).increment.Step),v25_n_4, .int .i64 r61.2.2.2.1,v61_2_6]] [.row g11 57 [.int .i64 r76.1.ID, .int .i64 r76.1.Eligibility, .int .i64 r76.1.Waivers,v76_0_3], .row g9 57 [.int .i64 r71.1.ID, .int .i64 r71.1.Eligibility, .int .i64 r71.1.Waivers,v71_0_3]] rfl rfl rfl rfl a8 (fun w hw hw2 hF=>zbs _ w hF (GAuction.mk ((r25.1.getD default).catalogue) r61.2.2.1 (GIncrement.mk ((r25.1.getD default).increment.Activity) ((r25.1.getD default).increment.Step)) ((r25.1.getD default).key) r61.2.2.2.1 r61.2.2.2.2) g25_n v25_n_0 (SlC.mono hf25_n_0 le7_22) v61_2_1 c61_2_1 (SlD.mono (rep:=cT) (fun _ _ _ _=>GBidder.mono) hf61_2_1 le17_22) v25_n_4 (SlC.mono hf25_n_4 le7_22) v61_2_6 (SlC.mono hf61_2_6 le17_22) hw2.takes.1 hw2.takes.2 r100 hr100)) ?_;rintro _ _ ⟨v100_0_0,F23,le22_23,hf100_0_0,hq,rfl⟩;obtain rfl:=hq.symm;refine eG ?_;have le7_23:=le7_22.trans le22_23;have le17_23:=le17_22.trans le22_23;have le18_23:=le18_22.trans le22_23;have le20_23:=le20_22.trans le22_23;haveI:=hf100_0_0.oneC;refine ga ?_;rintro _ _ ⟨g101,rfl,rfl⟩;refine q15 ?_;rintro F24 ⟨le23_24,hz24⟩;refine eH ?_;have le7_24:=le7_23.trans le23_24;have le17_24:=le17_23.trans le23_24;have le18_24:=le18_23.trans le23_24;have le20_24:=le20_23.trans le23_24;have hfF24:SlC F24.toFrz (.slice (some ⟨g101,0,none⟩) 1 1) 1 ([105].map eI):=(SlK.lit hz24 rfl (Nat.le_refl _) a8).toF (xs:=[105]) rfl (fun _=>rfl);refine cZ (da rfl rfl rfl (fun w hw=>zcg _ w (hw.fr (i:=1) rfl) r100 v100_0_0 (SlC.mono hf100_0_0 le23_24) [105] (.slice (some ⟨g101,0,none⟩) 1 1) hfF24)) ?_;refine iy ?_;refine db rfl rfl rfl (fun h15=>?_) (fun h15=>?_)
          ·replace hk:=dj hk h15;refine dr ?_;have hq:=dm hk;clear hk;obtain ⟨r106,hr106,hk⟩:=hq;refine cZ (dV [0,1,2,3] [.row g25_n 104 [v25_n_0,v61_2_1, .int .i64 ((r25.1.getD default).increment.Activity), .int .i64 ((r25.1.getD default).increment.Step),v25_n_4, .int .i64 r61.2.2.2.1,v61_2_6]] [.row g11 57 [.int .i64 r76.1.ID, .int .i64 r76.1.Eligibility, .int .i64 r76.1.Waivers,v76_0_3], .row g9 57 [.int .i64 r71.1.ID, .int .i64 r71.1.Eligibility, .int .i64 r71.1.Waivers,v71_0_3]] rfl rfl rfl rfl a8 (fun w hw hw2 hF=>zbE _ w hF (GAuction.mk ((r25.1.getD default).catalogue) r61.2.2.1 (GIncrement.mk ((r25.1.getD default).increment.Activity) ((r25.1.getD default).increment.Step)) ((r25.1.getD default).key) r61.2.2.2.1 r61.2.2.2.2) g25_n v25_n_0 (SlC.mono hf25_n_0 le7_24) v61_2_1 c61_2_1 (SlD.mono (rep:=cT) (fun _ _ _ _=>GBidder.mono) hf61_2_1 le17_24) v25_n_4 (SlC.mono hf25_n_4 le7_24) v61_2_6 (SlC.mono hf61_2_6 le17_24) hw2.takes.1 hw2.takes.2 r106 hr106)) ?_;rintro _ _ ⟨⟨⟩,F25,le24_25, -,rfl,rfl⟩;refine eG ?_;have le7_25:=le7_24.trans le24_25;have le17_25:=le17_24.trans le24_25;have le18_25:=le18_24.trans le24_25;have le20_25:=le20_24.trans le24_25;refine d4 ?_;refine db rfl rfl rfl (fun h16=>?_) (fun h16=>?_)
           ·replace hk:=dj hk h16;refine dr ?_;have hq:=dm hk;clear hk;obtain ⟨r110,hr110,hk⟩:=hq;refine cZ (dB [0,1,2,3] [.row g25_n 104 [v25_n_0,v61_2_1, .int .i64 ((r25.1.getD default).increment.Activity), .int .i64 ((r25.1.getD default).increment.Step),v25_n_4, .int .i64 r61.2.2.2.1,v61_2_6]] [.row g11 57 [.int .i64 r76.1.ID, .int .i64 r76.1.Eligibility, .int .i64 r76.1.Waivers,v76_0_3], .row g9 57 [.int .i64 r71.1.ID, .int .i64 r71.1.Eligibility, .int .i64 r71.1.Waivers,v71_0_3]] rfl rfl rfl rfl a8 (fun w hw hw2 hF=>zbX _ w hF (GAuction.mk ((r25.1.getD default).catalogue) r61.2.2.1 (GIncrement.mk ((r25.1.getD default).increment.Activity) ((r25.1.getD default).increment.Step)) ((r25.1.getD default).key) r61.2.2.2.1 r61.2.2.2.2) g25_n v25_n_0 (SlC.mono hf25_n_0 le7_25) v61_2_1 c61_2_1 (SlD.mono (rep:=cT) (fun _ _ _ _=>GBidder.mono) hf61_2_1 le17_25) v25_n_4 (SlC.mono hf25_n_4 le7_25) v61_2_6 (SlC.mono hf61_2_6 le17_25) hw2.takes.1 hw2.takes.2 r110 hr110)) ?_;rintro _ _ ⟨⟨⟩, -,rfl,rfl⟩;refine eG ?_;refine fA ?_;refine db rfl rfl rfl (fun h17=>?_) (fun h17=>?_)
            ·have p17:=of_decide_eq_true h17;replace hk:=dj hk h17;refine dr ?_;have hq:=dm hk;clear hk;obtain ⟨r115,hr115,hk⟩:=hq;refine cZ (dB [0,1,2,3] [.row g25_n 104 [v25_n_0,v61_2_1, .int .i64 ((r25.1.getD default).increment.Activity), .int .i64 ((r25.1.getD default).increment.Step),v25_n_4, .int .i64 r61.2.2.2.1,v61_2_6]] [.row g11 57 [.int .i64 r76.1.ID, .int .i64 r76.1.Eligibility, .int .i64 r76.1.Waivers,v76_0_3], .row g9 57 [.int .i64 r71.1.ID, .int .i64 r71.1.Eligibility, .int .i64 r71.1.Waivers,v71_0_3]] rfl rfl rfl rfl a8 (fun w hw hw2 hF=>zcb _ w hF (GAuction.mk ((r25.1.getD default).catalogue) r61.2.2.1 (GIncrement.mk ((r25.1.getD default).increment.Activity) ((r25.1.getD default).increment.Step)) ((r25.1.getD default).key) r61.2.2.2.1 r61.2.2.2.2) g25_n v25_n_0 (SlC.mono hf25_n_0 le7_25) v61_2_1 c61_2_1 (SlD.mono (rep:=cT) (fun _ _ _ _=>GBidder.mono) hf61_2_1 le17_25) v25_n_4 (SlC.mono hf25_n_4 le7_25) v61_2_6 (SlC.mono hf61_2_6 le17_25) hw2.takes.1 hw2.takes.2 r115 hr115)) ?_;rintro _ _ ⟨⟨⟩, -,rfl,rfl⟩;refine eG ?_;refine fA ?_;refine db rfl rfl rfl (fun h18=>?_) (fun h18=>?_)
             ·have p18:=of_decide_eq_true h18;replace hk:=dj hk h18;refine q1F ?_;refine fA ?_;refine db rfl rfl rfl (fun h19=>?_) (fun h19=>?_)
              ·have p19:=of_decide_eq_true h19;replace hk:=dj hk h19;refine q2b ?_;refine fA ?_;refine db rfl rfl rfl (fun h20=>?_) (fun h20=>?_)
               ·have p20:=of_decide_eq_true h20;replace hk:=dj hk h20;refine dr ?_;refine cU (Yv.cK 1 (e:=5) b5 b5 b5 rfl rfl rfl (SlC.mono hf66_0_0 le18_25)) ?_;refine cU (Yv.cy (a:=(u8s r66.1)) (b:=([1,0,0,3,1,2]:List UInt8)) rfl rfl rfl) ?_;refine hY ?_;refine jf ?_;exact cY (((u8s r66.1) == ([1,0,0,3,1,2]:List UInt8)),F25) ⟨hk,le20_25⟩ (.c .nil) (List.Sublist.refl _)
               ·have p20:=of_decide_eq_false h20;replace hk:=di hk h20;refine jH ?_;refine jf ?_;exact q4I
              ·have p19:=of_decide_eq_false h19;replace hk:=di hk h19;refine q3R ?_;refine jf ?_;exact q4I
             ·have p18:=of_decide_eq_false h18;replace hk:=di hk h18;refine TL.run 15 rfl ?_;refine e7 ?_;refine jf ?_;exact q4I
            ·have p17:=of_decide_eq_false h17;replace hk:=di hk h17;refine TL.run 20 rfl ?_;refine e7 ?_;refine jf ?_;exact q4I
           ·replace hk:=di hk h16;refine TL.run 25 rfl ?_;refine e7 ?_;refine jf ?_;exact q4I
          ·replace hk:=di hk h15;refine TL.run 29 rfl ?_;refine e7 ?_;refine jf ?_;exact cY (false,F24) ⟨hk,le20_24⟩ (.c .nil) (List.Sublist.refl _)
         ·replace hk:=di hk h14;refine TL.run 35 rfl ?_;refine e7 ?_;refine q3r ?_;exact cY (false,F22) ⟨hk,le20_22⟩ (.c .nil) (List.Sublist.refl _)
        ·have p13:=of_decide_eq_false h13;replace hk:=di hk h13;refine TL.run 40 rfl ?_;refine e7 ?_;refine q3r ?_;exact q4U
       ·have p12:=of_decide_eq_false h12;replace hk:=di hk h12;refine TL.run 44 rfl ?_;refine e7 ?_;refine q3r ?_;exact q4U
      ·have p11:=of_decide_eq_false h11;replace hk:=di hk h11;refine TL.run 48 rfl ?_;refine e7 ?_;refine q3r ?_;exact q4U
     ·have p10:=of_decide_eq_false h10;replace hk:=di hk h10;refine TL.run 52 rfl ?_;refine e7 ?_;refine q3r ?_;exact q4U
    ·rintro ⟨x_8,F21⟩ ⟨hk,le20_21⟩; (try dsimp only at *);rw [←hk9] at hk; (try dsimp only at hk);refine T.ret ?_;obtain rfl:=Option.some.inj hk;exact dS
 ·replace hk:=di hk h1;refine ec ?_;refine ga ?_;rintro _ _ ⟨g17,rfl,rfl⟩;refine q14 ?_;rintro F26 ⟨le2_26,hz26⟩;refine eH ?_;have hfF26:SlC F26.toFrz (.slice (some ⟨g17,0,none⟩) 1 1) 1 ([2].map eI):=(SlK.lit hz26 rfl (Nat.le_refl _) a8).toF (xs:=[2]) rfl (fun _=>rfl);refine iP ?_;refine ga ?_;rintro _ _ ⟨g19,rfl,rfl⟩;refine q14 ?_;rintro F27 ⟨le26_27,hz27⟩;refine eH ?_;have le2_27:=le2_26.trans le26_27;have hfF27:SlC F27.toFrz (.slice (some ⟨g19,0,none⟩) 1 1) 1 ([1].map eI):=(SlK.lit hz27 rfl (Nat.le_refl _) a8).toF (xs:=[1]) rfl (fun _=>rfl);refine iP ?_;refine ga ?_;rintro _ _ ⟨g21,rfl,rfl⟩;have hl21:OwnD cT F27.toFrz 4 [[.int .i64 0, .int .i64 2, .int .i64 0,(.slice (some ⟨g17,0,none⟩) 1 1)],[.int .i64 1, .int .i64 2, .int .i64 0,(.slice (some ⟨g19,0,none⟩) 1 1)]] [(GBidder.mk 0 2 0 [2]),(GBidder.mk 1 2 0 [1])]:=(eu (eu (OwnD.nil _ _ 4) ⟨_,rfl,(SlC.mono hfF26 le26_27)⟩) ⟨_,rfl,hfF27⟩);refine q14 ?_;rintro F28 ⟨le27_28,hz28⟩;refine eH ?_;have le2_28:=le2_27.trans le27_28;have hfF28:SlD cT F28.toFrz (.slice (some ⟨g21,0,none⟩) 2 2) 4 [[.int .i64 0, .int .i64 2, .int .i64 0,(.slice (some ⟨g17,0,none⟩) 1 1)],[.int .i64 1, .int .i64 2, .int .i64 0,(.slice (some ⟨g19,0,none⟩) 1 1)]] [(GBidder.mk 0 2 0 [2]),(GBidder.mk 1 2 0 [1])]:=(SlK.lit hz28 rfl (Nat.le_refl _) a8).toD (OwnD.mono (rep:=cT) (fun _ _ _ _=>GBidder.mono) hl21 le27_28) rfl;refine iP ?_;refine ga ?_;rintro _ _ ⟨g23,rfl,rfl⟩;refine q4k ?_;rintro _ _ ⟨F29,⟨le28_29,hf24⟩,rfl,rfl⟩;refine eH ?_;have le2_29:=le2_28.trans le28_29;haveI:=hf24.oneC;refine cZ (dV [0] [] [] rfl rfl rfl rfl a8 (fun w hw hw2 hF=>(zfI _ w hF [(GProduct.mk 0 1 2 1 100)] (.slice (some ⟨g14,0,none⟩) 1 1) (SlC.mono hfF2 le2_29) [(GBidder.mk 0 2 0 [2]),(GBidder.mk 1 2 0 [1])] (.slice (some ⟨g21,0,none⟩) 2 2) [[.int .i64 0, .int .i64 2, .int .i64 0,(.slice (some ⟨g17,0,none⟩) 1 1)],[.int .i64 1, .int .i64 2, .int .i64 0,(.slice (some ⟨g19,0,none⟩) 1 1)]] (SlD.mono (rep:=cT) (fun _ _ _ _=>GBidder.mono) hfF28 le28_29) (GIncrement.mk 100 10) ([107,101,121]:List Int) (.slice (some ⟨g23,0,none⟩) 3 3) hf24 r25 hr25).mono (fun e w' hp=>hp.2 h1))) ?_;rintro _ _ ⟨⟨⟩,F30,le29_30, -,rfl,rfl⟩;refine eG ?_;refine hN ?_;refine hI ?_;cases hk
def zd6 (fuel:Nat)(x0_:GAuction)(b:Gbandplanref36_Auction):Option Bool:=
 dF (fun (x_1:Bool)=>
  (bif x_1 then
   some false
   else
   dF (fun (_:Unit)=>
    dF (fun (x_20:Bool)=>
     some x_20)
    (fun k21=>
     (bif decide ((zaY x0_)=b.Rounds) then
      (zaI x0_).bind fun r94=>
      (zd0 fuel b).bind fun r96=>
      (bif (r94 == r96) then
       (zaK x0_).bind fun r101=>
       (zcC fuel b).bind fun r103=>
       (bif decide (r101=r103) then
        (zaR x0_).bind fun r108=>
        (zd7 fuel b).bind fun r110=>
        k21 (decide (r108=r110))
        else
        k21 false)
       else
       k21 false)
      else
      k21 false)))
   (fun k8=>
    ej (fun (next10:Int→Option Bool) (id_9:Int)=>
     (bif decide (id_9<33) then
      (zaw x0_ id_9).bind fun r58=>
      (bif decide ((gQ b.Bidders id_9)<0) then
       (bif ((decide (¬r58.2=9))||(!(zb4 r58.1 (GBidder.mk 0 0 0 [])))) then
        some false
        else
        next10 (wI (id_9+1)))
       else
       dF (fun (x_16:Bool)=>
        (bif x_16 then
         some false
         else
         next10 (wI (id_9+1))))
       (fun k17=>
        (bif decide (¬r58.2=0) then
         k17 true
         else
         dl (0≤(gQ b.Bidders id_9)∧(gQ b.Bidders id_9)<(b.Bidders.length:Int)) <|
         k17 (!(zb4 r58.1 (cS b.Bidders ((gQ b.Bidders id_9).toNat)))))))
      else
      k8 ())) fuel (-1))))
 (fun k2=>
  (za6 x0_).bind fun r13=>
  (bif !(zdw r13 b.Products) then
   k2 true
   else
   (zaN x0_).bind fun r21=>
   (bif !(jy r21 b.Posted) then
    k2 true
    else
    (zaC x0_).bind fun r29=>
    (zde fuel b).bind fun r31=>
    (bif !(jy r29 r31) then
     k2 true
     else
     (zbb x0_).bind fun r37=>
     (bif !(zbB r37 b.Bidders) then
      k2 true
      else
      (zan x0_).bind fun r45=>
      (zcp fuel b).bind fun r47=>
      k2 (!(jy r45 r47)))))))
theorem zhw (F0:Frz)(w:World)(hF0:F0.At w)(x0_:GAuction)(g0_:Nat)(v0_0:Value)(h0_0:SlC F0 v0_0 5 (x0_.catalogue.map cV))(v0_1:Value)(c0_1:List (List Value))(h0_1:SlD cT F0 v0_1 4 c0_1 x0_.bidders)(v0_4:Value)(h0_4:SlC F0 v0_4 1 (x0_.key.map (eK .u8)))(v0_6:Value)(h0_6:SlC F0 v0_6 1 (x0_.prices.map eI))(b:Gbandplanref36_Auction)(vb_0:Value)(hb_0:SlC F0 vb_0 5 (b.Products.map cV))(vb_1:Value)(cb_1:List (List Value))(hb_1:SlD cT F0 vb_1 4 cb_1 b.Bidders)(vb_4:Value)(hb_4:SlC F0 vb_4 1 (b.Key.map (eK .u8)))(vb_5:Value)(hb_5:SlC F0 vb_5 1 (b.Posted.map eI))(hO:Hp w (dx [.row g0_ 104 [v0_0,v0_1, .int .i64 x0_.increment.Activity, .int .i64 x0_.increment.Step,v0_4, .int .i64 x0_.rounds,v0_6]]) [.row g0_ 104 [v0_0,v0_1, .int .i64 x0_.increment.Activity, .int .i64 x0_.increment.Step,v0_4, .int .i64 x0_.rounds,v0_6]] w)(hA:∀g,dx [.row g0_ 104 [v0_0,v0_1, .int .i64 x0_.increment.Activity, .int .i64 x0_.increment.Step,v0_4, .int .i64 x0_.rounds,v0_6]] g→¬F0.S g)(fuel:Nat)(r:Bool)(hr:zd6 fuel x0_ b=some r):Calls Tryz.prog 25 #[.pointer (some ⟨g0_,0,none⟩), .agg [vb_0,vb_1, .int .i64 b.Increment.Activity, .int .i64 b.Increment.Step,vb_4,vb_5, .int .i64 b.Rounds].toArray] w fun e w'=>∃(y:Unit) (G:Frz),(True)∧e= .returned (.bool r)∧FxM F0 w (dx [.row g0_ 104 [v0_0,v0_1, .int .i64 x0_.increment.Activity, .int .i64 x0_.increment.Step,v0_4, .int .i64 x0_.rounds,v0_6]]) G [.row g0_ 104 [v0_0,v0_1, .int .i64 x0_.increment.Activity, .int .i64 x0_.increment.Step,v0_4, .int .i64 x0_.rounds,v0_6]] w':=by
 have hk:=hr;unfold zd6 at hk;haveI:=hb_0.oneC;haveI:=hb_1.1.oneC;haveI:=hb_4.oneC;haveI:=hb_5.oneC;haveI:=h0_0.oneC;haveI:=h0_1.1.oneC;haveI:=h0_4.oneC;haveI:=h0_6.oneC;obtain ⟨S0,F1,rfl,hS0,hp0⟩:=fJ hF0 hO hA;refine dG (hs:=[.row g0_ 104 [v0_0,v0_1, .int .i64 x0_.increment.Activity, .int .i64 x0_.increment.Step,v0_4, .int .i64 x0_.rounds,v0_6], .fr F1]) Tryz.func25 rfl rfl rfl hp0 ?_;refine fV ?_;rintro _ _ ⟨g3,rfl,rfl⟩;refine jC ?_; (try dsimp only at hk);have hq:=dP hk;clear hk;obtain ⟨k2,hk2,hk⟩:=hq; (try dsimp only at hk);refine c9 (ι:=Bool×FzB w (dx [.row g0_ 104 [v0_0,v0_1, .int .i64 x0_.increment.Activity, .int .i64 x0_.increment.Step,v0_4, .int .i64 x0_.rounds,v0_6]]) S0) (fun z=>[(0, .pointer (some ⟨g0_,0,none⟩)),(3, .pointer (some ⟨g3,0,none⟩)),(50, .bool z.1)]) (fun z=>[.row g3 51 [vb_0,vb_1, .int .i64 b.Increment.Activity, .int .i64 b.Increment.Step,vb_4,vb_5, .int .i64 b.Rounds], .row g0_ 104 [v0_0,v0_1, .int .i64 x0_.increment.Activity, .int .i64 x0_.increment.Step,v0_4, .int .i64 x0_.rounds,v0_6], .fr z.2]) (fun z=>k2 z.1=some r∧F1.toFrz.Le z.2.toFrz) ?_ ?_
 ·refine dL (sN 0 4 (sN 5 2 (.eff 4 (.eff 7 (sN 8 4 (sN 13 2 (.eff 12 (.eff 15 (sN 16 4 (.still 21 (.eff 20 (.eff 22 (.eff 23 (sN 24 4 (sN 29 2 (.eff 28 (.eff 31 (sN 32 4 (.still 37 (.eff 36 (.eff 38 (.eff 39 (.still 40 (.still 41 .done)))))))))))))))))))))))) _ b5 (List.Sublist.refl _) ?_;refine eN ?_;refine cX rfl (lw (e:=104) b5 rfl rfl rfl) ?_;refine eD ?_;refine lu ?_;have hq:=dm hk;clear hk;obtain ⟨r13,hr13,hk⟩:=hq;refine c5 rfl (Wt.some) rfl rfl (dV [1,2,0] [.row g0_ 104 [v0_0,v0_1, .int .i64 x0_.increment.Activity, .int .i64 x0_.increment.Step,v0_4, .int .i64 x0_.rounds,v0_6]] [.row g3 51 [vb_0,vb_1, .int .i64 b.Increment.Activity, .int .i64 b.Increment.Step,vb_4,vb_5, .int .i64 b.Rounds]] rfl rfl rfl rfl a8 (fun w hw hw2 hF=>zcS _ w hF x0_ g0_ v0_0 h0_0 v0_1 c0_1 h0_1 v0_4 h0_4 v0_6 h0_6 hw2.takes.1 hw2.takes.2 r13 hr13)) ?_;rintro _ _ ⟨v13_0_0,F3,le1_3,hf13_0_0,hq,rfl⟩;obtain rfl:=hq.symm;refine eG ?_;haveI:=hf13_0_0.oneC;refine ⟨(fun w hw=>(hw.frLe (i:=1) rfl le1_3).pick (idx:=[2,0,1]) rfl a8),?_⟩;refine dH ?_;refine c5 rfl (Wt.some) rfl rfl (da rfl rfl rfl (fun w hw=>zhq _ w (hw.fr (i:=1) rfl) r13 v13_0_0 hf13_0_0 b.Products vb_0 (SlC.mono hb_0 le1_3))) ?_;refine dU ?_;refine ⟨(fun w hw=>(hw.frLe (i:=1) rfl le1_3).pick (idx:=[2,0,1]) rfl a8),?_⟩;refine fj ?_;refine ep rfl rfl rfl rfl (fun h3=>?_) (fun h3=>?_)
  ·replace hk:=dj hk h3;refine fj ?_;refine q2P ?_;refine j8 ?_;refine TS.run 6 rfl ?_;refine q2P ?_;refine j8 ?_;refine eD ?_;refine q1T ?_;exact cY (true,F3) ⟨hk,le1_3⟩ (.c (.c (.c .nil))) (List.Sublist.refl _)
  ·replace hk:=di hk h3;refine eN ?_;refine lu ?_;have hq:=dm hk;clear hk;obtain ⟨r21,hr21,hk⟩:=hq;refine c5 rfl (Wt.some) rfl rfl (dV [0,1,2] [.row g0_ 104 [v0_0,v0_1, .int .i64 x0_.increment.Activity, .int .i64 x0_.increment.Step,v0_4, .int .i64 x0_.rounds,v0_6]] [.row g3 51 [vb_0,vb_1, .int .i64 b.Increment.Activity, .int .i64 b.Increment.Step,vb_4,vb_5, .int .i64 b.Rounds]] rfl rfl rfl rfl a8 (fun w hw hw2 hF=>zbs _ w hF x0_ g0_ v0_0 (SlC.mono h0_0 le1_3) v0_1 c0_1 (SlD.mono (rep:=cT) (fun _ _ _ _=>GBidder.mono) h0_1 le1_3) v0_4 (SlC.mono h0_4 le1_3) v0_6 (SlC.mono h0_6 le1_3) hw2.takes.1 hw2.takes.2 r21 hr21)) ?_;rintro _ _ ⟨v21_0_0,F4,le3_4,hf21_0_0,hq,rfl⟩;obtain rfl:=hq.symm;refine eG ?_;have le1_4:=le1_3.trans le3_4;haveI:=hf21_0_0.oneC;refine ⟨(fun w hw=>(hw.frLe (i:=1) rfl le1_4).pick (idx:=[2,0,1]) rfl a8),?_⟩;refine dH ?_;refine c5 rfl (Wt.some) rfl rfl (da rfl rfl rfl (fun w hw=>zcg _ w (hw.fr (i:=1) rfl) r21 v21_0_0 hf21_0_0 b.Posted vb_5 (SlC.mono hb_5 le1_4))) ?_;refine dU ?_;refine ⟨(fun w hw=>(hw.frLe (i:=1) rfl le1_4).pick (idx:=[2,0,1]) rfl a8),?_⟩;refine fj ?_;refine ep rfl rfl rfl rfl (fun h4=>?_) (fun h4=>?_)
   ·replace hk:=dj hk h4;refine eD ?_;refine q0o ?_;refine j8 ?_;refine TS.run 6 rfl ?_;refine q2P ?_;refine j8 ?_;refine eD ?_;refine q1T ?_;exact cY (true,F4) ⟨hk,le1_4⟩ (.c (.c (.c .nil))) (List.Sublist.refl _)
   ·replace hk:=di hk h4;refine eN ?_;refine kc ?_;have hq:=dm hk;clear hk;obtain ⟨r29,hr29,hk⟩:=hq;refine c5 rfl (Wt.some) rfl rfl (dV [0,1,2] [.row g0_ 104 [v0_0,v0_1, .int .i64 x0_.increment.Activity, .int .i64 x0_.increment.Step,v0_4, .int .i64 x0_.rounds,v0_6]] [.row g3 51 [vb_0,vb_1, .int .i64 b.Increment.Activity, .int .i64 b.Increment.Step,vb_4,vb_5, .int .i64 b.Rounds]] rfl rfl rfl rfl a8 (fun w hw hw2 hF=>zbv _ w hF x0_ g0_ v0_0 (SlC.mono h0_0 le1_4) v0_1 c0_1 (SlD.mono (rep:=cT) (fun _ _ _ _=>GBidder.mono) h0_1 le1_4) v0_4 (SlC.mono h0_4 le1_4) v0_6 (SlC.mono h0_6 le1_4) hw2.takes.1 hw2.takes.2 r29 hr29)) ?_;rintro _ _ ⟨v29_0_0,F5,le4_5,hf29_0_0,hq,rfl⟩;obtain rfl:=hq.symm;refine eG ?_;have le1_5:=le1_4.trans le4_5;haveI:=hf29_0_0.oneC;refine ⟨(fun w hw=>(hw.frLe (i:=1) rfl le1_5).pick (idx:=[2,0,1]) rfl a8),?_⟩;refine dH ?_;have hq:=dm hk;clear hk;obtain ⟨r31,hr31,hk⟩:=hq;refine c5 rfl (Wt.some) rfl rfl (dg 1 rfl rfl rfl rfl (fun w hw hF=>zgN _ w hF b vb_0 (SlC.mono hb_0 le1_5) vb_1 cb_1 (SlD.mono (rep:=cT) (fun _ _ _ _=>GBidder.mono) hb_1 le1_5) vb_4 (SlC.mono hb_4 le1_5) vb_5 (SlC.mono hb_5 le1_5) fuel r31 hr31)) ?_;rintro _ _ ⟨v31_0_0,F6,le5_6,hf31_0_0,hq,rfl⟩;obtain rfl:=hq.symm;have le1_6:=le1_5.trans le5_6;haveI:=hf31_0_0.oneC;refine ⟨(fun w hw=>(hw.frLe (i:=1) rfl le1_6).pick (idx:=[2,0,1]) rfl a8),?_⟩;refine dH ?_;refine c5 rfl (Wt.some) rfl rfl (da rfl rfl rfl (fun w hw=>zcg _ w (hw.fr (i:=1) rfl) r29 v29_0_0 (SlC.mono hf29_0_0 le5_6) r31 v31_0_0 hf31_0_0)) ?_;refine dU ?_;refine ⟨(fun w hw=>(hw.frLe (i:=1) rfl le1_6).pick (idx:=[2,0,1]) rfl a8),?_⟩;refine fj ?_;refine ep rfl rfl rfl rfl (fun h5=>?_) (fun h5=>?_)
    ·replace hk:=dj hk h5;refine fj ?_;refine q2P ?_;refine j8 ?_;refine eD ?_;refine q1T ?_;exact cY (true,F6) ⟨hk,le1_6⟩ (.c (.c (.c .nil))) (List.Sublist.refl _)
    ·replace hk:=di hk h5;refine eN ?_;refine lu ?_;have hq:=dm hk;clear hk;obtain ⟨r37,hr37,hk⟩:=hq;refine c5 rfl (Wt.some) rfl rfl (dV [0,1,2] [.row g0_ 104 [v0_0,v0_1, .int .i64 x0_.increment.Activity, .int .i64 x0_.increment.Step,v0_4, .int .i64 x0_.rounds,v0_6]] [.row g3 51 [vb_0,vb_1, .int .i64 b.Increment.Activity, .int .i64 b.Increment.Step,vb_4,vb_5, .int .i64 b.Rounds]] rfl rfl rfl rfl a8 (fun w hw hw2 hF=>zc0 _ w hF x0_ g0_ v0_0 (SlC.mono h0_0 le1_6) v0_1 c0_1 (SlD.mono (rep:=cT) (fun _ _ _ _=>GBidder.mono) h0_1 le1_6) v0_4 (SlC.mono h0_4 le1_6) v0_6 (SlC.mono h0_6 le1_6) hw2.takes.1 hw2.takes.2 r37 hr37)) ?_;rintro _ _ ⟨⟨v37_0_0,cs37_0_0⟩,F7,le6_7,hf37_0_0,hq,rfl⟩;obtain rfl:=hq.symm;refine eG ?_; (try dsimp only at hf37_0_0);have le1_7:=le1_6.trans le6_7;haveI:=hf37_0_0.1.oneC;refine ⟨(fun w hw=>(hw.frLe (i:=1) rfl le1_7).pick (idx:=[2,0,1]) rfl a8),?_⟩;refine dH ?_;refine c5 rfl (Wt.some) rfl rfl (da rfl rfl rfl (fun w hw=>zep _ w (hw.fr (i:=1) rfl) r37 v37_0_0 cs37_0_0 hf37_0_0 b.Bidders vb_1 cb_1 (SlD.mono (rep:=cT) (fun _ _ _ _=>GBidder.mono) hb_1 le1_7))) ?_;refine dU ?_;refine ⟨(fun w hw=>(hw.frLe (i:=1) rfl le1_7).pick (idx:=[2,0,1]) rfl a8),?_⟩;refine fj ?_;refine ep rfl rfl rfl rfl (fun h6=>?_) (fun h6=>?_)
     ·replace hk:=dj hk h6;refine eD ?_;refine q0o ?_;refine j8 ?_;refine eD ?_;refine q1T ?_;exact cY (true,F7) ⟨hk,le1_7⟩ (.c (.c (.c .nil))) (List.Sublist.refl _)
     ·replace hk:=di hk h6;refine eN ?_;refine kc ?_;have hq:=dm hk;clear hk;obtain ⟨r45,hr45,hk⟩:=hq;refine c5 rfl (Wt.some) rfl rfl (dV [0,1,2] [.row g0_ 104 [v0_0,v0_1, .int .i64 x0_.increment.Activity, .int .i64 x0_.increment.Step,v0_4, .int .i64 x0_.rounds,v0_6]] [.row g3 51 [vb_0,vb_1, .int .i64 b.Increment.Activity, .int .i64 b.Increment.Step,vb_4,vb_5, .int .i64 b.Rounds]] rfl rfl rfl rfl a8 (fun w hw hw2 hF=>zaM _ w hF x0_ g0_ v0_0 (SlC.mono h0_0 le1_7) v0_1 c0_1 (SlD.mono (rep:=cT) (fun _ _ _ _=>GBidder.mono) h0_1 le1_7) v0_4 (SlC.mono h0_4 le1_7) v0_6 (SlC.mono h0_6 le1_7) hw2.takes.1 hw2.takes.2 r45 hr45)) ?_;rintro _ _ ⟨v45_0_0,F8,le7_8,hf45_0_0,hq,rfl⟩;obtain rfl:=hq.symm;refine eG ?_;have le1_8:=le1_7.trans le7_8;haveI:=hf45_0_0.oneC;refine ⟨(fun w hw=>(hw.frLe (i:=1) rfl le1_8).pick (idx:=[2,0,1]) rfl a8),?_⟩;refine dH ?_;have hq:=dm hk;clear hk;obtain ⟨r47,hr47,hk⟩:=hq;refine c5 rfl (Wt.some) rfl rfl (dg 1 rfl rfl rfl rfl (fun w hw hF=>zeA _ w hF b vb_0 (SlC.mono hb_0 le1_8) vb_1 cb_1 (SlD.mono (rep:=cT) (fun _ _ _ _=>GBidder.mono) hb_1 le1_8) vb_4 (SlC.mono hb_4 le1_8) vb_5 (SlC.mono hb_5 le1_8) fuel r47 hr47)) ?_;rintro _ _ ⟨v47_0_0,F9,le8_9,hf47_0_0,hq,rfl⟩;obtain rfl:=hq.symm;have le1_9:=le1_8.trans le8_9;haveI:=hf47_0_0.oneC;refine ⟨(fun w hw=>(hw.frLe (i:=1) rfl le1_9).pick (idx:=[2,0,1]) rfl a8),?_⟩;refine dH ?_;refine c5 rfl (Wt.some) rfl rfl (da rfl rfl rfl (fun w hw=>zcg _ w (hw.fr (i:=1) rfl) r45 v45_0_0 (SlC.mono hf45_0_0 le8_9) r47 v47_0_0 hf47_0_0)) ?_;refine dU ?_;refine ⟨(fun w hw=>(hw.frLe (i:=1) rfl le1_9).pick (idx:=[2,0,1]) rfl a8),?_⟩;refine eD ?_;refine q1T ?_;exact cY (!(jy r45 r47),F9) ⟨hk,le1_9⟩ (.c (.c (.c .nil))) (List.Sublist.refl _)
 ·rintro ⟨x_1,F2⟩ ⟨hk,le1_2⟩; (try dsimp only at *);rw [←hk2] at hk; (try dsimp only at hk);refine T.cond rfl (fun h7=>?_) (fun h7=>?_)
  ·replace hk:=dj hk h7;refine gw ?_;obtain rfl:=Option.some.inj hk;exact eg rfl rfl (fun w' hw=>⟨⟨⟩,F2.toFrz,trivial,rfl,dk (hw.pick (idx:=[1,2]) rfl a8) hS0 le1_2⟩)
  ·replace hk:=di hk h7;refine il ?_;refine dJ ?_;have hq:=dP hk;clear hk;obtain ⟨k8,hk8,hk⟩:=hq; (try dsimp only at hk);refine c9 (ι:=FzB w (dx [.row g0_ 104 [v0_0,v0_1, .int .i64 x0_.increment.Activity, .int .i64 x0_.increment.Step,v0_4, .int .i64 x0_.rounds,v0_6]]) S0) (fun z=>[(0, .pointer (some ⟨g0_,0,none⟩)),(3, .pointer (some ⟨g3,0,none⟩))]) (fun z=>[.row g3 51 [vb_0,vb_1, .int .i64 b.Increment.Activity, .int .i64 b.Increment.Step,vb_4,vb_5, .int .i64 b.Rounds], .row g0_ 104 [v0_0,v0_1, .int .i64 x0_.increment.Activity, .int .i64 x0_.increment.Step,v0_4, .int .i64 x0_.rounds,v0_6], .fr z]) (fun z=>k8 ()=some r∧F2.toFrz.Le z.toFrz) ?_ ?_
   ·have hq:=ib hk;clear hk;obtain ⟨f10,hf10,hk⟩:=hq;refine ed ?_;refine T.loop (ι:=Nat×Int×FzB w (dx [.row g0_ 104 [v0_0,v0_1, .int .i64 x0_.increment.Activity, .int .i64 x0_.increment.Step,v0_4, .int .i64 x0_.rounds,v0_6]]) S0) (fun z=>[(0, .pointer (some ⟨g0_,0,none⟩)),(3, .pointer (some ⟨g3,0,none⟩)),(5, .int .i64 z.2.1)]) (fun z=>[.row g3 51 [vb_0,vb_1, .int .i64 b.Increment.Activity, .int .i64 b.Increment.Step,vb_4,vb_5, .int .i64 b.Rounds], .row g0_ 104 [v0_0,v0_1, .int .i64 x0_.increment.Activity, .int .i64 x0_.increment.Step,v0_4, .int .i64 x0_.rounds,v0_6], .fr z.2.2]) (fun z=>ej f10 z.1 z.2.1=some r∧F2.toFrz.Le z.2.2.toFrz) (fun z=>z.1) (fuel,(-1),F2) ?_ ?_ ?_ ?_
    ·exact q4F
    ·exact ju
    ·exact eb
    ·rintro ⟨m_11,id_9,F11⟩ ⟨hk,le2_11⟩; (try dsimp only at *);have le1_11:=le1_2.trans le2_11;have hq:=ie hk;clear hk;obtain ⟨m_11',rfl,hk⟩:=hq;generalize hn10:ej f10 m_11'=next10 at hk;rw [←hf10] at hk; (try dsimp only at hk);refine kC ?_;refine T.cond rfl (fun h12=>?_) (fun h12=>?_)
     ·have p12:=of_decide_eq_true h12;replace hk:=dj hk h12;refine lq ?_;have hq:=dm hk;clear hk;obtain ⟨r58,hr58,hk⟩:=hq; (try dsimp only at hk);refine eo ?_;refine cZ (dV [1,2,0] [.row g0_ 104 [v0_0,v0_1, .int .i64 x0_.increment.Activity, .int .i64 x0_.increment.Step,v0_4, .int .i64 x0_.rounds,v0_6]] [.row g3 51 [vb_0,vb_1, .int .i64 b.Increment.Activity, .int .i64 b.Increment.Step,vb_4,vb_5, .int .i64 b.Rounds]] rfl rfl rfl rfl a8 (fun w hw hw2 hF=>zbr _ w hF x0_ g0_ v0_0 (SlC.mono h0_0 le1_11) v0_1 c0_1 (SlD.mono (rep:=cT) (fun _ _ _ _=>GBidder.mono) h0_1 le1_11) v0_4 (SlC.mono h0_4 le1_11) v0_6 (SlC.mono h0_6 le1_11) id_9 hw2.takes.1 hw2.takes.2 r58 hr58)) ?_;rintro _ _ ⟨v58_0_3,F12,le11_12,hf58_0_3,rfl,rfl⟩;refine eG ?_;have le1_12:=le1_11.trans le11_12;have le2_12:=le2_11.trans le11_12;haveI:=hf58_0_3.oneC;refine kb ?_;rintro _ _ ⟨g6,rfl,rfl⟩;refine fx ?_;refine iL ?_;refine q1F ?_;refine dr ?_;refine cZ (da rfl rfl rfl (fun w hw=>zhe _ w (hw.fr (i:=2) rfl) b.Bidders vb_1 cb_1 (SlD.mono (rep:=cT) (fun _ _ _ _=>GBidder.mono) hb_1 le1_12) id_9)) ?_;refine dU ?_;refine iL ?_;refine iZ ?_;refine T.cond rfl (fun h13=>?_) (fun h13=>?_)
      ·have p13:=of_decide_eq_true h13;replace hk:=dj hk h13;refine T.seq ?_;refine c9 (ι:=Unit) (fun z=>[(0, .pointer (some ⟨g0_,0,none⟩)),(3, .pointer (some ⟨g3,0,none⟩)),(5, .int .i64 id_9),(74, .bool ((decide (¬r58.2=9))||(!(zb4 r58.1 (GBidder.mk 0 0 0 [])))))]) (fun z=>[.row g6 57 [.int .i64 r58.1.ID, .int .i64 r58.1.Eligibility, .int .i64 r58.1.Waivers,v58_0_3], .row g0_ 104 [v0_0,v0_1, .int .i64 x0_.increment.Activity, .int .i64 x0_.increment.Step,v0_4, .int .i64 x0_.rounds,v0_6], .row g3 51 [vb_0,vb_1, .int .i64 b.Increment.Activity, .int .i64 b.Increment.Step,vb_4,vb_5, .int .i64 b.Rounds], .fr F12]) (fun z=>True) ?_ ?_
       ·refine gI ?_;refine db rfl rfl rfl (fun h14=>?_) (fun h14=>?_)
        ·have p14:=of_decide_eq_true h14;refine jH ?_;refine K.pick [0,1,3,2] rfl a8 ?_;exact cY () trivial (.c (.c (.c (.b (dQ h14).symm .nil)))) (List.Sublist.refl _)
        ·have p14:=of_decide_eq_false h14;refine iQ ?_;refine iP ?_;refine cZ (da rfl rfl rfl (fun w hw=>zf6 _ w (hw.fr (i:=2) rfl) r58.1 v58_0_3 hf58_0_3 (GBidder.mk 0 0 0 []) (.slice none 0 0) (SlC.nil _ 1))) ?_;refine jB ?_;refine K.pick [0,1,3,2] rfl a8 ?_;exact cY () trivial (.c (.c (.c (.b (fg h14) .nil)))) (List.Sublist.refl _)
       ·rintro _ _;refine T.cond rfl (fun h15=>?_) (fun h15=>?_)
        ·replace hk:=dj hk h15;refine kp ?_;obtain rfl:=Option.some.inj hk;exact eg rfl rfl (fun w' hw=>⟨⟨⟩,F12.toFrz,trivial,rfl,dk (hw.pick (idx:=[1,3]) rfl a8) hS0 le1_12⟩)
        ·have p15:=h15; (try simp only [gH] at p15);replace hk:=di hk h15;refine q1a ?_;refine dr ?_;refine cU (dd (v:= .int .i64 (wI (id_9+1)))) ?_;refine ig ?_;rw [←hn10] at hk;refine K.pick [2,1,3] rfl a8 ?_;exact q5j
      ·have p13:=of_decide_eq_false h13;replace hk:=di hk h13;refine T.seq ?_; (try dsimp only at hk);have hq:=dP hk;clear hk;obtain ⟨k17,hk17,hk⟩:=hq; (try dsimp only at hk);refine c9 (ι:=Bool) (fun z=>[(0, .pointer (some ⟨g0_,0,none⟩)),(3, .pointer (some ⟨g3,0,none⟩)),(5, .int .i64 id_9),(86, .bool z)]) (fun z=>[.row g0_ 104 [v0_0,v0_1, .int .i64 x0_.increment.Activity, .int .i64 x0_.increment.Step,v0_4, .int .i64 x0_.rounds,v0_6], .row g3 51 [vb_0,vb_1, .int .i64 b.Increment.Activity, .int .i64 b.Increment.Step,vb_4,vb_5, .int .i64 b.Rounds], .fr F12]) (fun z=>k17 z=some r) ?_ ?_
       ·refine dL (sN 0 9 (.eff 9 (.still 10 (.still 11 .done)))) _ b5 (List.Sublist.refl _) ?_;refine fj ?_;refine ep rfl rfl rfl rfl (fun h18=>?_) (fun h18=>?_)
        ·have p18:=of_decide_eq_true h18;replace hk:=dj hk h18;refine TS.run 6 rfl ?_;refine j8 ?_;refine jq ?_;refine K.pick [1,3,2] rfl a8 ?_;exact q4V
        ·have p18:=of_decide_eq_false h18;replace hk:=di hk h18;refine q1n ?_;refine ii ?_;refine cX rfl (dh 3) ?_;refine eN ?_;have hq:(0≤(gQ b.Bidders id_9)∧(gQ b.Bidders id_9)<(b.Bidders.length:Int))∧_:=dp hk;clear hk;obtain ⟨g82,hk⟩:=hq;refine cX rfl (dc (i:=(gQ b.Bidders id_9).toNat) rfl rfl rfl (SlD.mono (rep:=cT) (fun _ _ _ _=>GBidder.mono) hb_1 le1_12).1 (SlD.mono (rep:=cT) (fun _ _ _ _=>GBidder.mono) hb_1 le1_12).2.1 a7 a7) ?_;refine cX rfl (eV 2 (i:=(gQ b.Bidders id_9).toNat) (j:=0) rfl rfl rfl (SlD.mono (rep:=cT) (fun _ _ _ _=>GBidder.mono) hb_1 le1_12).1 (SlD.mono (rep:=cT) (fun _ _ _ _=>GBidder.mono) hb_1 le1_12).2.1 a7 rfl (d8 ((SlD.mono (rep:=cT) (fun _ _ _ _=>GBidder.mono) hb_1 le1_12).2.2 ((gQ b.Bidders id_9).toNat) a7))) ?_;have hd83_3:=(dM ((SlD.mono (rep:=cT) (fun _ _ _ _=>GBidder.mono) hb_1 le1_12).2.2 ((gQ b.Bidders id_9).toNat) a7)).2;haveI:=hd83_3.oneC;refine dH ?_;refine c5 rfl (Wt.some) rfl rfl (da rfl rfl rfl (fun w hw=>zf6 _ w (hw.fr (i:=2) rfl) r58.1 v58_0_3 hf58_0_3 (cS b.Bidders ((gQ b.Bidders id_9).toNat)) (cS (cS cb_1 ((gQ b.Bidders id_9).toNat)) 3) hd83_3)) ?_;refine q4d ?_;refine jq ?_;refine K.pick [1,3,2] rfl a8 ?_;exact cY (!(zb4 r58.1 (cS b.Bidders ((gQ b.Bidders id_9).toNat)))) hk (.c (.c (.c (.c .nil)))) (List.Sublist.refl _)
       ·rintro x_16 hk;rw [←hk17] at hk; (try dsimp only at hk);refine T.cond rfl (fun h19=>?_) (fun h19=>?_)
        ·replace hk:=dj hk h19;refine kp ?_;obtain rfl:=Option.some.inj hk;exact eg rfl rfl (fun w' hw=>⟨⟨⟩,F12.toFrz,trivial,rfl,dk (hw.pick (idx:=[0,2]) rfl a8) hS0 le1_12⟩)
        ·replace hk:=di hk h19;refine q1a ?_;refine dr ?_;refine cU (dd (v:= .int .i64 (wI (id_9+1)))) ?_;refine ig ?_;rw [←hn10] at hk;refine K.pick [1,0,2] rfl a8 ?_;exact q5j
     ·have p12:=of_decide_eq_false h12;replace hk:=di hk h12;refine ek ?_;exact cY F11 ⟨hk,le2_11⟩ (.c (.c .nil)) (List.Sublist.refl _)
   ·rintro F10 ⟨hk,le2_10⟩;rw [←hk8] at hk; (try dsimp only at hk);have le1_10:=le1_2.trans le2_10;refine T.seq ?_; (try dsimp only at hk);have hq:=dP hk;clear hk;obtain ⟨k21,hk21,hk⟩:=hq; (try dsimp only at hk);refine c9 (ι:=Bool×FzB w (dx [.row g0_ 104 [v0_0,v0_1, .int .i64 x0_.increment.Activity, .int .i64 x0_.increment.Step,v0_4, .int .i64 x0_.rounds,v0_6]]) S0) (fun z=>[(4, .bool z.1)]) (fun z=>[.row g0_ 104 [v0_0,v0_1, .int .i64 x0_.increment.Activity, .int .i64 x0_.increment.Step,v0_4, .int .i64 x0_.rounds,v0_6], .fr z.2]) (fun z=>k21 z.1=some r∧F10.toFrz.Le z.2.toFrz) ?_ ?_
    ·refine dL (.still 0 (sN 2 2 (.eff 1 (sN 4 3 (.still 8 (.eff 7 (.eff 9 (sN 10 4 (.still 15 (.eff 14 (.eff 16 (sN 17 4 (.still 22 (.eff 21 (.eff 23 (sN 24 2 (.still 26 .done))))))))))))))))) _ b5 (List.Sublist.refl _) ?_;refine eN ?_;refine lu ?_;refine c5 rfl (cW) rfl rfl (dB [1,2,0] [.row g0_ 104 [v0_0,v0_1, .int .i64 x0_.increment.Activity, .int .i64 x0_.increment.Step,v0_4, .int .i64 x0_.rounds,v0_6]] [.row g3 51 [vb_0,vb_1, .int .i64 b.Increment.Activity, .int .i64 b.Increment.Step,vb_4,vb_5, .int .i64 b.Rounds]] rfl rfl rfl rfl a8 (fun w hw hw2 hF=>zdc _ w hF x0_ g0_ v0_0 (SlC.mono h0_0 le1_10) v0_1 c0_1 (SlD.mono (rep:=cT) (fun _ _ _ _=>GBidder.mono) h0_1 le1_10) v0_4 (SlC.mono h0_4 le1_10) v0_6 (SlC.mono h0_6 le1_10) hw2.takes.1 hw2.takes.2)) ?_;rintro _ _ ⟨⟨⟩, -,rfl,rfl⟩;refine eG ?_;refine ⟨(fun w hw=>hw.pick (idx:=[2,0,1]) rfl a8),?_⟩;refine eD ?_;refine ep rfl rfl rfl rfl (fun h22=>?_) (fun h22=>?_)
     ·have p22:=of_decide_eq_true h22;replace hk:=dj hk h22;refine eN ?_;refine kc ?_;have hq:=dm hk;clear hk;obtain ⟨r94,hr94,hk⟩:=hq;refine c5 rfl (Wt.some) rfl rfl (dV [0,1,2] [.row g0_ 104 [v0_0,v0_1, .int .i64 x0_.increment.Activity, .int .i64 x0_.increment.Step,v0_4, .int .i64 x0_.rounds,v0_6]] [.row g3 51 [vb_0,vb_1, .int .i64 b.Increment.Activity, .int .i64 b.Increment.Step,vb_4,vb_5, .int .i64 b.Rounds]] rfl rfl rfl rfl a8 (fun w hw hw2 hF=>zbE _ w hF x0_ g0_ v0_0 (SlC.mono h0_0 le1_10) v0_1 c0_1 (SlD.mono (rep:=cT) (fun _ _ _ _=>GBidder.mono) h0_1 le1_10) v0_4 (SlC.mono h0_4 le1_10) v0_6 (SlC.mono h0_6 le1_10) hw2.takes.1 hw2.takes.2 r94 hr94)) ?_;rintro _ _ ⟨⟨⟩,F14,le10_14, -,rfl,rfl⟩;refine eG ?_;have le1_14:=le1_10.trans le10_14;refine q1W ?_;refine dH ?_;have hq:=dm hk;clear hk;obtain ⟨r96,hr96,hk⟩:=hq;refine c5 rfl (Wt.some) rfl rfl (da rfl rfl rfl (fun w hw=>zhz _ w (hw.fr (i:=1) rfl) b vb_0 (SlC.mono hb_0 le1_14) vb_1 cb_1 (SlD.mono (rep:=cT) (fun _ _ _ _=>GBidder.mono) hb_1 le1_14) vb_4 (SlC.mono hb_4 le1_14) vb_5 (SlC.mono hb_5 le1_14) fuel r96 hr96)) ?_;refine dU ?_;refine q1W ?_;refine cX rfl (Yv.cN b5 rfl rfl rfl) ?_;refine eD ?_;refine ep rfl rfl rfl rfl (fun h23=>?_) (fun h23=>?_)
      ·replace hk:=dj hk h23;refine eN ?_;refine kc ?_;have hq:=dm hk;clear hk;obtain ⟨r101,hr101,hk⟩:=hq;refine c5 rfl (Wt.some) rfl rfl (dB [0,1,2] [.row g0_ 104 [v0_0,v0_1, .int .i64 x0_.increment.Activity, .int .i64 x0_.increment.Step,v0_4, .int .i64 x0_.rounds,v0_6]] [.row g3 51 [vb_0,vb_1, .int .i64 b.Increment.Activity, .int .i64 b.Increment.Step,vb_4,vb_5, .int .i64 b.Rounds]] rfl rfl rfl rfl a8 (fun w hw hw2 hF=>zbX _ w hF x0_ g0_ v0_0 (SlC.mono h0_0 le1_14) v0_1 c0_1 (SlD.mono (rep:=cT) (fun _ _ _ _=>GBidder.mono) h0_1 le1_14) v0_4 (SlC.mono h0_4 le1_14) v0_6 (SlC.mono h0_6 le1_14) hw2.takes.1 hw2.takes.2 r101 hr101)) ?_;rintro _ _ ⟨⟨⟩, -,rfl,rfl⟩;refine eG ?_;refine q1W ?_;refine dH ?_;have hq:=dm hk;clear hk;obtain ⟨r103,hr103,hk⟩:=hq;refine c5 rfl (Wt.some) rfl rfl (da rfl rfl rfl (fun w hw=>zgd _ w (hw.fr (i:=1) rfl) b vb_0 (SlC.mono hb_0 le1_14) vb_1 cb_1 (SlD.mono (rep:=cT) (fun _ _ _ _=>GBidder.mono) hb_1 le1_14) vb_4 (SlC.mono hb_4 le1_14) vb_5 (SlC.mono hb_5 le1_14) fuel r103 hr103)) ?_;refine dU ?_;refine q1W ?_;refine fj ?_;refine ep rfl rfl rfl rfl (fun h24=>?_) (fun h24=>?_)
       ·have p24:=of_decide_eq_true h24;replace hk:=dj hk h24;refine eN ?_;refine kc ?_;have hq:=dm hk;clear hk;obtain ⟨r108,hr108,hk⟩:=hq;refine c5 rfl (Wt.some) rfl rfl (dB [0,1,2] [.row g0_ 104 [v0_0,v0_1, .int .i64 x0_.increment.Activity, .int .i64 x0_.increment.Step,v0_4, .int .i64 x0_.rounds,v0_6]] [.row g3 51 [vb_0,vb_1, .int .i64 b.Increment.Activity, .int .i64 b.Increment.Step,vb_4,vb_5, .int .i64 b.Rounds]] rfl rfl rfl rfl a8 (fun w hw hw2 hF=>zcb _ w hF x0_ g0_ v0_0 (SlC.mono h0_0 le1_14) v0_1 c0_1 (SlD.mono (rep:=cT) (fun _ _ _ _=>GBidder.mono) h0_1 le1_14) v0_4 (SlC.mono h0_4 le1_14) v0_6 (SlC.mono h0_6 le1_14) hw2.takes.1 hw2.takes.2 r108 hr108)) ?_;rintro _ _ ⟨⟨⟩, -,rfl,rfl⟩;refine eG ?_;refine q1W ?_;refine dH ?_;have hq:=dm hk;clear hk;obtain ⟨r110,hr110,hk⟩:=hq;refine c5 rfl (Wt.some) rfl rfl (da rfl rfl rfl (fun w hw=>zhE _ w (hw.fr (i:=1) rfl) b vb_0 (SlC.mono hb_0 le1_14) vb_1 cb_1 (SlD.mono (rep:=cT) (fun _ _ _ _=>GBidder.mono) hb_1 le1_14) vb_4 (SlC.mono hb_4 le1_14) vb_5 (SlC.mono hb_5 le1_14) fuel r110 hr110)) ?_;refine dU ?_;refine q1W ?_;refine q3s ?_;exact cY (decide (r108=r110),F14) ⟨hk,le10_14⟩ (.c .nil) (List.Sublist.refl _)
       ·have p24:=of_decide_eq_false h24;replace hk:=di hk h24;refine eD ?_;refine q0o ?_;refine q3s ?_;exact cY (false,F14) ⟨hk,le10_14⟩ (.c .nil) (List.Sublist.refl _)
      ·replace hk:=di hk h23;refine eD ?_;refine q2P ?_;refine q3s ?_;exact cY (false,F14) ⟨hk,le10_14⟩ (.c .nil) (List.Sublist.refl _)
     ·have p22:=of_decide_eq_false h22;replace hk:=di hk h22;refine eD ?_;refine q2P ?_;refine TS.run 5 rfl ?_;refine q0o ?_;refine q3s ?_;exact cY (false,F10) ⟨hk,(Frz.Le.refl _)⟩ (.c .nil) (List.Sublist.refl _)
    ·rintro ⟨x_20,F13⟩ ⟨hk,le10_13⟩; (try dsimp only at *);rw [←hk21] at hk; (try dsimp only at hk);have le1_13:=le1_10.trans le10_13;refine T.ret ?_;obtain rfl:=Option.some.inj hk;exact eg rfl rfl (fun w' hw=>⟨⟨⟩,F13.toFrz,trivial,rfl,dk (hw.pick (idx:=[0,1]) rfl a8) hS0 le1_13⟩)
section
variable {σ ρ α:Type}
theorem zfG {f:Nat→(Unit→Bool)→Unit→Bool}{k:Unit→Bool}{n:Nat}(q:Nat→Bool)(hf:∀i next,i<n→f i next ()=(q i&&next ())):dq f k n 0 ()=((List.range n).all q&&k ()):=by
 have key:∀m i,i+m=n→dq f k m i ()=((List.range' i m).all q&&k ()):=by
  intro m
  induction m with
  |zero=>intro i _;simp [dq]
  |succ m ih=>
   intro i e
   show f i (dq f k m (i+1)) ()=_
   rw [hf i _ a7,ih (i+1) a7,List.range'_succ,List.all_cons,Bool.and_assoc]
 rw [key n 0 a7,List.range_eq_range']
theorem zg7 {x:Int}(h: -9223372036854775808≤x∧x≤9223372036854775807):wI x=x:=IntWalk.i64_in _ h
end
theorem zhk {σ τ ρ ρ':Type}{f:Nat→(σ→ρ)→σ→ρ}{k:σ→ρ}{g:Nat→(τ→ρ')→τ→ρ'}{k':τ→ρ'}{n:Nat}(R:Nat→σ→τ→Prop)(post:ρ→ρ'→Prop)(hk:∀s t,R n s t→post (k s) (k' t))(hf:∀i s t next next',i<n→R i s t→(∀s t,R (i+1) s t→post (next s) (next' t))→post (f i next s) (g i next' t)):∀m i s t,i+m=n→R i s t→post (dq f k m i s) (dq g k' m i t)
 |0,i,s,t,h,hR=>hk s t (by rw [←h];exact hR)
 |m+1,i,s,t,h,hR=>hf i s t _ _ a7 hR fun s t hR=>zhk R post hk hf m (i+1) s t a7 hR
theorem zgT {σ τ ρ ρ':Type}{f:Nat→(σ→ρ)→σ→ρ}{k:σ→ρ}{g:Nat→(τ→ρ')→τ→ρ'}{k':τ→ρ'}{n:Nat}{s:σ}{t:τ}(R:Nat→σ→τ→Prop)(post:ρ→ρ'→Prop)(h0:R 0 s t)(hk:∀s t,R n s t→post (k s) (k' t))(hf:∀i s t next next',i<n→R i s t→(∀s t,R (i+1) s t→post (next s) (next' t))→post (f i next s) (g i next' t)):post (dq f k (n - 0) 0 s) (dq g k' (n - 0) 0 t):=zhk R post hk hf _ _ _ _ a7 h0
theorem zjg (a b:Int):kz a b=if a<b then -1 else if b<a then 1 else 0:=by
 unfold kz zb0;rw [decide_eq_false (show ¬ ¬a=a by simp),cond_false,decide_eq_false (show ¬ ¬b=b by simp),cond_false];by_cases h:a<b
 ·rw [decide_eq_true h,cond_true,if_pos h]
 ·rw [decide_eq_false h,cond_false,if_neg h];by_cases h2:b<a
  ·rw [decide_eq_true h2,cond_true,if_pos h2]
  ·rw [decide_eq_false h2,cond_false,if_neg h2]
theorem zjl (a b:Int):zcZ [a,b]=if a=0 then b else a:=by
 show (bif decide (¬a=0) then a else bif decide (¬b=0) then b else 0)=_
 by_cases h:a=0
 ·rw [decide_eq_false (by simp [h]),cond_false,if_pos h];by_cases h2:b=0
  ·rw [decide_eq_false (by simp [h2]),cond_false,h2]
  ·rw [decide_eq_true h2,cond_true]
 ·rw [decide_eq_true h,cond_true,if_neg h]
theorem zjK (q p:GProduct):decide (0≤lf q p)=(decide (p.Area<q.Area)||(decide (p.Area=q.Area)&&decide (p.Category≤q.Category))):=by
 unfold lf;rw [zjl,zjg,zjg];rw [Bool.eq_iff_iff];simp only [decide_eq_true_eq,Bool.or_eq_true,Bool.and_eq_true]
 repeat' split
 all_goals omega
def jg (p:GProduct):Bool:= !((((((((((decide (p.Area<0))||(decide (63<p.Area)))||(decide (p.Category<1)))||(decide (2<p.Category)))||(decide (p.Supply<1)))||(decide (12<p.Supply)))||(decide (p.Units<1)))||(decide (100000<p.Units)))||(decide (p.Reserve<0)))||(decide (549755813888<p.Reserve)))
theorem zeR {p:GProduct}:jg p=true↔(0≤p.Area∧p.Area≤63∧1≤p.Category∧p.Category≤2∧1≤p.Supply∧p.Supply≤12∧1≤p.Units∧p.Units≤100000∧0≤p.Reserve∧p.Reserve≤549755813888):=by
 unfold jg;simp only [Bool.not_eq_true',Bool.or_eq_false_iff,decide_eq_false_iff_not];omega
structure InvP (l:List GProduct) (i:Nat) (v:Vec 64 Int):Prop where
 zero:∀a:Nat,a<64→(0<i→(cS l (i - 1)).Area<(a:Int))→v.get a=0
 last:0<i→jg (cS l (i - 1))=true∧((cS l (i - 1)).Category=1→v.get (cS l (i - 1)).Area.toNat=(cS l (i - 1)).Supply)
def okN (q p:GProduct):Bool:= !((decide (p.Area<q.Area))||((decide (p.Area=q.Area))&&((decide (p.Category≤q.Category))||(decide (12<wI (p.Supply+q.Supply))))))
theorem zhQ {l : List GProduct} {i : Nat} {v : Vec 64 Int} (h : InvP l i v) :
    ∃ r, zb8 (cS l i) v = some r ∧ ((jg (cS l i) = true ∧ (0 < i → okN (cS l (i - 1)) (cS l i) = true) ∧ r.1 = true ∧ (0 < i → decide (0 ≤ lf (cS l (i - 1)) (cS l i)) = false) ∧ InvP l (i + 1) r.2) ∨ ((jg (cS l i) = false ∨ 0 < i ∧ okN (cS l (i - 1)) (cS l i) = false) ∧ (r.1 = false ∨ 0 < i ∧ decide (0 ≤ lf (cS l (i - 1)) (cS l i)) = true))) := by
  obtain ⟨hz, hl⟩ := h; generalize cS l (i - 1) = q at *; generalize hp : cS l i = p; unfold zb8 kg; by_cases h1 : 0 ≤ p.Area ∧ p.Area ≤ 63 ∧ 1 ≤ p.Category ∧ p.Category ≤ 2 ∧ 1 ≤ p.Supply ∧ p.Supply ≤ 12
  · obtain ⟨a1, a2, a3, a4, a5, a6⟩ := h1; rw [decide_eq_true a1, decide_eq_true a2, decide_eq_true a3, decide_eq_true a4, decide_eq_true a5, decide_eq_true a6];simp only [Bool.and_self, Bool.not_true, Bool.or_self, cond_false]; (have ha : p.Area.toNat < 64 := by omega); rw [fF a7, fh ha, if_pos rfl];refine ⟨_, rfl, ?_⟩;dsimp only; rw [zjK]
    -- the sum of the area
    have hsum : (0 < i → jg q = true ∧ q.Area ≤ p.Area ∧ (q.Area = p.Area → q.Category < p.Category)) → wI (v.get p.Area.toNat + p.Supply) = if 0 < i ∧ q.Area = p.Area then q.Supply + p.Supply else p.Supply := by
      intro hh; by_cases hi : 0 < i ∧ q.Area = p.Area
      · obtain ⟨b1, b2, b3⟩ := hh hi.1; rw [zeR] at b1; have b4 := (hl hi.1).2 (by have := b3 hi.2; omega); rw [if_pos hi, ← hi.2, b4, zg7 a7]
      · rw [if_neg hi, hz p.Area.toNat ha (fun hi0 => by have := (hh hi0).2.1; have : q.Area ≠ p.Area := fun e => hi ⟨hi0, e⟩; omega), zg7 a7]; omega
    by_cases hgood : jg p = true ∧ (0 < i → okN q p = true)
    · obtain ⟨g1, g2⟩ := hgood
      have hord : 0 < i → jg q = true ∧ q.Area ≤ p.Area ∧ (q.Area = p.Area → q.Category < p.Category ∧ p.Supply + q.Supply ≤ 12) := by
        intro hi; have := g2 hi; have hq := (hl hi).1; unfold okN at this; simp only [Bool.not_eq_true', Bool.or_eq_false_iff, Bool.and_eq_false_iff, decide_eq_false_iff_not] at this; rw [zeR] at hq; rw [zg7 a7] at this; refine ⟨(hl hi).1, by omega, fun e => ?_⟩; omega
      have hs := hsum fun hi => ⟨(hord hi).1, (hord hi).2.1, fun e => ((hord hi).2.2 e).1⟩; refine .inl ⟨g1, g2, ?_, fun hi => ?_, ⟨fun a ha2 h0 => ?_, fun _ => ?_⟩⟩
      · rw [hs]; rw [zeR] at g1;simp only [Bool.and_eq_true, decide_eq_true_eq]
        split
        · rename_i hc; have := (hord hc.1).2.2 hc.2; omega
        · omega
      · have := hord hi;simp only [Bool.or_eq_false_iff, Bool.and_eq_false_iff, decide_eq_false_iff_not]; omega
      · have h9 := h0 a7; rw [show i + 1 - 1 = i by omega, hp] at h9; rw [fh ha, if_neg a7]; (exact hz a ha2 fun hi => by have := (hord hi).2.1; omega)
      · rw [show i + 1 - 1 = i by omega, hp]; refine ⟨g1, fun hc => ?_⟩; rw [fh ha, if_pos rfl, hs, if_neg]; rintro ⟨hi, he⟩; have := (hord hi).2.2 he; have hq := (hord hi).1; rw [zeR] at hq; omega
    · right
      have hbad : jg p = false ∨ 0 < i ∧ okN q p = false := by
        cases h3 : jg p with
        | false => exact .inl rfl
        | true =>
          refine .inr ?_; by_cases hi : 0 < i
          · refine ⟨hi, ?_⟩
            cases h4 : okN q p with
            | false => rfl
            | true => exact absurd ⟨h3, fun _ => h4⟩ hgood
          · exact absurd ⟨h3, fun h => absurd h hi⟩ hgood
      refine ⟨hbad, ?_⟩; by_cases hcmp : 0 < i ∧ ((decide (p.Area < q.Area)) || ((decide (p.Area = q.Area)) && (decide (p.Category ≤ q.Category)))) = true
      · exact .inr hcmp
      · left
        have hord : 0 < i → jg q = true ∧ q.Area ≤ p.Area ∧ (q.Area = p.Area → q.Category < p.Category) := by
          intro hi; have h5 : ¬ ((decide (p.Area < q.Area)) || ((decide (p.Area = q.Area)) && (decide (p.Category ≤ q.Category)))) = true := fun h => hcmp ⟨hi, h⟩; simp only [Bool.or_eq_true, Bool.and_eq_true, decide_eq_true_eq] at h5; exact ⟨(hl hi).1, by omega, fun e => by omega⟩
        rw [hsum hord]; rcases hbad with hb | ⟨hi, hb⟩
        · rw [← Bool.not_eq_true, zeR] at hb; rw [← Bool.not_eq_true];simp only [Bool.and_eq_true, decide_eq_true_eq]; omega
        · have h6 := hord hi; have hq := h6.1; rw [zeR] at hq; unfold okN at hb; rw [zg7 a7] at hb; simp only [Bool.not_eq_false', Bool.or_eq_true, Bool.and_eq_true, decide_eq_true_eq] at hb; rw [← Bool.not_eq_true];simp only [Bool.and_eq_true, decide_eq_true_eq]; (have he : q.Area = p.Area := by omega); rw [if_pos ⟨hi, he⟩]; have := h6.2.2 he; omega
  · refine ⟨(false, v), ?_, .inr ⟨.inl ?_, .inl rfl⟩⟩
    · rw [show ((((!(decide (0 ≤ p.Area) && decide (p.Area ≤ 63))) || (!(decide (1 ≤ p.Category) && decide (p.Category ≤ 2)))) || (!(decide (1 ≤ p.Supply) && decide (p.Supply ≤ 12))))) = true from ?_, cond_true]; rw [← Bool.not_eq_false];simp only [Bool.or_eq_false_iff, Bool.not_eq_false', Bool.and_eq_true, decide_eq_true_eq]; omega
    · rw [← Bool.not_eq_true, zeR]; omega
theorem ji (l:List GProduct):zbK l=some (i2 l):=by
 unfold zbK zaT i2;simp only [dF]
 have h:=zgT (n:=l.length) (s:=Vec.fill 64 (0:Int)) (t:=())
  (f:=fun (i_5:Nat) (next4:Vec 64 Int→Option (Bool×Vec 64 Int)) (c_3:Vec 64 Int)=>
   (zb8 (cS l i_5) c_3).bind fun r18=>
   (bif ((!r18.1)||((decide (0<(i_5:Int)))&&(decide (0≤(lf (cS l (((i_5:Int) - 1).toNat)) (cS l i_5)))))) then
    some (false,r18.2)
    else
    next4 r18.2)) (k:=fun c_3=>some (true,c_3))
  (g:=fun (i_3:Nat) (next2:Unit→Bool) (_:Unit)=>
   (bif ((((((((((decide ((cS l i_3).Area<0))||(decide (63<(cS l i_3).Area)))||(decide ((cS l i_3).Category<1)))||(decide (2<(cS l i_3).Category)))||(decide ((cS l i_3).Supply<1)))||(decide (12<(cS l i_3).Supply)))||(decide ((cS l i_3).Units<1)))||(decide (100000<(cS l i_3).Units)))||(decide ((cS l i_3).Reserve<0)))||(decide (549755813888<(cS l i_3).Reserve))) then
    false
    else
    (bif decide (0<(i_3:Int)) then
     (bif ((decide ((cS l i_3).Area<(cS l (((i_3:Int) - 1).toNat)).Area))||((decide ((cS l i_3).Area=(cS l (((i_3:Int) - 1).toNat)).Area))&&((decide ((cS l i_3).Category≤(cS l (((i_3:Int) - 1).toNat)).Category))||(decide (12<wI (((cS l i_3).Supply)+((cS l (((i_3:Int) - 1).toNat)).Supply))))))) then
      false
      else
      next2 ())
     else
     next2 ()))) (k':=fun _=>true)
  (fun i v _=>InvP l i v) (fun x y=>x.map (·.1)=some y)
  ⟨fun a ha _=>fQ ha,fun h=>absurd h a7⟩ (fun _ _ _=>rfl) (fun i v t next next' hi hR hn=>by
   obtain ⟨r,hr,hc⟩:=zhQ hR; (try dsimp only);rw [hr,Option.bind_some,show ((i:Int) - 1).toNat=i - 1 by omega]; (have e1:decide (0<(i:Int))=decide (0<i):=by rw [Bool.eq_iff_iff];simp);rw [e1];rcases hc with ⟨h1,h2,h3,h4,h5⟩|⟨h1,h2⟩
   ·unfold jg at h1;rw [Bool.not_eq_true'] at h1;rw [h1,cond_false,h3,Bool.not_true,Bool.false_or];by_cases hi0:0<i
    ·have h6:=h2 hi0;unfold okN at h6;rw [Bool.not_eq_true'] at h6;rw [h6,h4 hi0,Bool.and_false,cond_false,cond_false,decide_eq_true hi0,cond_true];exact hn _ _ h5
    ·rw [decide_eq_false hi0,Bool.false_and,cond_false,cond_false];exact hn _ _ h5
   ·have e2:((!r.1)||((decide (0<i))&&(decide (0≤(lf (cS l (i - 1)) (cS l i))))))=true:=by
     rcases h2 with h2|⟨h2,h3⟩
     ·rw [h2];rfl
     ·rw [h3,decide_eq_true h2];simp
    rw [e2,cond_true];rcases h1 with h1|⟨h0,h1⟩
    ·unfold jg at h1;rw [Bool.not_eq_false'] at h1;rw [h1,cond_true];rfl
    ·unfold okN at h1;rw [Bool.not_eq_false'] at h1;rw [h1,decide_eq_true h0]
     cases (decide ((cS l i).Area<0)||decide (63<(cS l i).Area)||decide ((cS l i).Category<1)||decide (2<(cS l i).Category)||decide ((cS l i).Supply<1)||decide (12<(cS l i).Supply)||decide ((cS l i).Units<1)||decide (100000<(cS l i).Units)||decide ((cS l i).Reserve<0)||decide (549755813888<(cS l i).Reserve)) <;> rfl)
 generalize dq _ _ (l.length - 0) 0 (Vec.fill 64 (0:Int))=x at h ⊢;generalize dq _ _ (l.length - 0) 0 ()=y at h ⊢
 cases x with
 |none=>cases h
 |some x=>exact h
theorem zdC {σ ρ:Type}(f:Nat→(σ→ρ)→σ→ρ)(k:σ→ρ)(m i:Nat)(s:σ):dq f k (m+1) i s=f i (dq f k m (i+1)) s:=rfl
theorem zcF {σ ρ:Type}(f:(σ→Option ρ)→σ→Option ρ)(m:Nat)(s:σ):ej f (m+1) s=f (ej f m) s:=rfl
theorem zdS {β ρ:Type}(g:Nat→β){f:Nat→(List β→ρ)→List β→ρ}{k:List β→ρ}{n:Nat}(hf:∀i next s,i<n→s.length=i→f i next s=next (s++[g i])):dq f k (n - 0) 0 []=k ((List.range n).map g):=by
 have key:∀m i,i+m=n→dq f k m i ((List.range i).map g)=k ((List.range n).map g):=by
  intro m
  induction m with
  |zero=>intro i e;rw [show i=n by omega];rfl
  |succ m ih=>
   intro i e;rw [zdC,hf i _ _ a7 b8];rw [show (List.range i).map g++[g i]=(List.range (i+1)).map g by rw [List.range_succ,List.map_append];rfl];exact ih (i+1) a7
 exact key (n - 0) 0 a7
theorem jD {β:Type}[Inhabited β]{g:Nat→β}{n j:Nat}(h:j<n):cS ((List.range n).map g) j=g j:=by
 rw [ff (by simpa using h)];simp
theorem ziL {β:Type}[Inhabited β]{a b:List β}(hl:a.length=b.length)(h:∀j,j<a.length→cS a j=cS b j):a=b:=by
 refine List.ext_getElem hl fun i h1 h2=>?_;rw [←ff h1,←ff h2];exact h i h1
theorem ziH {l:List Int}{i:Nat}(h:i<l.length):l.set i (cS l i)=l:=by
 rw [ff h];exact List.set_getElem_self h
theorem zgv {ρ:Type}(g:Nat→Int→Int){f:Nat→(List Int→ρ)→List Int→ρ}{k:List Int→ρ}{n:Nat}{s0:List Int}(hs:s0.length=n)(hf:∀i next s,i<n→s.length=n→cS s i=cS s0 i→f i next s=next (s.set i (g i (cS s i)))):dq f k (n - 0) 0 s0=k ((List.range n).map fun i=>g i (cS s0 i)):=by
 have key:∀m i s,i+m=n→s.length=n→(∀j,j<n→cS s j=if j<i then g j (cS s0 j) else cS s0 j)→dq f k m i s=k ((List.range n).map fun i=>g i (cS s0 i)):=by
  intro m
  induction m with
  |zero=>
   intro i s e hl h;refine congrArg k (ziL (by simp [hl]) fun j hj=>?_);rw [h j a7,if_pos a7,jD a7]
  |succ m ih=>
   intro i s e hl h;have h0:=h i a7;rw [if_neg a7] at h0;rw [zdC,hf i _ _ a7 hl h0];refine ih (i+1) _ a7 (by rw [List.length_set];exact hl) fun j hj=>?_;rw [kq a7];by_cases e2:i=j
   ·subst e2;rw [if_pos rfl,if_pos a7,h0]
   ·rw [if_neg e2,h j hj];by_cases e3:j<i
    ·rw [if_pos e3,if_pos a7]
    ·rw [if_neg e3,if_neg a7]
 exact key (n - 0) 0 s0 a7 hs (fun j hj=>by rw [if_neg a7])
def fw (f:Nat→Int):Nat→Int
 |0=>0
 |n+1=>wI (fw f n+f n)
theorem zfN {f g:Nat→Int}:∀ {n:Nat},(∀i,i<n→f i=g i)→fw f n=fw g n
 |0,_=>rfl
 |n+1,h=>by rw [fw,fw,zfN (n:=n) (fun i hi=>h i a7),h n a7]
theorem ziO {f:Nat→Int}{c:Int}:∀ {n:Nat},(∀i,i<n→0≤f i∧f i≤c)→0≤c→(n:Int) *c≤9223372036854775807→0≤fw f n∧fw f n≤n*c
 |0,_,_,_=>by simp [fw]
 |n+1,h,hc,hb=>by
  (have e:((n+1:Nat):Int) *c=n*c+c:=by rw [Int.natCast_add,Int.add_mul];simp);rw [e] at hb ⊢;have ih:=ziO (n:=n) (fun i hi=>h i a7) hc a7;have h1:=h n a7;rw [fw,zg7 a7];omega
theorem zfh {ρ:Type}(g:Nat→Int){f:Nat→(Int→ρ)→Int→ρ}{k:Int→ρ}{n:Nat}(hf:∀i next s,i<n→f i next s=next (wI (s+g i))):dq f k (n - 0) 0 0=k (fw g n):=by
 have key:∀m i,i+m=n→dq f k m i (fw g i)=k (fw g n):=by
  intro m
  induction m with
  |zero=>intro i e;rw [show i=n by omega];rfl
  |succ m ih=>
   intro i e;rw [zdC,hf i _ _ a7];exact ih (i+1) a7
 exact key (n - 0) 0 a7
theorem zjr {fuel : Nat} {a b : List Int} (hl : a.length = b.length) (hf : a.length + 2 ≤ fuel) : zdl fuel a b = some (fw (fun i => wI (cS a i * cS b i)) a.length) := by
  unfold zdl;simp only [dF]
  have key : ∀ m i fu, i + m = a.length → m + 1 ≤ fu → ej (fun (next5 : (Int × Int) → Option Int) (s5 : Int × Int) =>
      (bif ((decide (s5.2 < (a.length : Int))) && (decide (s5.2 < (b.length : Int)))) then
        dl (0 ≤ s5.2 ∧ s5.2 < (a.length : Int)) <|
        next5 (wI (s5.1 + (wI ((cS a s5.2.toNat) * (cS b s5.2.toNat)))), (s5.2 + 1))
        else
        some s5.1)) fu (fw (fun i => wI (cS a i * cS b i)) i, (i : Int)) = some (fw (fun i => wI (cS a i * cS b i)) a.length) := by
    intro m
    induction m with
    | zero =>
      intro i fu e hfu; obtain ⟨fu, rfl⟩ : ∃ q, fu = q + 1 := ⟨fu - 1, by omega⟩; rw [zcF];dsimp only; rw [decide_eq_false a7, Bool.false_and, cond_false, show i = a.length by omega]
    | succ m ih =>
      intro i fu e hfu; obtain ⟨fu, rfl⟩ : ∃ q, fu = q + 1 := ⟨fu - 1, by omega⟩; rw [zcF];dsimp only; rw [decide_eq_true a7, decide_eq_true a7, Bool.and_self, cond_true, fF a7, show ((i : Int)).toNat = i by omega]; exact ih (i + 1) fu a7 a7
  exact key a.length 0 fuel a7 a7
theorem zhi {l:List GProduct}(hn:l.length≤100):zcy l=some ((List.range l.length).map fun i=>(cS l i).Units):=by
 unfold zcy;simp only [dF]
 rw [zdS (fun i=>(cS l i).Units) (fun i next s hi hs=>by
  rw [fF (by unfold df;rw [List.length_append,hs];simp;omega)])]
structure DemOk (l:List GProduct) (d:List Int):Prop where
 len:d.length=l.length
 bd:∀j,j<l.length→0≤cS d j∧cS d j≤(cS l j).Supply
theorem zjt (p:GProduct):((((((((((decide (p.Area<0))||(decide (63<p.Area)))||(decide (p.Category<1)))||(decide (2<p.Category)))||(decide (p.Supply<1)))||(decide (12<p.Supply)))||(decide (p.Units<1)))||(decide (100000<p.Units)))||(decide (p.Reserve<0)))||(decide (549755813888<p.Reserve)))= !jg p:=by unfold jg;rw [Bool.not_not]
theorem zhB {l : List GProduct} (h : i2 l = true) : ∀ j, j < l.length → jg (cS l j) = true := by
  have key : ∀ m i, i + m = l.length → dq (fun (i_3 : Nat) (next2 : Unit → Bool) (_ : Unit) =>
      (bif ((((((((((decide ((cS l i_3).Area < 0)) || (decide (63 < (cS l i_3).Area))) || (decide ((cS l i_3).Category < 1))) || (decide (2 < (cS l i_3).Category))) || (decide ((cS l i_3).Supply < 1))) || (decide (12 < (cS l i_3).Supply))) || (decide ((cS l i_3).Units < 1))) || (decide (100000 < (cS l i_3).Units))) || (decide ((cS l i_3).Reserve < 0))) || (decide (549755813888 < (cS l i_3).Reserve))) then
        false
        else
        (bif decide (0 < (i_3 : Int)) then
          (bif ((decide ((cS l i_3).Area < (cS l (((i_3 : Int) - 1).toNat)).Area)) || ((decide ((cS l i_3).Area = (cS l (((i_3 : Int) - 1).toNat)).Area)) && ((decide ((cS l i_3).Category ≤ (cS l (((i_3 : Int) - 1).toNat)).Category)) || (decide (12 < wI (((cS l i_3).Supply) + ((cS l (((i_3 : Int) - 1).toNat)).Supply))))))) then
            false
            else
            next2 ())
          else
          next2 ()))) (fun _ => true) m i () = true → ∀ j, i ≤ j → j < l.length → jg (cS l j) = true := by
    intro m
    induction m with
    | zero => intro i hi _ j h1 h2; omega
    | succ m ih =>
      intro i hi h j h1 h2; rw [zdC] at h; (try dsimp only at h); rw [zjt] at h
      have e : jg (cS l i) = true := by
        cases hc : jg (cS l i) with
        | true => rfl
        | false => rw [hc] at h; cases h
      rw [e, Bool.not_true, cond_false] at h; have h9 := h; by_cases hj : j = i
      · subst hj; exact e
      · refine ih (i + 1) a7 ?_ j a7 h2; generalize dq _ _ m (i + 1) () = y at h9 ⊢
        revert h9
        cases decide (0 < (i : Int))
        · exact id
        · rw [cond_true]; generalize (_ || _ : Bool) = z
          cases z
          · exact id
          · intro h; cases h
  unfold i2 at h; simp only [dF] at h; intro j hj; exact key (l.length - 0) 0 a7 h j a7 hj
theorem zgU {l:List GProduct}(h:i2 l=true)(blocks:List Int):zcj l blocks=kw l blocks:=by
 unfold zcj kw;rw [h];by_cases hl:blocks.length=l.length
 ·rw [hl,decide_eq_false b8];rfl
 ·rw [decide_eq_true (show ¬(blocks.length:Int)=(l.length:Int) by omega)];rfl
theorem zis {l:List GProduct}{blocks:List Int}(h:kw l blocks=true):DemOk l blocks:=by
 unfold kw at h
 cases hc:(decide (¬(blocks.length:Int)=(l.length:Int))) with
 |true=>rw [hc] at h;cases h
 |false=>
  rw [hc,cond_false] at h;rw [decide_eq_false_iff_not] at hc;simp only [dF] at h
  rw [show blocks.length - 0=blocks.length from rfl,zfG (fun i=>decide (0≤cS blocks i)&&decide (cS blocks i≤(cS l i).Supply)) (fun i next hi=>by
   cases hc2:((decide ((cS blocks i)<0))||(decide ((cS l i).Supply<(cS blocks i)))) with
   |true=>
    rw [cond_true];rw [Bool.or_eq_true,decide_eq_true_eq,decide_eq_true_eq] at hc2
    rw [show (decide (0≤cS blocks i)&&decide (cS blocks i≤(cS l i).Supply))=false by
     rw [←Bool.not_eq_true,Bool.and_eq_true,decide_eq_true_eq,decide_eq_true_eq];omega]
    rfl
   |false=>
    rw [cond_false];rw [Bool.or_eq_false_iff,decide_eq_false_iff_not,decide_eq_false_iff_not] at hc2;rw [decide_eq_true (show 0≤cS blocks i by omega),decide_eq_true (show cS blocks i≤(cS l i).Supply by omega)]
    rfl)] at h
  rw [Bool.and_true,List.all_eq_true] at h;refine ⟨by omega,fun j hj=>?_⟩;have:=h j (List.mem_range.2 a7);rw [Bool.and_eq_true,decide_eq_true_eq,decide_eq_true_eq] at this;exact this
def kF (l:List GProduct)(d:List Int):Int:=fw (fun i=>wI (cS d i* (cS l i).Units)) l.length
theorem zjm {l:List GProduct}{d:List Int}(hd:d.length=l.length):zcn l d=some (kF l d):=by
 unfold zcn kF;simp only [dF];rw [hd];rw [zfh (fun i=>wI (cS d i* (cS l i).Units)) (fun i next s hi=>by rw [fF a7])]
theorem zh3 {fuel:Nat}{l:List GProduct}{d:List Int}(hp:i2 l=true)(hn:l.length≤100)(hf:200≤fuel)(h:kw l d=true):zci fuel l d=some (kF l d,0):=by
 have hd:=(zis h).len;unfold zci;rw [zgU hp,h,Bool.not_true,cond_false,zhi hn,Option.bind_some,zjr (by simp [hd]) (by simp;omega),Option.bind_some];rw [show ((List.range l.length).map fun i=>(cS l i).Units).length=l.length by simp];unfold kF;rw [zfN (fun i hi=>by rw [jD hi,Int.mul_comm])]
theorem zgD {fuel:Nat}{l:List GProduct}{d:List Int}(h:zcj l d=false):zci fuel l d=some (0,2):=by
 unfold zci;rw [h];rfl
structure BidOk (l:List GProduct) (b:GBidder):Prop where
 id:0≤b.ID∧b.ID≤31
 el:0≤b.Eligibility∧b.Eligibility≤76800000
 wa:0≤b.Waivers∧b.Waivers≤3
 dem:DemOk l b.Blocks
 un:kF l b.Blocks≤b.Eligibility
theorem zi3 (b:GBidder)(i:Nat)(q:Int):(((((((decide (b.ID<0))||(decide (31<b.ID)))||(decide (b.Eligibility<0)))||(decide (76800000<b.Eligibility)))||(decide (b.Waivers<0)))||(decide (3<b.Waivers)))||((decide (0<(i:Int)))&&(decide (b.ID≤q))))= !decide ((0≤b.ID∧b.ID≤31∧0≤b.Eligibility∧b.Eligibility≤76800000∧0≤b.Waivers∧b.Waivers≤3)∧(0<i→q<b.ID)):=by
 rw [Bool.eq_iff_iff];simp only [Bool.or_eq_true,Bool.and_eq_true,decide_eq_true_eq,Bool.not_eq_true',decide_eq_false_iff_not];omega
theorem zgm {fuel : Nat} {l : List GProduct} {bs : List GBidder} (hn : l.length ≤ 100) (hb : bs.length ≤ 32) (hf : 200 ≤ fuel) :
    ∃ r, kH l bs = some r ∧ zbu fuel l bs = some r ∧ (r = true → i2 l = true ∧ ∀ j, j < bs.length → BidOk l (cS bs j)) := by
  cases hp : i2 l with
  | false =>
    refine ⟨false, ?_, ?_, fun h => by cases h⟩
    · unfold kH;simp only [dF]; rw [decide_eq_false a7, cond_false, ji, Option.bind_some, hp]; rfl
    · unfold zbu;simp only [dF]; rw [hp]; by_cases h0 : bs.length = 0
      · rw [h0]; rfl
      · obtain ⟨m, hm⟩ : ∃ m, bs.length - 0 = m + 1 := ⟨bs.length - 1, by omega⟩; rw [hm, zdC]; (try dsimp only); rw [zgD (by unfold zcj; rw [hp]; rfl), Option.bind_some]; generalize (_ || _ : Bool) = z
        cases z <;> rfl
  | true =>
    have h := zgT (n := bs.length) (s := (-1 : Int)) (t := ())
      (f := fun (i_8 : Nat) (next7 : Int → Option Bool) (last_6 : Int) =>
          (bif ((decide ((cS bs i_8).ID ≤ last_6)) || (decide (32 ≤ (cS bs i_8).ID))) then
            some false
            else
            (bif ((((decide ((cS bs i_8).Eligibility < 0)) || (decide (76800000 < (cS bs i_8).Eligibility))) || (decide ((cS bs i_8).Waivers < 0))) || (decide (3 < (cS bs i_8).Waivers))) then
              some false
              else
              dF (fun (x_16 : Bool) =>
                (bif x_16 then
                  some false
                  else
                  next7 ((cS bs i_8).ID)))
              (fun k17 =>
                (bif !(kw l ((cS bs i_8).Blocks)) then
                  k17 true
                  else
                  (zcn l ((cS bs i_8).Blocks)).bind fun r58 =>
                  k17 (decide ((cS bs i_8).Eligibility < r58))))))) (k := fun _ => some true)
      (g := fun (i_3 : Nat) (next2 : Unit → Option Bool) (_ : Unit) =>
      (bif (((((((decide ((cS bs i_3).ID < 0)) || (decide (31 < (cS bs i_3).ID))) || (decide ((cS bs i_3).Eligibility < 0))) || (decide (76800000 < (cS bs i_3).Eligibility))) || (decide ((cS bs i_3).Waivers < 0))) || (decide (3 < (cS bs i_3).Waivers))) || ((decide (0 < (i_3 : Int))) && (decide ((cS bs i_3).ID ≤ (cS bs (((i_3 : Int) - 1).toNat)).ID)))) then
        some false
        else
        (zci fuel l ((cS bs i_3).Blocks)).bind fun r66 =>
        (bif ((decide (¬ r66.2 = 0)) || (decide ((cS bs i_3).Eligibility < r66.1))) then
          some false
          else
          next2 ()))) (k' := fun _ => some true)
      (fun i last _ => (∀ j, j < i → BidOk l (cS bs j)) ∧ last = if i = 0 then -1 else (cS bs (i - 1)).ID) (fun x y => x = y ∧ ∃ r, x = some r ∧ (r = true → ∀ j, j < bs.length → BidOk l (cS bs j)))
      ⟨fun j hj => absurd hj a7, rfl⟩ (fun s t hR => ⟨rfl, true, rfl, fun _ => hR.1⟩) (fun i last t next next' hi hR hn2 => by
        obtain ⟨hok, hlast⟩ := hR; (try dsimp only); rw [zi3, show ((i : Int) - 1).toNat = i - 1 by omega]; have hprev : 0 < i → 0 ≤ (cS bs (i - 1)).ID := fun h0 => (hok (i - 1) a7).id.1; generalize hbb : cS bs i = b at *; by_cases h1 : last < b.ID ∧ b.ID ≤ 31
        · rw [show ((decide (b.ID ≤ last)) || (decide (32 ≤ b.ID))) = false by simp; omega, cond_false]; by_cases h2 : 0 ≤ b.Eligibility ∧ b.Eligibility ≤ 76800000 ∧ 0 ≤ b.Waivers ∧ b.Waivers ≤ 3
          · rw [show ((((decide (b.Eligibility < 0)) || (decide (76800000 < b.Eligibility))) || (decide (b.Waivers < 0))) || (decide (3 < b.Waivers))) = false by simp; omega, cond_false]
            have hid : 0 ≤ b.ID ∧ (0 < i → (cS bs (i - 1)).ID < b.ID) := by
              by_cases h0 : i = 0
              · rw [if_pos h0] at hlast; exact ⟨by omega, fun h => by omega⟩
              · rw [if_neg h0] at hlast; have := hprev a7; exact ⟨by omega, fun _ => by omega⟩
            rw [decide_eq_true (show (0 ≤ b.ID ∧ b.ID ≤ 31 ∧ 0 ≤ b.Eligibility ∧ b.Eligibility ≤ 76800000 ∧ 0 ≤ b.Waivers ∧ b.Waivers ≤ 3) ∧ (0 < i → (cS bs (i - 1)).ID < b.ID) from ⟨by omega, hid.2⟩), Bool.not_true, cond_false];simp only [dF]
            cases hfit : kw l b.Blocks with
            | false =>
              rw [zgD (by rw [zgU hp]; exact hfit), Option.bind_some]; exact ⟨rfl, false, rfl, fun h => by cases h⟩
            | true =>
              rw [zh3 hp hn hf hfit, zjm (zis hfit).len, Option.bind_some, Bool.not_true, cond_false, Option.bind_some];dsimp only; rw [decide_eq_false (show ¬ ¬ (0 : Int) = 0 by simp), Bool.false_or]; by_cases hu : b.Eligibility < kF l b.Blocks
              · rw [decide_eq_true hu]; exact ⟨rfl, false, rfl, fun h => by cases h⟩
              · rw [decide_eq_false hu, cond_false, cond_false]; refine hn2 _ _ ⟨fun j hj => ?_, ?_⟩
                · by_cases e : j = i
                  · subst e; rw [hbb]; exact ⟨⟨hid.1, h1.2⟩, ⟨h2.1, h2.2.1⟩, h2.2.2, zis hfit, by omega⟩
                  · exact hok j a7
                · rw [if_neg a7, show i + 1 - 1 = i by omega, hbb]
          · rw [show ((((decide (b.Eligibility < 0)) || (decide (76800000 < b.Eligibility))) || (decide (b.Waivers < 0))) || (decide (3 < b.Waivers))) = true by simp; omega, cond_true]; rw [decide_eq_false (by rintro ⟨h, _⟩; omega)]; exact ⟨rfl, false, rfl, fun h => by cases h⟩
        · rw [show ((decide (b.ID ≤ last)) || (decide (32 ≤ b.ID))) = true by simp; omega, cond_true]
          rw [decide_eq_false (by
            rintro ⟨h, h3⟩; by_cases h0 : i = 0
            · rw [if_pos h0] at hlast; omega
            · rw [if_neg h0] at hlast; have := h3 a7; omega)]
          exact ⟨rfl, false, rfl, fun h => by cases h⟩)
    obtain ⟨he, r, hr, hall⟩ := h; refine ⟨r, ?_, ?_, fun h => ⟨rfl, hall h⟩⟩
    · unfold kH;simp only [dF]; rw [decide_eq_false a7, cond_false, ji, Option.bind_some, hp, Bool.not_true, cond_false]; exact hr
    · unfold zbu;simp only [dF]; rw [hp]; exact he ▸ hr
def iC (bs:List GBidder)(j:Nat):Int:=fw (fun k=>cS (cS bs k).Blocks j) bs.length
theorem ok12 {l:List GProduct}(h:i2 l=true){j:Nat}(hj:j<l.length):1≤(cS l j).Supply∧(cS l j).Supply≤12:=by
 have:=zhB h j hj;rw [zeR] at this;omega
structure Val (l:List GProduct) (bs:List GBidder):Prop where
 n:l.length≤100
 m:bs.length≤32
 prods:i2 l=true
 bids:∀j,j<bs.length→BidOk l (cS bs j)
 prog:kH l bs=some true
 ref:∀fuel,200≤fuel→zbu fuel l bs=some true
theorem zjN {l:List GProduct}{bs:List GBidder}(hn:l.length≤100)(hm:bs.length≤32)(h:kH l bs=some true):Val l bs:=by
 have key:∀fuel,200≤fuel→zbu fuel l bs=some true:=fun fuel hf=>by
  obtain ⟨r,h1,h2,_⟩:=zgm (bs:=bs) hn hm hf;rw [h] at h1
  cases h1;exact h2
 obtain ⟨r,h1,_,h3⟩:=zgm (fuel:=200) (bs:=bs) hn hm (Nat.le_refl _);rw [h] at h1
 cases h1
 exact ⟨hn,hm,(h3 rfl).1,(h3 rfl).2,h,key⟩
theorem Val.blk {l:List GProduct}{bs:List GBidder}(h:Val l bs){k j:Nat}(hk:k<bs.length)(hj:j<l.length):0≤cS (cS bs k).Blocks j∧cS (cS bs k).Blocks j≤12:=by
 have h1:=(h.bids k hk).dem.bd j hj;have h2:=ok12 h.prods hj;omega
theorem Val.tot_bd {l:List GProduct}{bs:List GBidder}(h:Val l bs){j:Nat}(hj:j<l.length):0≤iC bs j∧iC bs j≤384:=by
 have h1:=ziO (f:=fun k=>cS (cS bs k).Blocks j) (c:=12) (n:=bs.length) (fun k hk=>h.blk hk hj) a7 (by have:=h.m;omega);have:=h.m;unfold iC;omega
theorem zjn {l : List GProduct} {bs : List GBidder} (h : Val l bs) : zc7 l bs = some ((List.range l.length).map (iC bs), 0) := by
  unfold zc7; rw [h.prog, Option.bind_some, Bool.not_true, cond_false, fF (by have := h.n; unfold df; omega)];simp only [dF]
  have key : ∀ m i, i + m = bs.length → dq (fun (i_6 : Nat) (next5 : List Int → Option (List Int × Int)) (l_4 : List Int) =>
        dq (fun (i_10 : Nat) (next9 : List Int → Option (List Int × Int)) (l_8 : List Int) =>
          dl (0 ≤ (i_10 : Int) ∧ (i_10 : Int) < (l_8.length : Int)) <|
          next9 (l_8.set i_10 (wI ((cS l_8 i_10) + (cS ((cS bs i_6).Blocks) i_10)))))
        (fun (l_8 : List Int) =>
          next5 l_8) ((((cS bs i_6).Blocks).length) - 0) 0 l_4) (fun l_4 => some (l_4, 0)) m i ((List.range l.length).map fun j => fw (fun k => cS (cS bs k).Blocks j) i) = some ((List.range l.length).map (iC bs), 0) := by
    intro m
    induction m with
    | zero => intro i e; rw [show i = bs.length by omega]; rfl
    | succ m ih =>
      intro i e; have hl := (h.bids i a7).dem.len; rw [zdC]; (try dsimp only); rw [hl]
      rw [zgv (n := l.length) (fun j x => wI (x + cS (cS bs i).Blocks j)) b8 (fun j next s hj hs he => by
        rw [fF a7])]
      rw [← ih (i + 1) a7]; refine congrArg _ (List.map_congr_left fun j hj => ?_); have hj := List.mem_range.1 hj; (try dsimp only); rw [jD hj]; rfl
  have h0 : List.replicate l.length (0 : Int) = (List.range l.length).map fun j => fw (fun k => cS (cS bs k).Blocks j) 0 := by
    refine List.ext_getElem b8 fun i h1 h2 => ?_; simp [fw]
  rw [h0]; exact key (bs.length - 0) 0 a7
theorem zih {fuel:Nat}{l:List GProduct}{bs:List GBidder}(h:Val l bs)(hf:200≤fuel):zdB fuel l bs=some ((List.range l.length).map (iC bs),0):=by
 unfold zdB;rw [h.ref _ hf,Option.bind_some,Bool.not_true,cond_false];simp only [dF]
 rw [zdS (iC bs) (fun i next s hi hs=>by
  rw [zfh (fun k=>cS (cS bs k).Blocks i) (fun k next s2 hk=>by
   rw [fF (by have:=(h.bids k hk).dem.len;omega)])]
  rw [fF (by have:=h.n;unfold df;rw [List.length_append,hs];simp;omega)]
  rfl)]
def i0 (l:List GProduct)(bs:List GBidder)(j:Nat):Int:=max (wI (iC bs j - (cS l j).Supply)) 0
theorem ziS {l:List GProduct}{bs:List GBidder}(h:Val l bs):zcN l ((List.range l.length).map (iC bs))=some ((List.range l.length).map (i0 l bs),0):=by
 unfold zcN;rw [ji,Option.bind_some,h.prods];rw [show (!true||decide (¬(((List.range l.length).map (iC bs)).length:Int)=(l.length:Int)))=false by simp,cond_false,fF (by have:=h.n;unfold df;omega)];simp only [dF];rw [show ((List.range l.length).map (iC bs)).length=l.length by simp]
 rw [zgv (n:=l.length) (fun j x=>i0 l bs j) b8 (fun j next s hj hs he=>by
  have:=h.tot_bd hj;rw [jD hj,decide_eq_false a7,decide_eq_false a7,Bool.or_self,cond_false,fF a7]
  rfl)]
theorem zhI {l:List GProduct}{bs:List GBidder}(h:Val l bs):zc9 l ((List.range l.length).map (iC bs))=some ((List.range l.length).map (i0 l bs),0):=by
 unfold zc9;rw [h.prods];rw [show (!true||decide (¬(((List.range l.length).map (iC bs)).length:Int)=(l.length:Int)))=false by simp,cond_false];simp only [dF]
 rw [zdS (i0 l bs) (fun j next s hj hs=>by
  have:=h.tot_bd hj;rw [jD hj,decide_eq_false a7,decide_eq_false a7,Bool.or_self,cond_false,fF (by have:=h.n;unfold df;rw [List.length_append,hs];simp;omega)];unfold i0
  rw [Int.max_comm])]
structure Good (a:GAuction):Prop where
 val:Val a.catalogue a.bidders
 key:1≤a.key.length
 plen:a.prices.length=a.catalogue.length
 pbd:∀j,j<a.catalogue.length→0≤cS a.prices j∧cS a.prices j≤1099511627776
 step:1≤a.increment.Step∧a.increment.Step≤50
 rm:it a.bidders
def jI (a:GAuction):Gbandplanref36_Auction:=⟨a.catalogue,a.bidders,a.increment,a.key,a.prices,a.rounds⟩
section
variable {a:GAuction}(h:Good a)
theorem zgj (h:Good a):jQ a=false:=by
 unfold jQ;exact decide_eq_false (by have:=h.key;omega)
theorem zjq (h:Good a):zay a=some ((List.range a.catalogue.length).map (iC a.bidders)):=by
 unfold zay;rw [zjn h.val];rfl
theorem zji (h:Good a):zan a=some ((List.range a.catalogue.length).map (i0 a.catalogue a.bidders)):=by
 unfold zan;rw [zgj h,cond_false,zjq h,Option.bind_some,ziS h.val];rfl
theorem zgs {fuel:Nat}(h:Good a)(hf:200≤fuel):zcm fuel (jI a)=some ((List.range a.catalogue.length).map (iC a.bidders)):=by
 unfold zcm jI;dsimp only;rw [zih h.val hf];rfl
theorem zg9 {fuel:Nat}(h:Good a)(hf:200≤fuel):zcp fuel (jI a)=some ((List.range a.catalogue.length).map (i0 a.catalogue a.bidders)):=by
 unfold zcp;rw [zgs h hf,Option.bind_some];unfold jI;dsimp only;rw [zhI h.val];rfl
def clk (a:GAuction)(j:Nat):Int:=if 0<i0 a.catalogue a.bidders j then wI (cS a.prices j+max (wI (cS a.prices j*a.increment.Step) / 100) 1) else cS a.prices j
theorem ko {p s:Int}(h1:0≤p∧p≤1099511627776)(h2:1≤s∧s≤50):0≤p*s∧p*s≤54975581388800:=by
 refine ⟨Int.mul_nonneg h1.1 a7,?_⟩;have:=Int.mul_le_mul h1.2 h2.2 a7 (by omega:(0:Int)≤1099511627776);omega
theorem zi5 (h:Good a):zaC a=some ((List.range a.catalogue.length).map (clk a)):=by
 unfold zaC;rw [zgj h,cond_false,fF (by have:=h.val.n;rw [h.plen];unfold df;omega),zji h,Option.bind_some];simp only [dF];rw [show ((List.range a.catalogue.length).map (i0 a.catalogue a.bidders)).length=a.catalogue.length by simp]
 rw [zgv (n:=a.catalogue.length) (fun j x=>if 0<i0 a.catalogue a.bidders j then wI (x+max (wI (x*a.increment.Step) / 100) 1) else x) h.plen (fun j next s hj hs he=>by
  have h1:=ko (h.pbd j hj) h.step;rw [jD hj];by_cases hc:0<i0 a.catalogue a.bidders j
  ·rw [decide_eq_true hc,cond_true,fF a7,he,zg7 a7,fF a7,if_pos hc]
  ·rw [decide_eq_false hc,cond_false,if_neg hc,ziH a7])]
 rfl
theorem zhG {fuel:Nat}(h:Good a)(hf:200≤fuel):zde fuel (jI a)=some ((List.range a.catalogue.length).map (clk a)):=by
 unfold zde;rw [zg9 h hf,Option.bind_some];simp only [dF];unfold jI;dsimp only;rw [show ((List.range a.catalogue.length).map (i0 a.catalogue a.bidders)).length=a.catalogue.length by simp]
 rw [zdS (clk a) (fun j next s hj hs=>by
  have h1:=ko (h.pbd j hj) h.step;rw [fF (by have:=h.plen;omega),jD hj]; (have hr:df (s++[clk a j]).length 8:=by have:=h.val.n;unfold df;rw [List.length_append,hs];simp;omega);by_cases hc:0<i0 a.catalogue a.bidders j
  ·(have e:wI (cS a.prices j+max 1 (wI (cS a.prices j*a.increment.Step) / 100))=clk a j:=by unfold clk;rw [if_pos hc,Int.max_comm]);rw [decide_eq_true hc,cond_true,e,zg7 a7,fF a7,fF (by rw [List.length_append] at hr ⊢;exact hr)]
  ·(have e:cS a.prices j=clk a j:=by unfold clk;rw [if_neg hc])
   rw [decide_eq_false hc,cond_false,e,fF (by rw [List.length_append] at hr ⊢;exact hr)])]
theorem zh2 (h:Good a):zaK a=some (fw (fun i=>wI (iC a.bidders i*cS a.prices i)) a.catalogue.length):=by
 unfold zaK;rw [zgj h,cond_false,zjq h,Option.bind_some];simp only [dF];rw [show ((List.range a.catalogue.length).map (iC a.bidders)).length=a.catalogue.length by simp]
 rw [zfh (fun i=>wI (iC a.bidders i*cS a.prices i)) (fun i next s hi=>by
  rw [fF (by have:=h.plen;omega),jD hi])]
theorem zg5 {fuel:Nat}(h:Good a)(hf:200≤fuel):zcC fuel (jI a)=some (fw (fun i=>wI (iC a.bidders i*cS a.prices i)) a.catalogue.length):=by
 unfold zcC;rw [zgs h hf,Option.bind_some];have h1:(jI a).Posted=a.prices:=rfl;rw [h1,zjr (by simp [h.plen]) (by have:=h.val.n;have:=h.plen;omega),Option.bind_some,h.plen];rw [zfN (fun i hi=>by rw [jD hi,Int.mul_comm])]
theorem zjy (h:Good a):zaR a=some (fw (fun i=>wI (iC a.bidders i* (cS a.catalogue i).Units)) a.catalogue.length):=by
 unfold zaR;rw [zgj h,cond_false,zjq h,Option.bind_some];simp only [dF];rw [show ((List.range a.catalogue.length).map (iC a.bidders)).length=a.catalogue.length by simp]
 rw [zfh (fun i=>wI (iC a.bidders i* (cS a.catalogue i).Units)) (fun i next s hi=>by
  rw [fF a7,jD hi])]
theorem ziz {fuel:Nat}(h:Good a)(hf:200≤fuel):zd7 fuel (jI a)=some (fw (fun i=>wI (iC a.bidders i* (cS a.catalogue i).Units)) a.catalogue.length):=by
 unfold zd7;have h1:(jI a).Products=a.catalogue:=rfl;rw [h1,zhi h.val.n,Option.bind_some,zgs h hf,Option.bind_some,zjr b8 (by have:=h.val.n;simp;omega),Option.bind_some];rw [show ((List.range a.catalogue.length).map fun i=>(cS a.catalogue i).Units).length=a.catalogue.length by simp];rw [zfN (fun i hi=>by rw [jD hi,jD hi,Int.mul_comm])]
theorem zh5 (s:List Int):zaG s=(List.range s.length).any fun i=>decide (0<cS s i):=by
 unfold zaG za9 zaZ;simp only [dF]
 have key:∀m i,i+m=s.length→decide (0≤dq (fun (i_3:Nat) (next2:Unit→Int) (_:Unit)=>(bif (decide (0<cS s i_3)) then (i_3:Int) else next2 ())) (fun _=>(-1)) m i ())=(List.range' i m).any fun i=>decide (0<cS s i):=by
  intro m
  induction m with
  |zero=>intro i _;rfl
  |succ m ih=>
   intro i e;rw [zdC,List.range'_succ,List.any_cons]; (try dsimp only)
   cases decide (0<cS s i) with
   |true=>rw [cond_true,Bool.true_or];exact decide_eq_true a7
   |false=>rw [cond_false,Bool.false_or];exact ih (i+1) a7
 rw [List.range_eq_range'];exact key (s.length - 0) 0 a7
theorem zjM (h:Good a):zaI a=some (!(List.range a.catalogue.length).any fun i=>decide (0<i0 a.catalogue a.bidders i)):=by
 unfold zaI;simp only [dF];rw [zgj h,Bool.not_false,cond_true,zji h,Option.bind_some,zh5];rw [show ((List.range a.catalogue.length).map (i0 a.catalogue a.bidders)).length=a.catalogue.length by simp];refine congrArg some (congrArg _ ?_);rw [Bool.eq_iff_iff,List.any_eq_true,List.any_eq_true];constructor
 ·rintro ⟨i,h1,h2⟩;rw [jD (List.mem_range.1 h1)] at h2;exact ⟨i,h1,h2⟩
 ·rintro ⟨i,h1,h2⟩;exact ⟨i,h1,by rw [jD (List.mem_range.1 h1)];exact h2⟩
theorem zij {fuel:Nat}(h:Good a)(hf:200≤fuel):zd0 fuel (jI a)=some (!(List.range a.catalogue.length).any fun i=>decide (0<i0 a.catalogue a.bidders i)):=by
 unfold zd0;rw [zg9 h hf,Option.bind_some];simp only [dF];rw [show ((List.range a.catalogue.length).map (i0 a.catalogue a.bidders)).length=a.catalogue.length by simp]
 have key:∀m i,i+m=a.catalogue.length→dq (fun (i_3:Nat) (next2:Unit→Option Bool) (_:Unit)=>(bif decide (0<(cS ((List.range a.catalogue.length).map (i0 a.catalogue a.bidders)) i_3)) then some false else next2 ())) (fun _=>some true) m i ()=some (!(List.range' i m).any fun i=>decide (0<i0 a.catalogue a.bidders i)):=by
  intro m
  induction m with
  |zero=>intro i _;rfl
  |succ m ih=>
   intro i e;rw [zdC,List.range'_succ,List.any_cons]; (try dsimp only);rw [jD a7]
   cases decide (0<i0 a.catalogue a.bidders i) with
   |true=>rfl
   |false=>rw [cond_false,Bool.false_or];exact ih (i+1) a7
 rw [List.range_eq_range'] at key ⊢;exact key (a.catalogue.length - 0) 0 a7
end
theorem zfM (a:List Int):jy a a=true:=by
 unfold jy;rw [decide_eq_false b8,cond_false];simp only [dF]
 rw [show a.length - 0=a.length from rfl,zfG (fun _=>true) (fun i next hi=>by
  rw [decide_eq_false b8];rfl)]
 simp
theorem zib (a:List GProduct):zdw a a=true:=by
 unfold zdw;rw [decide_eq_false b8,cond_false];simp only [dF]
 rw [show a.length - 0=a.length from rfl,zfG (fun _=>true) (fun i next hi=>by
  simp)]
 simp
theorem zf0 (a:List GBidder):zbB a a=true:=by
 unfold zbB;rw [decide_eq_false b8,cond_false];simp only [dF]
 rw [show a.length - 0=a.length from rfl,zfG (fun _=>true) (fun i next hi=>by
  rw [zfM];simp)]
 simp
theorem zja (bs:List GBidder)(id:Int):fL bs id=gQ bs id:=rfl
theorem zhW (bs:List GBidder)(id:Int):gQ bs id= -1∨0≤gQ bs id∧gQ bs id<bs.length:=by
 unfold gQ;simp only [dF]
 have key:∀m i,i+m=bs.length→(dq (fun (i_3:Nat) (next2:Unit→Int) (_:Unit)=>(bif decide ((cS bs i_3).ID=id) then (i_3:Int) else next2 ())) (fun _=>(-1)) m i ()= -1∨0≤dq (fun (i_3:Nat) (next2:Unit→Int) (_:Unit)=>(bif decide ((cS bs i_3).ID=id) then (i_3:Int) else next2 ())) (fun _=>(-1)) m i ()∧dq (fun (i_3:Nat) (next2:Unit→Int) (_:Unit)=>(bif decide ((cS bs i_3).ID=id) then (i_3:Int) else next2 ())) (fun _=>(-1)) m i ()<bs.length):=by
  intro m
  induction m with
  |zero=>intro i _;exact .inl rfl
  |succ m ih=>
   intro i e;rw [zdC]; (try dsimp only)
   cases decide ((cS bs i).ID=id) with
   |true=>rw [cond_true];exact .inr a7
   |false=>rw [cond_false];exact ih (i+1) a7
 exact key (bs.length - 0) 0 a7
theorem ziY {a:GAuction}(h:Good a)(id:Int):zaw a id=some (bif decide (gQ a.bidders id<0) then (GBidder.mk 0 0 0 [],9) else (cS a.bidders (gQ a.bidders id).toNat,0)):=by
 unfold zaw;rw [zgj h,cond_false,zja];rcases zhW a.bidders id with h1|⟨h1,h2⟩
 ·rw [h1];rfl
 ·generalize gQ a.bidders id=i at *;have hm:=h.val.m;obtain ⟨j,rfl⟩:∃j:Nat,i=j:=⟨i.toNat,by omega⟩;rw [decide_eq_false a7,cond_false,zg7 a7,fF a7,fF a7];rw [show ((j:Int)+1).toNat=j+1 by omega,show ((j:Int)).toNat=j by omega]; (have hj:j<a.bidders.length:=by omega)
  have hd:(a.bidders.take (j+1)).drop j=[cS a.bidders j]:=by
   rw [ff hj];refine List.ext_getElem (by simp;omega) fun i h1 h2=>?_; (have:i=0:=by simpa using h2);subst this;simp
  rw [hd,fF ?_,fF b8,cond_false]
  ·rfl
  ·refine ⟨by unfold df;simp,fun x hx=>?_⟩;rw [List.mem_singleton.1 hx,ff hj];exact h.rm.2 _ (List.getElem_mem hj)
theorem zjx {fuel : Nat} {a : GAuction} (h : Good a) (hf : 200 ≤ fuel) : zd6 fuel a (jI a) = some true := by
  unfold zd6;simp only [dF]; have hz := zgj h; have hn := h.val.n; unfold za6 zaN zbb zaY; rw [hz, cond_false, fF (by unfold df; omega), Option.bind_some, show (jI a).Products = a.catalogue from rfl, zib, Bool.not_true, cond_false]; rw [cond_false, fF (by rw [h.plen]; unfold df; omega), Option.bind_some, show (jI a).Posted = a.prices from rfl, zfM, Bool.not_true, cond_false]; rw [zi5 h, zhG h hf, Option.bind_some, Option.bind_some, zfM, Bool.not_true, cond_false]; rw [cond_false, fF h.rm, Option.bind_some, show (jI a).Bidders = a.bidders from rfl, zf0, Bool.not_true, cond_false]; rw [zji h, zg9 h hf, Option.bind_some, Option.bind_some, zfM, Bool.not_true, cond_false]
  -- the bidders one by one
  have key : ∀ (K : Option Bool) (m : Nat) (i : Int) (fu : Nat), i + m = 33 → -1 ≤ i → m + 1 ≤ fu → ej (fun (next10 : Int → Option Bool) (id_9 : Int) =>
          (bif decide (id_9 < 33) then
            (zaw a id_9).bind fun r58 =>
            (bif decide ((gQ a.bidders id_9) < 0) then
              (bif ((decide (¬ r58.2 = 9)) || (!(zb4 r58.1 (GBidder.mk 0 0 0 [])))) then
                some false
                else
                next10 (wI (id_9 + 1)))
              else
                (bif decide (¬ r58.2 = 0) then
                  (bif true then
                    some false
                    else
                    next10 (wI (id_9 + 1)))
                  else
                  dl (0 ≤ (gQ a.bidders id_9) ∧ (gQ a.bidders id_9) < (a.bidders.length : Int)) <|
                  (bif (!(zb4 r58.1 (cS a.bidders ((gQ a.bidders id_9).toNat)))) then
                    some false
                    else
                    next10 (wI (id_9 + 1)))))
            else
            K)) fu i = K := by
    intro K m
    induction m with
    | zero =>
      intro i fu e h1 hfu; obtain ⟨fu, rfl⟩ : ∃ q, fu = q + 1 := ⟨fu - 1, by omega⟩; rw [zcF]; (try dsimp only); rw [decide_eq_false a7, cond_false]
    | succ m ih =>
      intro i fu e h1 hfu; obtain ⟨fu, rfl⟩ : ∃ q, fu = q + 1 := ⟨fu - 1, by omega⟩; have hnext := ih (i + 1) fu a7 a7 a7; rw [zcF]; (try dsimp only); rw [decide_eq_true a7, cond_true, ziY h, Option.bind_some, zg7 a7]; unfold zb4; rcases zhW a.bidders i with h2 | ⟨h2, h3⟩
      · rw [h2, decide_eq_true (show (-1 : Int) < 0 by omega), cond_true, cond_true, zf0, decide_eq_false (show ¬ ¬ (9 : Int) = 9 by simp)]; exact hnext
      · rw [decide_eq_false a7, cond_false, cond_false, decide_eq_false (show ¬ ¬ (0 : Int) = 0 by simp), cond_false, fF ⟨h2, h3⟩, zf0]; exact hnext
  rw [cond_false];refine (key _ 34 (-1) fuel a7 a7 a7).trans ?_; rw [show (jI a).Rounds = a.rounds from rfl, decide_eq_true rfl, cond_true]; rw [zjM h, zij h hf, Option.bind_some, Option.bind_some, beq_self_eq_true, cond_true]; rw [zh2 h, zg5 h hf, Option.bind_some, Option.bind_some, decide_eq_true rfl, cond_true]; rw [zjy h, ziz h hf, Option.bind_some, Option.bind_some, decide_eq_true rfl]
end Go.Proofs.YtmnjbhkcfghebaaGreatDoor
