/- Ye Wa Wn Wb Wc: shortened and put together by squeeze.py. -/
import Derived.Test.YtogbggmckmnlfaaGreatDoorQ13
set_option maxRecDepth 100000
set_option maxHeartbeats 4000000
set_option linter.unusedVariables false
set_option linter.unusedSectionVars false
set_option linter.unusedSimpArgs false
namespace Go.Proofs.YtogbggmckmnlfaaGreatDoor
open Go.RowKit
def zb5 (x_:GProof):Bool:=
 (bif (((!(zaQ x_.Stations))||(decide ((x_.Lemmas.length:Int)<1)))||(decide (4096<(x_.Lemmas.length:Int)))) then
  false
  else
  dH (fun (_:Unit)=>
   true)
  (fun k4=>
   c6 (fun (i_6:Nat) (next5:Unit→Bool) (_:Unit)=>
    (bif ((!(zaS (cJ x_.Lemmas i_6)))||(!((decide (((cJ x_.Lemmas i_6).length:Int)=0)) == (decide ((i_6:Int)=((x_.Lemmas.length:Int) - 1)))))) then
     false
     else
     c6 (fun (k_11:Nat) (next10:Unit→Bool) (_:Unit)=>
      (bif !(ed x_.Stations ((cJ (cJ x_.Lemmas i_6) k_11).Station)) then
       false
       else
       next10 ()))
     (fun (_:Unit)=>
      next5 ()) (((cJ x_.Lemmas i_6).length) - 0) 0 ()))
   (fun (_:Unit)=>
    k4 ()) (x_.Lemmas.length - 0) 0 ()))
theorem zij (F0:Frz)(w:World)(hF0:F0.At w)(x_:GProof)(vx__0:Value)(hx__0:SlC F0 vx__0 1 (x_.Stations.map eI))(vx__1:Value)(cx__1:List (List Value))(hx__1:SlD cI F0 vx__1 1 cx__1 x_.Lemmas):Calls Tryz.prog 14 #[.agg [vx__0,vx__1].toArray] w fun e w'=>e= .returned (.bool (zb5 x_))∧Below w.heap.size w w':=by
 obtain ⟨r,hk⟩:∃r,zb5 x_=r:=⟨_,rfl⟩;rw [hk];unfold zb5 at hk;haveI:=hx__0.oneC;haveI:=hx__1.1.oneC;obtain ⟨S0,F1,rfl,hS0,hp0⟩:=ey hF0;refine dt Tryz.func14 rfl rfl rfl hp0 ?_;refine gp ?_;rintro _ _ ⟨g1,rfl,rfl⟩;refine mJ ?_;refine cZ (ι:=Unit) (fun z=>[(1, .pointer (some ⟨g1,0,none⟩)),(21, .bool (((!(zaQ x_.Stations))||(decide ((x_.Lemmas.length:Int)<1)))||(decide (4096<(x_.Lemmas.length:Int)))))]) (fun z=>[.row g1 33 [vx__0,vx__1], .fr F1]) (fun z=>True) ?_ ?_
 ·refine lj ?_;refine cU (cM rfl rfl rfl (fun w hw=>zdf _ w (hw.fr (i:=1) rfl) x_.Stations vx__0 hx__0)) ?_;refine kx ?_;refine dn rfl rfl rfl (fun h1=>?_) (fun h1=>?_)
  ·refine TL.run 11 rfl ?_;refine eW ?_;exact cS () trivial (.c (.b (ie (ie h1)).symm .nil)) (List.Sublist.refl _)
  ·refine ef ?_;refine q2F ?_;have hm13:x_.Lemmas.length≤9223372036854775807:=hx__1.2.1▸hx__1.1.max;refine eB ?_;refine dn rfl rfl rfl (fun h2=>?_) (fun h2=>?_)
   ·have p2:=of_decide_eq_true h2;refine lg ?_;exact cS () trivial (.c (.b (ie (jK h1 h2)).symm .nil)) (List.Sublist.refl _)
   ·have p2:=of_decide_eq_false h2;refine ef ?_;refine q2F ?_;refine d8 ?_;refine eW ?_;exact cS () trivial (.c (.b (f9 (jK h1 h2)) .nil)) (List.Sublist.refl _)
 ·rintro _ _;have hm13:x_.Lemmas.length≤9223372036854775807:=hx__1.2.1▸hx__1.1.max;refine T.cond rfl (fun h3=>?_) (fun h3=>?_)
  ·replace hk:=dr hk h3;refine iw ?_;subst hk;exact dW
  ·have p3:=h3; (try simp only [cX] at p3);replace hk:=dq hk h3;refine m5 ?_;have hq:=d7 hk;clear hk;obtain ⟨k4,hk4,hk⟩:=hq; (try dsimp only at hk);refine cZ (ι:=Unit) (fun z=>[]) (fun z=>[.fr F1]) (fun z=>k4 ()=r) ?_ ?_
   ·have hq:=eS hk;clear hk;obtain ⟨f5,kk5,hf5,hkk5,hk⟩:=hq;refine eA ?_;refine T.loop (ι:=Nat) (fun z=>[(1, .pointer (some ⟨g1,0,none⟩)),(3, .int .i64 (z:Int))]) (fun z=>[.row g1 33 [vx__0,vx__1], .fr F1]) (fun z=>c6 f5 kk5 (x_.Lemmas.length - z) z ()=r) (fun z=>x_.Lemmas.length - z) 0 ?_ ?_ ?_ ?_
    ·exact hk
    ·exact nE
    ·exact eh
    ·rintro i_6 hk;refine jz ?_;refine ef ?_;refine q2F ?_;refine dA ?_;refine T.cond rfl (fun h7=>?_) (fun h7=>?_)
     ·have p7:=of_decide_eq_true h7;rw [eQ a5] at hk;generalize hn5:c6 f5 kk5 (x_.Lemmas.length - (i_6+1)) (i_6+1)=next5 at hk;rw [←hf5] at hk; (try dsimp only at hk);refine fh ?_;refine i2 ?_;refine cL (c8 (i:=i_6) rfl rfl rfl hx__1.1 hx__1.2.1 rfl a5) ?_;refine cL (dj 1 (i:=i_6) (j:=0) rfl rfl rfl hx__1.1 hx__1.2.1 a5 rfl (R_List_GChoice.c0 (hx__1.2.2 i_6 a5)).1) ?_;have hd33_0:=(R_List_GChoice.c0 (hx__1.2.2 i_6 a5)).2;haveI:=hd33_0.oneC;refine mJ ?_;refine cZ (ι:=Unit) (fun z=>[(1, .pointer (some ⟨g1,0,none⟩)),(3, .int .i64 (i_6:Int)),(4,(cJ (cJ cx__1 i_6) 0)),(48, .bool ((!(zaS (cJ x_.Lemmas i_6)))||(!((decide (((cJ x_.Lemmas i_6).length:Int)=0)) == (decide ((i_6:Int)=((x_.Lemmas.length:Int) - 1)))))))]) (fun z=>[.row g1 33 [vx__0,vx__1], .fr F1]) (fun z=>True) ?_ ?_
      ·refine gM ?_;refine cU (cM rfl rfl rfl (fun w hw=>zdY _ w (hw.fr (i:=1) rfl) (cJ x_.Lemmas i_6) (cJ (cJ cx__1 i_6) 0) hd33_0)) ?_;refine kx ?_;refine dn rfl rfl rfl (fun h8=>?_) (fun h8=>?_)
       ·refine TL.run 11 rfl ?_;refine eW ?_;exact cS () trivial (.c (.c (.c (.b (ie h8).symm .nil)))) (List.Sublist.refl _)
       ·refine di ?_;refine cL (df rfl rfl hd33_0 (List.length_map _)) ?_;have hm39:(cJ x_.Lemmas i_6).length≤9223372036854775807:=(List.length_map _)▸hd33_0.max;refine d8 ?_;refine ef ?_;refine q2F ?_;refine nh ?_;refine di ?_;refine cL (Yv.cv a7 rfl rfl rfl) ?_;refine di ?_;refine eW ?_;exact cS () trivial (.c (.c (.c (.b (f9 h8) .nil)))) (List.Sublist.refl _)
      ·rintro _ _;have hm39:(cJ x_.Lemmas i_6).length≤9223372036854775807:=(List.length_map _)▸hd33_0.max;refine T.cond rfl (fun h9=>?_) (fun h9=>?_)
       ·replace hk:=dr hk h9;refine gy ?_;refine q19 ?_;subst hk;exact dW
       ·replace hk:=dq hk h9;refine iO ?_;refine dA ?_;have hq:=eS hk;clear hk;obtain ⟨f10,kk10,hf10,hkk10,hk⟩:=hq;refine eA ?_;refine T.loop (ι:=Nat) (fun z=>[(1, .pointer (some ⟨g1,0,none⟩)),(3, .int .i64 (i_6:Int)),(4,(cJ (cJ cx__1 i_6) 0)),(5, .int .i64 (z:Int))]) (fun z=>[.row g1 33 [vx__0,vx__1], .fr F1]) (fun z=>c6 f10 kk10 (((cJ x_.Lemmas i_6).length) - z) z ()=r) (fun z=>((cJ x_.Lemmas i_6).length) - z) 0 ?_ ?_ ?_ ?_
        ·exact hk
        ·exact nA
        ·exact eh
        ·rintro k_11 hk;refine iC ?_;refine cL (df rfl rfl hd33_0 (List.length_map _)) ?_;refine dA ?_;refine T.cond rfl (fun h12=>?_) (fun h12=>?_)
         ·have p12:=of_decide_eq_true h12;rw [eQ a5] at hk;generalize hn10:c6 f10 kk10 (((cJ x_.Lemmas i_6).length) - (k_11+1)) (k_11+1)=next10 at hk;rw [←hf10] at hk; (try dsimp only at hk);refine je ?_;refine dD (sN 0 7 (.eff 7 (.still 8 .done))) _ a7 (List.Sublist.refl _) ?_;refine fQ ?_;refine gV ?_;refine cQ rfl (c8 (i:=k_11) rfl rfl rfl hd33_0 (List.length_map _) rfl a5) ?_;refine cQ rfl (eE rfl rfl hd33_0 (List.length_map _) a5) ?_;refine cQ rfl (dN 1 (i:=k_11) (j:=0) rfl rfl rfl hd33_0 a5) ?_;refine dy ?_;refine cW rfl (Wt.none) rfl rfl (cM rfl rfl rfl (fun w hw=>zb7 _ w (hw.fr (i:=1) rfl) x_.Stations vx__0 hx__0 ((cJ (cJ x_.Lemmas i_6) k_11).Station))) ?_;refine iJ ?_;refine kg ?_;refine T.cond rfl (fun h13=>?_) (fun h13=>?_)
          ·replace hk:=dr hk h13;refine q2L ?_;subst hk;exact dW
          ·replace hk:=dq hk h13;refine ga ?_;rw [←hn10] at hk;exact K.next (k_11+1) hk a5 (.c (.c (.c (.c .nil)))) (List.Sublist.refl _)
         ·have p12:=of_decide_eq_false h12;rw [eO a5,←hkk10] at hk; (try dsimp only at hk);refine q2R ?_;refine di ?_;refine jH ?_;rw [←hn5] at hk;exact K.next (i_6+1) hk a5 (.c (.c .nil)) (List.Sublist.refl _)
     ·have p7:=of_decide_eq_false h7;rw [eO a5,←hkk5] at hk; (try dsimp only at hk);refine nI ?_;exact jS
   ·rintro _ hk;rw [←hk4] at hk; (try dsimp only at hk);refine jB ?_;subst hk;exact dW
def zcN (fuel:Nat)(p:GProblem)(x_:GProof):Option (Int×Int):=
 (zbw p).bind fun r10=>
 (bif ((!r10)||(!(zb5 x_))) then
  some (0,2)
  else
  (zce p x_.Stations).bind fun r21=>
  (bif decide (¬r21.2=0) then
   some (0,9)
   else
   dH (fun (_:Unit)=>
    some ((x_.Lemmas.length:Int),0))
   (fun k4=>
    c6 (fun (i_6:Nat) (next5:Unit→Option (Int×Int)) (_:Unit)=>
     (zb6 r21.1 (cJ x_.Lemmas i_6)).bind fun r39=>
     dH (fun (x_8:Bool)=>
      (bif x_8 then
       some ((i_6:Int),0)
       else
       next5 ()))
     (fun k9=>
      (bif !r39 then
       k9 true
       else
       (zcl fuel r21.1 (x_.Lemmas.take i_6) (cJ x_.Lemmas i_6)).bind fun r52=>
       k9 (!r52))))
    (fun (_:Unit)=>
     k4 ()) (x_.Lemmas.length - 0) 0 ())))
theorem zh3 (F0:Frz)(w:World)(hF0:F0.At w)(p:GProblem)(vp_0:Value)(cp_0:List (List Value))(hp_0:SlD cK F0 vp_0 2 cp_0 p.Domains)(vp_1:Value)(hp_1:SlC F0 vp_1 5 (p.Rules.Pairs.map cO))(vp_2:Value)(hp_2:SlC F0 vp_2 5 (p.Rules.Loads.map cP))(vp_3:Value)(hp_3:SlC F0 vp_3 4 (p.Rules.Caps.map cR))(x_:GProof)(vx__0:Value)(hx__0:SlC F0 vx__0 1 (x_.Stations.map eI))(vx__1:Value)(cx__1:List (List Value))(hx__1:SlD cI F0 vx__1 1 cx__1 x_.Lemmas)(fuel:Nat)(r:Int×Int)(hr:zcN fuel p x_=some r):Calls Tryz.prog 12 #[.agg [vp_0,vp_1,vp_2,vp_3].toArray, .agg [vx__0,vx__1].toArray] w fun e w'=>e= .returned (.tuple #[.int .i64 r.1, .int .i64 r.2])∧Below w.heap.size w w':=by
 have hk:=hr;unfold zcN at hk;haveI:=hp_0.1.oneC;haveI:=hp_1.oneC;haveI:=hp_2.oneC;haveI:=hp_3.oneC;haveI:=hx__0.oneC;haveI:=hx__1.1.oneC;obtain ⟨S0,F1,rfl,hS0,hp0⟩:=ey hF0;refine dt Tryz.func12 rfl rfl rfl hp0 ?_;refine gp ?_;rintro _ _ ⟨g2,rfl,rfl⟩;refine mM ?_;rintro _ _ ⟨g3,rfl,rfl⟩;refine d8 ?_;refine mo ?_;have hq:=d5 hk;clear hk;obtain ⟨r10,hr10,hk⟩:=hq; (try dsimp only at hk);refine cZ (ι:=Unit) (fun z=>[(2, .pointer (some ⟨g2,0,none⟩)),(3, .pointer (some ⟨g3,0,none⟩)),(16, .bool ((!r10)||(!(zb5 x_))))]) (fun z=>[.row g3 33 [vx__0,vx__1], .row g2 29 [vp_0,vp_1,vp_2,vp_3], .fr F1]) (fun z=>True) ?_ ?_
 ·refine my ?_;refine cU (cM rfl rfl rfl (fun w hw=>zea _ w (hw.fr (i:=2) rfl) p vp_0 cp_0 hp_0 vp_1 hp_1 vp_2 hp_2 vp_3 hp_3 r10 hr10)) ?_;refine kx ?_;refine dn rfl rfl rfl (fun h1=>?_) (fun h1=>?_)
  ·refine kA ?_;exact cS () trivial (.c (.c (.b (ie h1).symm .nil))) (List.Sublist.refl _)
  ·refine ik ?_;refine cU (cM rfl rfl rfl (fun w hw=>zij _ w (hw.fr (i:=2) rfl) x_ vx__0 hx__0 vx__1 cx__1 hx__1)) ?_;refine lc ?_;exact cS () trivial (.c (.c (.b (f9 h1) .nil))) (List.Sublist.refl _)
 ·rintro _ _;refine T.cond rfl (fun h2=>?_) (fun h2=>?_)
  ·replace hk:=dr hk h2;refine kI ?_;obtain rfl:=Option.some.inj hk;exact q40
  ·replace hk:=dq hk h2;refine jh ?_;have hq:=d5 hk;clear hk;obtain ⟨r21,hr21,hk⟩:=hq; (try dsimp only at hk);refine my ?_;refine ef ?_;refine cU (dR 2 rfl rfl rfl rfl (fun w hw hF=>zgo _ w hF p vp_0 cp_0 hp_0 vp_1 hp_1 vp_2 hp_2 vp_3 hp_3 x_.Stations vx__0 hx__0 r21 hr21)) ?_;rintro _ _ ⟨⟨v21_0_0,cs21_0_0,v21_0_1,v21_0_2,v21_0_3⟩,F2,le1_2,⟨hf21_0_0,hf21_0_1,hf21_0_2,hf21_0_3⟩,rfl,rfl⟩;dsimp only at hf21_0_0 hf21_0_1 hf21_0_2 hf21_0_3 ⊢;haveI:=hf21_0_0.1.oneC;haveI:=hf21_0_1.oneC;haveI:=hf21_0_2.oneC;haveI:=hf21_0_3.oneC;refine eB ?_;refine fX ?_;rintro _ _ ⟨g6,rfl,rfl⟩;refine j8 ?_;refine kv ?_;refine jE ?_;refine T.cond rfl (fun h3=>?_) (fun h3=>?_)
   ·have p3:=of_decide_eq_true h3;replace hk:=dr hk h3;refine kI ?_;obtain rfl:=Option.some.inj hk;exact q40
   ·have p3:=of_decide_eq_false h3;replace hk:=dq hk h3;refine m5 ?_;have hq:=d7 hk;clear hk;obtain ⟨k4,hk4,hk⟩:=hq; (try dsimp only at hk);refine cZ (ι:=Unit) (fun z=>[(3, .pointer (some ⟨g3,0,none⟩))]) (fun z=>[.row g3 33 [vx__0,vx__1], .fr F2]) (fun z=>k4 ()=some r) ?_ ?_
    ·have hq:=eS hk;clear hk;obtain ⟨f5,kk5,hf5,hkk5,hk⟩:=hq;refine eA ?_;refine T.pick [0,1,3] rfl a6 ?_;refine T.loop (ι:=Nat) (fun z=>[(3, .pointer (some ⟨g3,0,none⟩)),(6, .pointer (some ⟨g6,0,none⟩)),(8, .int .i64 (z:Int))]) (fun z=>[.row g6 29 [v21_0_0,v21_0_1,v21_0_2,v21_0_3], .row g3 33 [vx__0,vx__1], .fr F2]) (fun z=>c6 f5 kk5 (x_.Lemmas.length - z) z ()=some r) (fun z=>x_.Lemmas.length - z) 0 ?_ ?_ ?_ ?_
     ·exact hk
     ·exact l9
     ·exact eh
     ·rintro i_6 hk;refine jz ?_;refine la ?_;refine q0R ?_;have hm29:x_.Lemmas.length≤9223372036854775807:=(SlD.mono (rep:=cI) (fun _ _ _ _=>R_List_GChoice.mono) hx__1 le1_2).2.1▸(SlD.mono (rep:=cI) (fun _ _ _ _=>R_List_GChoice.mono) hx__1 le1_2).1.max;refine dA ?_;refine T.cond rfl (fun h7=>?_) (fun h7=>?_)
      ·have p7:=of_decide_eq_true h7;rw [eQ a5] at hk;generalize hn5:c6 f5 kk5 (x_.Lemmas.length - (i_6+1)) (i_6+1)=next5 at hk;rw [←hf5] at hk; (try dsimp only at hk);refine je ?_;have hq:=d5 hk;clear hk;obtain ⟨r39,hr39,hk⟩:=hq; (try dsimp only at hk);have hq:=d7 hk;clear hk;obtain ⟨k9,hk9,hk⟩:=hq; (try dsimp only at hk);refine cZ (ι:=Bool) (fun z=>[(3, .pointer (some ⟨g3,0,none⟩)),(6, .pointer (some ⟨g6,0,none⟩)),(8, .int .i64 (i_6:Int)),(54, .bool z)]) (fun z=>[.row g6 29 [v21_0_0,v21_0_1,v21_0_2,v21_0_3], .row g3 33 [vx__0,vx__1], .fr F2]) (fun z=>k9 z=some r) ?_ ?_
       ·refine dD (sN 0 6 (.eff 6 (sN 7 12 (.eff 19 (.still 20 (.still 21 .done)))))) _ a7 (List.Sublist.refl _) ?_;refine jL ?_;refine fH ?_;refine q1g ?_;have hd38_0:=(R_List_GChoice.c0 ((SlD.mono (rep:=cI) (fun _ _ _ _=>R_List_GChoice.mono) hx__1 le1_2).2.2 i_6 a5)).2;haveI:=hd38_0.oneC;refine dy ?_;refine cW rfl (Wt.none) rfl rfl (cM rfl rfl rfl (fun w hw=>zik _ w (hw.fr (i:=2) rfl) r21.1 v21_0_0 cs21_0_0 hf21_0_0 v21_0_1 hf21_0_1 v21_0_2 hf21_0_2 v21_0_3 hf21_0_3 (cJ x_.Lemmas i_6) (cJ (cJ cx__1 i_6) 0) hd38_0 r39 hr39)) ?_;refine mL ?_;refine dB rfl rfl rfl rfl (fun h10=>?_) (fun h10=>?_)
        ·replace hk:=dr hk h10;refine TS.run 10 rfl ?_;refine iX ?_;refine kR ?_;exact q5w
        ·replace hk:=dq hk h10;refine jL ?_;refine q1Y ?_;refine cQ rfl (nR (i:=i_6) rfl rfl rfl (SlD.mono (rep:=cI) (fun _ _ _ _=>R_List_GChoice.mono) hx__1 le1_2).1 (SlD.mono (rep:=cI) (fun _ _ _ _=>R_List_GChoice.mono) hx__1 le1_2).2.1 rfl a5) ?_;have hs46_:SlD cI F1.toFrz (mK vx__1 0 i_6 1) 1 (cx__1.take i_6) (x_.Lemmas.take i_6):=hx__1.sliceh (i:=i_6) a5;haveI:=hs46_.1.oneC;refine fH ?_;refine q1g ?_;refine dy ?_;have hq:=d5 hk;clear hk;obtain ⟨r52,hr52,hk⟩:=hq;refine cW rfl (Wt.some) rfl rfl (cM rfl rfl rfl (fun w hw=>zgY _ w (hw.fr (i:=2) rfl) r21.1 v21_0_0 cs21_0_0 hf21_0_0 v21_0_1 hf21_0_1 v21_0_2 hf21_0_2 v21_0_3 hf21_0_3 (x_.Lemmas.take i_6) (mK vx__1 0 i_6 1) (cx__1.take i_6) (SlD.mono (rep:=cI) (fun _ _ _ _=>R_List_GChoice.mono) hs46_ le1_2) (cJ x_.Lemmas i_6) (cJ (cJ cx__1 i_6) 0) hd38_0 fuel r52 hr52)) ?_;refine iJ ?_;refine kR ?_;exact cS (!r52) hk (.c (.c (.c (.c .nil)))) (List.Sublist.refl _)
       ·rintro x_8 hk;rw [←hk9] at hk; (try dsimp only at hk);refine T.cond rfl (fun h11=>?_) (fun h11=>?_)
        ·replace hk:=dr hk h11;refine dh ?_;refine eB ?_;refine q2p ?_;obtain rfl:=Option.some.inj hk;exact q40
        ·replace hk:=dq hk h11;refine ga ?_;rw [←hn5] at hk;exact K.next (i_6+1) hk a5 (.c (.c (.c .nil))) (List.Sublist.refl _)
      ·have p7:=of_decide_eq_false h7;rw [eO a5,←hkk5] at hk; (try dsimp only at hk);refine eC ?_;refine mV ?_;exact q5h
    ·rintro _ hk;rw [←hk4] at hk; (try dsimp only at hk);refine dh ?_;refine ef ?_;refine q0R ?_;have hm58:x_.Lemmas.length≤9223372036854775807:=(SlD.mono (rep:=cI) (fun _ _ _ _=>R_List_GChoice.mono) hx__1 le1_2).2.1▸(SlD.mono (rep:=cI) (fun _ _ _ _=>R_List_GChoice.mono) hx__1 le1_2).1.max;refine jT ?_;obtain rfl:=Option.some.inj hk;exact q40
def zcr (fuel:Nat)(p:GProblem)(x_:GProof):Option Int:=
 (zcN fuel p x_).bind fun r10=>
 (bif ((decide (r10.2=0))&&(decide (r10.1<(x_.Lemmas.length:Int)))) then
  some 10
  else
  some r10.2)
theorem zfv (F0:Frz)(w:World)(hF0:F0.At w)(p:GProblem)(vp_0:Value)(cp_0:List (List Value))(hp_0:SlD cK F0 vp_0 2 cp_0 p.Domains)(vp_1:Value)(hp_1:SlC F0 vp_1 5 (p.Rules.Pairs.map cO))(vp_2:Value)(hp_2:SlC F0 vp_2 5 (p.Rules.Loads.map cP))(vp_3:Value)(hp_3:SlC F0 vp_3 4 (p.Rules.Caps.map cR))(x_:GProof)(vx__0:Value)(hx__0:SlC F0 vx__0 1 (x_.Stations.map eI))(vx__1:Value)(cx__1:List (List Value))(hx__1:SlD cI F0 vx__1 1 cx__1 x_.Lemmas)(fuel:Nat)(r:Int)(hr:zcr fuel p x_=some r):Calls Tryz.prog 16 #[.agg [vp_0,vp_1,vp_2,vp_3].toArray, .agg [vx__0,vx__1].toArray] w fun e w'=>e= .returned (.int .i64 r)∧Below w.heap.size w w':=by
 have hk:=hr;unfold zcr at hk;haveI:=hp_0.1.oneC;haveI:=hp_1.oneC;haveI:=hp_2.oneC;haveI:=hp_3.oneC;haveI:=hx__0.oneC;haveI:=hx__1.1.oneC;obtain ⟨S0,F1,rfl,hS0,hp0⟩:=ey hF0;refine dt Tryz.func16 rfl rfl rfl hp0 ?_;refine gp ?_;rintro _ _ ⟨g2,rfl,rfl⟩;refine mM ?_;rintro _ _ ⟨g3,rfl,rfl⟩;refine j9 ?_;have hq:=d5 hk;clear hk;obtain ⟨r10,hr10,hk⟩:=hq; (try dsimp only at hk);refine my ?_;refine ik ?_;refine cU (cM rfl rfl rfl (fun w hw=>zh3 _ w (hw.fr (i:=2) rfl) p vp_0 cp_0 hp_0 vp_1 hp_1 vp_2 hp_2 vp_3 hp_3 x_ vx__0 hx__0 vx__1 cx__1 hx__1 fuel r10 hr10)) ?_;refine fD ?_;refine TL.run 5 rfl ?_;refine mo ?_;refine cZ (ι:=Unit) (fun z=>[(6, .int .i64 r10.2),(21, .bool ((decide (r10.2=0))&&(decide (r10.1<(x_.Lemmas.length:Int)))))]) (fun z=>[.row g3 33 [vx__0,vx__1], .row g2 29 [vp_0,vp_1,vp_2,vp_3], .fr F1]) (fun z=>True) ?_ ?_
 ·refine q4F ?_;refine dn rfl rfl rfl (fun h1=>?_) (fun h1=>?_)
  ·have p1:=of_decide_eq_true h1;refine di ?_;refine ef ?_;refine q2F ?_;have hm19:x_.Lemmas.length≤9223372036854775807:=hx__1.2.1▸hx__1.1.max;refine d8 ?_;refine eW ?_;exact cS () trivial (.c (.b (ku h1) .nil)) (List.Sublist.refl _)
  ·have p1:=of_decide_eq_false h1;refine TL.run 6 rfl ?_;refine eW ?_;exact cS () trivial (.c (.b (gr h1).symm .nil)) (List.Sublist.refl _)
 ·rintro _ _;have hm19:x_.Lemmas.length≤9223372036854775807:=hx__1.2.1▸hx__1.1.max;refine T.cond rfl (fun h2=>?_) (fun h2=>?_)
  ·have p2:=h2; (try simp only [cX] at p2);replace hk:=dr hk h2;refine iw ?_;obtain rfl:=Option.some.inj hk;exact dW
  ·replace hk:=dq hk h2;refine iO ?_;refine jT ?_;obtain rfl:=Option.some.inj hk;exact dW
def zba (x_:GProof)(at_:Int):Option GProof:=
 dH (fun (s3:List Int×List (List GChoice))=>
  some (GProof.mk s3.1 s3.2))
 (fun k3=>
  c6 (fun (i_7:Nat) (next6:(List Int×List (List GChoice))→Option GProof) (s6:List Int×List (List GChoice))=>
   (bif decide (¬(i_7:Int)=at_) then
    ej (dl (s6.2++[(cJ x_.Lemmas i_7)]).length 24) <|
    next6 (s6.1,(s6.2++[(cJ x_.Lemmas i_7)]))
    else
    next6 (s6.1,s6.2)))
  (fun (s6:List Int×List (List GChoice))=>
   k3 (s6.1,s6.2)) (x_.Lemmas.length - 0) 0 (x_.Stations,[]))
theorem zeF (F0:Frz)(w:World)(hF0:F0.At w)(x_:GProof)(vx__0:Value)(hx__0:SlC F0 vx__0 1 (x_.Stations.map eI))(vx__1:Value)(cx__1:List (List Value))(hx__1:SlD cI F0 vx__1 1 cx__1 x_.Lemmas)(at_:Int)(r:GProof)(hr:zba x_ at_=some r):Calls Tryz.prog 17 #[.agg [vx__0,vx__1].toArray, .int .i64 at_] w fun e w'=>∃(y:Value×Value×List (List Value)) (G:Frz),(SlC G y.1 1 (r.Stations.map eI)∧SlD cI G y.2.1 1 y.2.2 r.Lemmas)∧e= .returned (.agg [y.1,y.2.1].toArray)∧Fx F0 w G w':=by
 have hk:=hr;unfold zba at hk;haveI:=hx__0.oneC;haveI:=hx__1.1.oneC;obtain ⟨S0,F1,rfl,hS0,hp0⟩:=ey hF0;refine dt Tryz.func17 rfl rfl rfl hp0 ?_;refine gp ?_;rintro _ _ ⟨g2,rfl,rfl⟩;refine fX ?_;rintro _ _ ⟨g4,rfl,rfl⟩;refine dX ?_;refine la ?_;refine lk ?_;refine fX ?_;rintro _ _ ⟨g5,rfl,rfl⟩;refine TL.slNil 50 1 ?_;refine q2f ?_;refine TL.slNil 50 1 ?_;refine mc ?_;have hq:=d7 hk;clear hk;obtain ⟨k3,hk3,hk⟩:=hq; (try dsimp only at hk);refine cZ (ι:=List Int×Value×List (List GChoice)×Value×List (List Value)×FzB w (fun _=>False) S0) (fun z=>[(4, .pointer (some ⟨g4,0,none⟩)),(5, .pointer (some ⟨g5,0,none⟩))]) (fun z=>[.sl z.2.2.2.1 50 1 z.2.2.1.length z.2.2.2.2.1.flatten, .row g5 33 [z.2.1,z.2.2.2.1], .row g4 33 [(.slice none 0 0),(.slice none 0 0)], .fr z.2.2.2.2.2]) (fun z=>k3 (z.1,z.2.2.1)=some r∧SlC z.2.2.2.2.2.toFrz z.2.1 1 (z.1.map eI)∧OwnD cI z.2.2.2.2.2.toFrz 1 z.2.2.2.2.1 z.2.2.1∧OneC z.2.2.2.1∧F1.toFrz.Le z.2.2.2.2.2.toFrz) ?_ ?_
 ·have hq:=eS hk;clear hk;obtain ⟨f6,kk6,hf6,hkk6,hk⟩:=hq;refine eA ?_;refine T.pick [0,2,3,4,5] rfl a6 ?_;refine T.loop (ι:=Nat×List Int×Value×List (List GChoice)×Value×List (List Value)×FzB w (fun _=>False) S0) (fun z=>[(1, .int .i64 at_),(2, .pointer (some ⟨g2,0,none⟩)),(4, .pointer (some ⟨g4,0,none⟩)),(5, .pointer (some ⟨g5,0,none⟩)),(6, .int .i64 (z.1:Int))]) (fun z=>[.sl z.2.2.2.2.1 50 1 z.2.2.2.1.length z.2.2.2.2.2.1.flatten, .row g5 33 [z.2.2.1,z.2.2.2.2.1], .row g4 33 [(.slice none 0 0),(.slice none 0 0)], .row g2 33 [vx__0,vx__1], .fr z.2.2.2.2.2.2]) (fun z=>c6 f6 kk6 (x_.Lemmas.length - z.1) z.1 (z.2.1,z.2.2.2.1)=some r∧SlC z.2.2.2.2.2.2.toFrz z.2.2.1 1 (z.2.1.map eI)∧OwnD cI z.2.2.2.2.2.2.toFrz 1 z.2.2.2.2.2.1 z.2.2.2.1∧OneC z.2.2.2.2.1∧F1.toFrz.Le z.2.2.2.2.2.2.toFrz) (fun z=>x_.Lemmas.length - z.1) (0,x_.Stations,vx__0,[],(.slice none 0 0),[],F1) ?_ ?_ ?_ ?_
  ·exact ⟨hk,hx__0,(OwnD.nil _ _ 1),inferInstance,(Frz.Le.refl _)⟩
  ·exact jM
  ·exact eh
  ·rintro ⟨i_7,c_4,vc_4,c_5,vc_5,cc_5,F3⟩ ⟨hk,hc_4,hc_5,oc_5,le1_3⟩; (try dsimp only at *);haveI:=hc_4.oneC;refine jz ?_;refine q2S ?_;refine cL (df rfl rfl (SlD.mono (rep:=cI) (fun _ _ _ _=>R_List_GChoice.mono) hx__1 le1_3).1 (SlD.mono (rep:=cI) (fun _ _ _ _=>R_List_GChoice.mono) hx__1 le1_3).2.1) ?_;have hm13:x_.Lemmas.length≤9223372036854775807:=(SlD.mono (rep:=cI) (fun _ _ _ _=>R_List_GChoice.mono) hx__1 le1_3).2.1▸(SlD.mono (rep:=cI) (fun _ _ _ _=>R_List_GChoice.mono) hx__1 le1_3).1.max;refine dA ?_;refine T.cond rfl (fun h8=>?_) (fun h8=>?_)
   ·have p8:=of_decide_eq_true h8;rw [eQ a5] at hk;generalize hn6:c6 f6 kk6 (x_.Lemmas.length - (i_7+1)) (i_7+1)=next6 at hk;rw [←hf6] at hk; (try dsimp only at hk);refine fh ?_;refine eB ?_;refine db ?_;refine T.cond rfl (fun h9=>?_) (fun h9=>?_)
    ·have p9:=of_decide_eq_true h9;replace hk:=dr hk h9;have hq:(dl (c_5++[(cJ x_.Lemmas i_7)]).length 24)∧_:=fu hk;clear hk;obtain ⟨g28,hk⟩:=hq; (try dsimp only at hk);refine dD (.still 0 (.still 2 (.still 3 (.still 4 (.still 5 (.still 6 (.two 1 7 (.eff 7 (.eff 8 (.still 9 (.eff 10 .done)))) (.eff 1 (.eff 8 (.still 9 (.eff 10 .done))))))))))) [.row g4 33 [(.slice none 0 0),(.slice none 0 0)], .row g2 33 [vx__0,vx__1], .fr F3] a7 Sx ?_;refine fH ?_;refine q1Y ?_;refine cQ rfl (c8 (i:=i_7) rfl rfl rfl (SlD.mono (rep:=cI) (fun _ _ _ _=>R_List_GChoice.mono) hx__1 le1_3).1 (SlD.mono (rep:=cI) (fun _ _ _ _=>R_List_GChoice.mono) hx__1 le1_3).2.1 rfl a5) ?_;refine cQ rfl (dj 2 (i:=i_7) (j:=0) rfl rfl rfl (SlD.mono (rep:=cI) (fun _ _ _ _=>R_List_GChoice.mono) hx__1 le1_3).1 (SlD.mono (rep:=cI) (fun _ _ _ _=>R_List_GChoice.mono) hx__1 le1_3).2.1 a5 rfl (R_List_GChoice.c0 ((SlD.mono (rep:=cI) (fun _ _ _ _=>R_List_GChoice.mono) hx__1 le1_3).2.2 i_7 a5)).1) ?_;have hd26_0:=(R_List_GChoice.c0 ((SlD.mono (rep:=cI) (fun _ _ _ _=>R_List_GChoice.mono) hx__1 le1_3).2.2 i_7 a5)).2;haveI:=hd26_0.oneC;refine TS.two ?_ ?_
     ·refine fv rfl (Wt.none) rfl rfl (dc 1) (fun w hw=>hw.sub Sx) ?_;refine dy ?_;refine lH ?_;rintro _ _ ⟨g27,rfl,rfl⟩;have hl27:OwnD cI F3.toFrz 1 [[(cJ (cJ cx__1 i_7) 0)]] [(cJ x_.Lemmas i_7)]:=(c9 (OwnD.nil _ _ 1) ⟨_,rfl,hd26_0⟩);refine q1t ?_;refine q3A ?_;rintro v28 _ ⟨hv28,rfl⟩;have ho28:OwnD cI F3.toFrz 1 (cc_5++[[(cJ (cJ cx__1 i_7) 0)]]) (c_5++[(cJ x_.Lemmas i_7)]):=(c9 hc_5 ⟨_,rfl,hd26_0⟩);refine q1e ?_;rw [←hn6] at hk;refine K.pick [1,2,3,4,5] rfl a6 ?_;exact q5T
     ·refine lH ?_;rintro _ _ ⟨g27,rfl,rfl⟩;have hl27:OwnD cI F3.toFrz 1 [[(cJ (cJ cx__1 i_7) 0)]] [(cJ x_.Lemmas i_7)]:=(c9 (OwnD.nil _ _ 1) ⟨_,rfl,hd26_0⟩);refine nb ?_;refine fv rfl (Wt.none) rfl rfl (dc 2) (fun w hw=>hw.sub Sx) ?_;refine q3A ?_;rintro v28 _ ⟨hv28,rfl⟩;have ho28:OwnD cI F3.toFrz 1 (cc_5++[[(cJ (cJ cx__1 i_7) 0)]]) (c_5++[(cJ x_.Lemmas i_7)]):=(c9 hc_5 ⟨_,rfl,hd26_0⟩);refine q1e ?_;rw [←hn6] at hk;refine K.pick [1,2,3,4,5] rfl a6 ?_;exact q5T
    ·have p9:=of_decide_eq_false h9;replace hk:=dq hk h9;refine ga ?_;rw [←hn6] at hk;exact K.next ((i_7+1),c_4,vc_4,c_5,vc_5,cc_5,F3) ⟨hk,hc_4,hc_5,inferInstance,le1_3⟩ a8 (.c (.c (.c (.c (.c .nil))))) (List.Sublist.refl _)
   ·have p8:=of_decide_eq_false h8;rw [eO a5,←hkk6] at hk; (try dsimp only at hk);refine eC ?_;refine K.pick [0,1,2,4] rfl a6 ?_;exact q5U
 ·rintro ⟨c_1,vc_1,c_2,vc_2,cc_2,F2⟩ ⟨hk,hc_1,hc_2,oc_2,le1_2⟩; (try dsimp only at *);rw [←hk3] at hk; (try dsimp only at hk);haveI:=hc_1.oneC;refine dh ?_;refine cL (dO 1) ?_;refine q4f ?_;refine fW ?_;refine iQ (fun w hw=>hw.freezeS (i:=3) (j:=0) a6 rfl rfl) ?_;rintro F4 ⟨le2_4,hz4⟩;refine it ?_;have le1_4:=le1_2.trans le2_4;have hf4:=hz4.toD (OwnD.mono (rep:=cI) (fun _ _ _ _=>R_List_GChoice.mono) hc_2 le2_4) rfl;haveI:=hf4.1.oneC;obtain rfl:=Option.some.inj hk;exact kP 1 rfl rfl rfl rfl (fun w' hw=>⟨(vc_1,vc_2,cc_2),F4.toFrz,⟨(SlC.mono hc_1 le2_4),hf4⟩,rfl,eJ hw (i:=2) rfl hS0 le1_4⟩)
def zde (fuel:Nat)(p:GProblem)(x_:GProof):Option (GProof×Int):=
 (zcr fuel p x_).bind fun r11=>
 (bif decide (¬r11=0) then
  some ((GProof.mk [] []),r11)
  else
  dH (fun (s4:List Int×List (List GChoice))=>
   some ((GProof.mk s4.1 s4.2),0))
  (fun k4=>
   ej (-1≤((x_.Lemmas.length:Int) - 2)) <|
   ks (fun (i_8:Nat) (next7:(List Int×List (List GChoice))→Option (GProof×Int)) (s7:List Int×List (List GChoice))=>
    (zba (GProof.mk s7.1 s7.2) (i_8:Int)).bind fun r26=>
    (zcr fuel p r26).bind fun r29=>
    (bif decide (r29=0) then
     next7 (r26.Stations,r26.Lemmas)
     else
     next7 (s7.1,s7.2)))
   (fun (s7:List Int×List (List GChoice))=>
    k4 (s7.1,s7.2)) ((((x_.Lemmas.length:Int) - 2)+1).toNat) (x_.Stations,x_.Lemmas)))
theorem ziU (F0:Frz)(w:World)(hF0:F0.At w)(p:GProblem)(vp_0:Value)(cp_0:List (List Value))(hp_0:SlD cK F0 vp_0 2 cp_0 p.Domains)(vp_1:Value)(hp_1:SlC F0 vp_1 5 (p.Rules.Pairs.map cO))(vp_2:Value)(hp_2:SlC F0 vp_2 5 (p.Rules.Loads.map cP))(vp_3:Value)(hp_3:SlC F0 vp_3 4 (p.Rules.Caps.map cR))(x_:GProof)(vx__0:Value)(hx__0:SlC F0 vx__0 1 (x_.Stations.map eI))(vx__1:Value)(cx__1:List (List Value))(hx__1:SlD cI F0 vx__1 1 cx__1 x_.Lemmas)(fuel:Nat)(r:GProof×Int)(hr:zde fuel p x_=some r):Calls Tryz.prog 19 #[.agg [vp_0,vp_1,vp_2,vp_3].toArray, .agg [vx__0,vx__1].toArray] w fun e w'=>∃(y:Value×Value×List (List Value)) (G:Frz),(SlC G y.1 1 (r.1.Stations.map eI)∧SlD cI G y.2.1 1 y.2.2 r.1.Lemmas)∧e= .returned (.tuple #[.agg [y.1,y.2.1].toArray, .int .i64 r.2])∧Fx F0 w G w':=by
 have hk:=hr;unfold zde at hk;haveI:=hp_0.1.oneC;haveI:=hp_1.oneC;haveI:=hp_2.oneC;haveI:=hp_3.oneC;haveI:=hx__0.oneC;haveI:=hx__1.1.oneC;obtain ⟨S0,F1,rfl,hS0,hp0⟩:=ey hF0;refine dt Tryz.func19 rfl rfl rfl hp0 ?_;refine gp ?_;rintro _ _ ⟨g2,rfl,rfl⟩;refine mM ?_;rintro _ _ ⟨g3,rfl,rfl⟩;refine fX ?_;rintro _ _ ⟨g4,rfl,rfl⟩;refine mJ ?_;have hq:=d5 hk;clear hk;obtain ⟨r11,hr11,hk⟩:=hq; (try dsimp only at hk);refine q3X ?_;refine cU (cM rfl rfl rfl (fun w hw=>zfv _ w (hw.fr (i:=3) rfl) p vp_0 cp_0 hp_0 vp_1 hp_1 vp_2 hp_2 vp_3 hp_3 x_ vx__0 hx__0 vx__1 cx__1 hx__1 fuel r11 hr11)) ?_;refine fD ?_;refine gF ?_;refine jE ?_;refine T.cond rfl (fun h1=>?_) (fun h1=>?_)
 ·have p1:=of_decide_eq_true h1;replace hk:=dr hk h1;refine q4P ?_;refine di ?_;refine j8 ?_;refine di ?_;refine kh ?_;obtain rfl:=Option.some.inj hk;exact gZ 0 rfl rfl rfl rfl rfl (fun w' hw=>⟨((.slice none 0 0),(.slice none 0 0),[]),F1.toFrz,⟨(SlC.nil _ 1),(SlD.nil _ _ 1)⟩,rfl,eJ hw (i:=3) rfl hS0 (Frz.Le.refl _)⟩)
 ·have p1:=of_decide_eq_false h1;replace hk:=dq hk h1;refine lW ?_;refine la ?_;refine q2F ?_;have hm18:x_.Lemmas.length≤9223372036854775807:=hx__1.2.1▸hx__1.1.max;refine nh ?_;refine dA ?_;have hq:=d7 hk;clear hk;obtain ⟨k4,hk4,hk⟩:=hq; (try dsimp only at hk);refine cZ (ι:=List Int×Value×List (List GChoice)×Value×List (List Value)×FzB w (fun _=>False) S0) (fun z=>[(3, .pointer (some ⟨g3,0,none⟩)),(4, .pointer (some ⟨g4,0,none⟩))]) (fun z=>[.row g3 33 [z.2.1,z.2.2.2.1], .row g4 33 [(.slice none 0 0),(.slice none 0 0)], .fr z.2.2.2.2.2]) (fun z=>k4 (z.1,z.2.2.1)=some r∧SlC z.2.2.2.2.2.toFrz z.2.1 1 (z.1.map eI)∧SlD cI z.2.2.2.2.2.toFrz z.2.2.2.1 1 z.2.2.2.2.1 z.2.2.1∧F1.toFrz.Le z.2.2.2.2.2.toFrz) ?_ ?_
  ·have hq:(-1≤((x_.Lemmas.length:Int) - 2))∧_:=fu hk;clear hk;obtain ⟨gl7,hk⟩:=hq; (try dsimp only at hk);have hq:=zfN hk;clear hk;obtain ⟨f7,kk7,hf7,hkk7,hk⟩:=hq;refine eA ?_;refine T.pick [1,0,2,3] rfl a6 ?_;refine T.loop (ι:=Nat×List Int×Value×List (List GChoice)×Value×List (List Value)×FzB w (fun _=>False) S0) (fun z=>[(2, .pointer (some ⟨g2,0,none⟩)),(3, .pointer (some ⟨g3,0,none⟩)),(4, .pointer (some ⟨g4,0,none⟩)),(7, .int .i64 ((z.1:Int) - 1))]) (fun z=>[.row g3 33 [z.2.2.1,z.2.2.2.2.1], .row g4 33 [(.slice none 0 0),(.slice none 0 0)], .row g2 29 [vp_0,vp_1,vp_2,vp_3], .fr z.2.2.2.2.2.2]) (fun z=>ks f7 kk7 z.1 (z.2.1,z.2.2.2.1)=some r∧z.1≤(((x_.Lemmas.length:Int) - 2)+1).toNat∧SlC z.2.2.2.2.2.2.toFrz z.2.2.1 1 (z.2.1.map eI)∧SlD cI z.2.2.2.2.2.2.toFrz z.2.2.2.2.1 1 z.2.2.2.2.2.1 z.2.2.2.1∧F1.toFrz.Le z.2.2.2.2.2.2.toFrz) (fun z=>z.1) ((((x_.Lemmas.length:Int) - 2)+1).toNat,x_.Stations,vx__0,x_.Lemmas,vx__1,cx__1,F1) ?_ ?_ ?_ ?_
   ·exact ⟨hk,(Nat.le_refl _),hx__0,hx__1,(Frz.Le.refl _)⟩
   ·exact (.c (.c (.c (.i (a:=((x_.Lemmas.length:Int) - 2)) (by first|omega|(dsimp only;omega)) .nil))))
   ·exact eh
   ·rintro ⟨i_8,c_5,vc_5,c_6,vc_6,cc_6,F3⟩ ⟨hk,hle7,hc_5,hc_6,le1_3⟩; (try dsimp only at *);haveI:=hc_5.oneC;haveI:=hc_6.1.oneC;refine iC ?_;refine db ?_;refine T.cond rfl (fun h9=>?_) (fun h9=>?_)
    ·have p9:=of_decide_eq_true h9;obtain ⟨i_8',rfl⟩:∃q,i_8=q+1:=⟨i_8 - 1,by omega⟩;replace hk:f7 i_8' (ks f7 kk7 i_8') (c_5,c_6)=some r:=hk;generalize hn7:ks f7 kk7 i_8'=next7 at hk;rw [←hf7] at hk; (try dsimp only at hk);refine T.aN (gs:=[(2, .pointer (some ⟨g2,0,none⟩)),(3, .pointer (some ⟨g3,0,none⟩)),(4, .pointer (some ⟨g4,0,none⟩)),(7, .int .i64 (i_8':Int))]) (by repeat (first|exact Sub.nil|refine Sub.cons rfl ?_|refine ex rfl a5 ?_|refine ii rfl cD ?_)) (List.Sublist.refl _) ?_;refine je ?_;have hq:=d5 hk;clear hk;obtain ⟨r26,hr26,hk⟩:=hq; (try dsimp only at hk);refine mH ?_;refine di ?_;refine cU (dR 3 rfl rfl rfl rfl (fun w hw hF=>zeF _ w hF (GProof.mk c_5 c_6) vc_5 hc_5 vc_6 cc_6 hc_6 (i_8':Int) r26 hr26)) ?_;rintro _ _ ⟨⟨v26_0_0,v26_0_1,cs26_0_1⟩,F4,le3_4,⟨hf26_0_0,hf26_0_1⟩,rfl,rfl⟩;dsimp only at hf26_0_0 hf26_0_1 ⊢;have le1_4:=le1_3.trans le3_4;haveI:=hf26_0_0.oneC;haveI:=hf26_0_1.1.oneC;refine fX ?_;rintro _ _ ⟨g8,rfl,rfl⟩;refine kK ?_;have hq:=d5 hk;clear hk;obtain ⟨r29,hr29,hk⟩:=hq; (try dsimp only at hk);refine fP ?_;refine cL (dO 3) ?_;refine ik ?_;refine cU (cM rfl rfl rfl (fun w hw=>zfv _ w (hw.fr (i:=4) rfl) p vp_0 cp_0 (SlD.mono (rep:=cK) (fun _ _ _ _=>GDomain.mono) hp_0 le1_4) vp_1 (SlC.mono hp_1 le1_4) vp_2 (SlC.mono hp_2 le1_4) vp_3 (SlC.mono hp_3 le1_4) r26 v26_0_0 hf26_0_0 v26_0_1 cs26_0_1 hf26_0_1 fuel r29 hr29)) ?_;refine fD ?_;refine dA ?_;refine T.cond rfl (fun h10=>?_) (fun h10=>?_)
     ·have p10:=of_decide_eq_true h10;replace hk:=dr hk h10;refine mH ?_;refine q2f ?_;refine q0U ?_;refine q20 ?_;rw [←hn7] at hk;refine q3N ?_;exact K.next (i_8',r26.Stations,v26_0_0,r26.Lemmas,v26_0_1,cs26_0_1,F4) ⟨hk,a8,hf26_0_0,hf26_0_1,le1_4⟩ a8 (.c (.c (.c (.c .nil)))) (List.Sublist.refl _)
     ·have p10:=of_decide_eq_false h10;replace hk:=dq hk h10;refine q0p ?_;refine q20 ?_;rw [←hn7] at hk;refine q3N ?_;exact K.next (i_8',c_5,vc_5,c_6,vc_6,cc_6,F4) ⟨hk,a8,(SlC.mono hc_5 le3_4),(SlD.mono (rep:=cI) (fun _ _ _ _=>R_List_GChoice.mono) hc_6 le3_4),le1_4⟩ a8 (.c (.c (.c (.c .nil)))) (List.Sublist.refl _)
    ·have p9:=of_decide_eq_false h9;obtain rfl:i_8=0:=a5;replace hk:kk7 (c_5,c_6)=some r:=hk;rw [←hkk7] at hk; (try dsimp only at hk);refine eC ?_;refine K.pick [0,1,3] rfl a6 ?_;exact cS (c_5,vc_5,c_6,vc_6,cc_6,F3) ⟨hk,hc_5,hc_6,le1_3⟩ (.c (.c .nil)) (List.Sublist.refl _)
  ·rintro ⟨c_2,vc_2,c_3,vc_3,cc_3,F2⟩ ⟨hk,hc_2,hc_3,le1_2⟩; (try dsimp only at *);rw [←hk4] at hk; (try dsimp only at hk);haveI:=hc_2.oneC;haveI:=hc_3.1.oneC;refine dh ?_;refine ik ?_;refine q2f ?_;refine fw ?_;obtain rfl:=Option.some.inj hk;exact gZ 1 rfl rfl rfl rfl rfl (fun w' hw=>⟨(vc_2,vc_3,cc_3),F2.toFrz,⟨hc_2,hc_3⟩,rfl,eJ hw (i:=2) rfl hS0 le1_2⟩)
def zb3 (a:GProof)(b:GProof):Bool:=
 ((zbK a.Stations b.Stations)&&(zco a.Lemmas b.Lemmas))
theorem zex (F0:Frz)(w:World)(hF0:F0.At w)(a:GProof)(va_0:Value)(ha_0:SlC F0 va_0 1 (a.Stations.map eI))(va_1:Value)(ca_1:List (List Value))(ha_1:SlD cI F0 va_1 1 ca_1 a.Lemmas)(b:GProof)(vb_0:Value)(hb_0:SlC F0 vb_0 1 (b.Stations.map eI))(vb_1:Value)(cb_1:List (List Value))(hb_1:SlD cI F0 vb_1 1 cb_1 b.Lemmas):Calls Tryz.prog 20 #[.agg [va_0,va_1].toArray, .agg [vb_0,vb_1].toArray] w fun e w'=>e= .returned (.bool (zb3 a b))∧Below w.heap.size w w':=by
 obtain ⟨r,hk⟩:∃r,zb3 a b=r:=⟨_,rfl⟩;rw [hk];unfold zb3 at hk;haveI:=ha_0.oneC;haveI:=ha_1.1.oneC;haveI:=hb_0.oneC;haveI:=hb_1.1.oneC;obtain ⟨S0,F1,rfl,hS0,hp0⟩:=ey hF0;refine dt Tryz.func20 rfl rfl rfl hp0 ?_;refine gp ?_;rintro _ _ ⟨g2,rfl,rfl⟩;refine mM ?_;rintro _ _ ⟨g3,rfl,rfl⟩;refine j9 ?_;refine cZ (ι:=Unit) (fun z=>[(4, .bool ((zbK a.Stations b.Stations)&&(zco a.Lemmas b.Lemmas)))]) (fun z=>[.row g3 33 [vb_0,vb_1], .row g2 33 [va_0,va_1], .fr F1]) (fun z=>True) ?_ ?_
 ·refine fP ?_;refine la ?_;refine ef ?_;refine cU (cM rfl rfl rfl (fun w hw=>zgm _ w (hw.fr (i:=2) rfl) a.Stations va_0 ha_0 b.Stations vb_0 hb_0)) ?_;refine kq ?_;refine dn rfl rfl rfl (fun h1=>?_) (fun h1=>?_)
  ·refine la ?_;refine ef ?_;refine cU (cM rfl rfl rfl (fun w hw=>ziD _ w (hw.fr (i:=2) rfl) a.Lemmas va_1 ca_1 ha_1 b.Lemmas vb_1 cb_1 hb_1)) ?_;refine lc ?_;exact q41
  ·refine TL.run 7 rfl ?_;refine eW ?_;exact q42
 ·refine m9 ?_;subst hk;exact dW
def zds (fuel:Nat)(x_:GProof)(most:Int):Option Bool:=
 dH (fun (x_1:Bool)=>
  some x_1)
 (fun k2=>
  (bif decide ((x_.Stations.length:Int)≤20) then
   (zcG fuel x_.Lemmas most).bind fun r13=>
   k2 r13
   else
   k2 false))
theorem zh5 (F0:Frz)(w:World)(hF0:F0.At w)(x_:GProof)(vx__0:Value)(hx__0:SlC F0 vx__0 1 (x_.Stations.map eI))(vx__1:Value)(cx__1:List (List Value))(hx__1:SlD cI F0 vx__1 1 cx__1 x_.Lemmas)(most:Int)(fuel:Nat)(r:Bool)(hr:zds fuel x_ most=some r):Calls Tryz.prog 27 #[.agg [vx__0,vx__1].toArray, .int .i64 most] w fun e w'=>e= .returned (.bool r)∧Below w.heap.size w w':=by
 have hk:=hr;unfold zds at hk;haveI:=hx__0.oneC;haveI:=hx__1.1.oneC;obtain ⟨S0,F1,rfl,hS0,hp0⟩:=ey hF0;refine dt Tryz.func27 rfl rfl rfl hp0 ?_;refine gp ?_;rintro _ _ ⟨g2,rfl,rfl⟩;refine j9 ?_; (try dsimp only at hk);have hq:=d7 hk;clear hk;obtain ⟨k2,hk2,hk⟩:=hq; (try dsimp only at hk);refine cZ (ι:=Bool) (fun z=>[(4, .bool z)]) (fun z=>[.fr F1]) (fun z=>k2 z=some r) ?_ ?_
 ·refine lj ?_;refine cL (df rfl rfl hx__0 (List.length_map _)) ?_;have hm7:x_.Stations.length≤9223372036854775807:=(List.length_map _)▸hx__0.max;refine d8 ?_;refine dn rfl rfl rfl (fun h3=>?_) (fun h3=>?_)
  ·have p3:=of_decide_eq_true h3;replace hk:=dr hk h3;refine i2 ?_;have hq:=d5 hk;clear hk;obtain ⟨r13,hr13,hk⟩:=hq;refine cU (cM rfl rfl rfl (fun w hw=>zii _ w (hw.fr (i:=1) rfl) x_.Lemmas vx__1 cx__1 hx__1 most fuel r13 hr13)) ?_;refine lc ?_;refine K.pick [1] rfl a6 ?_;exact cS r13 hk (.c .nil) (List.Sublist.refl _)
  ·have p3:=of_decide_eq_false h3;replace hk:=dq hk h3;refine TL.run 6 rfl ?_;refine eW ?_;refine K.pick [1] rfl a6 ?_;exact q4Z
 ·rintro x_1 hk;rw [←hk2] at hk; (try dsimp only at hk);refine T.ret ?_;obtain rfl:=Option.some.inj hk;exact dW
theorem zgR (p:GProblem):okP p=gv p:=Option.some.inj ((zhB p).symm.trans zh8)
theorem zhO (p:GProblem)(st:List Int):zbO p st=some (zjT p st):=by
 unfold zbO zjT;rw [zeE,←zgR]
 cases h1:okP p
 ·rfl
 cases h2:kD st
 ·rfl
 have hD:=fC h1;have hg:=zef (fC (fY h1));have hi:=fC (fY (fY h1));have hl:=zjU hD hi;have g1:=hg.np;have g2:=hg.nl;have g3:=hg.nc;obtain ⟨s,h3,h4⟩:=of_x (l:=st) (zjl h2);obtain ⟨o,m3,m4⟩:=zl8 (p:=p) (by unfold dl;omega) (fun d hd=>zlj hD hd)
 show (zbU st).bind _=_
 rw [h3]
 show (zbA p).bind _=_
 rw [m3]
 show (bif !(zas s o) then _ else _)=_
 rw [zk6 h4 h2 m4]
 cases st.all (dU p)
 ·rfl
 refine (zoF (st:=st) a5 (fun i next s hin hr=>?_)).1.trans ?_
 ·rw [zgf,zer h4 h2,Option.bind_some];unfold gD
  cases ed st (cJ p.Domains i).Station
  ·rfl
  ·rw [cond_true,cond_true,fE (by have:=zoE (List.all_eq_true.1 hD _ (fg hin));unfold dl;omega),fE (hr _)]
 refine (zod (st:=st) (s0:=i9 (gD p st) (p.Domains.length - 0) ([],[],[],[])) (mw a5) a5 (fun i next s hin hr=>?_)).1.trans ?_
 ·rw [zgf,zgf,zer h4 h2,zer h4 h2,Option.bind_some];unfold gP
  show (bif ed st (cJ p.Rules.Pairs i).A then _ else _)=_
  cases ed st (cJ p.Rules.Pairs i).A
  ·rfl
  ·cases ed st (cJ p.Rules.Pairs i).B
   ·rfl
   ·show ej _ _=_
    rw [fE (hr _)];rfl
 refine (zoo (st:=st) (s0:=i9 (gP p st) (p.Rules.Pairs.length - 0) (i9 (gD p st) (p.Domains.length - 0) ([],[],[],[]))) (inv2 (mw a5) a5) a5 (fun i next s hin hr=>?_)).1.trans ?_
 ·rw [zgf,zgf,zer h4 h2,zer h4 h2,Option.bind_some];unfold gL
  show (bif ed st (cJ p.Rules.Loads i).To then _ else _)=_
  cases ed st (cJ p.Rules.Loads i).To
  ·rfl
  ·cases ed st (cJ p.Rules.Loads i).From
   ·rfl
   ·show ej _ _=_
    rw [fE (hr _)];rfl
 refine (zo5 (st:=st) (s0:=i9 (gL p st) (p.Rules.Loads.length - 0) (i9 (gP p st) (p.Rules.Pairs.length - 0) (i9 (gD p st) (p.Domains.length - 0) ([],[],[],[])))) (inv3 (inv2 (mw a5) a5) a5) a5 (fun i next s hin hr=>?_)).trans ?_
 ·rw [zgf,zer h4 h2,Option.bind_some];unfold gC
  cases ed st (cJ p.Rules.Caps i).Station
  ·rfl
  ·rw [cond_true,cond_true,fE (hr _)]
 rfl
def okL (x:GProof)(i:Nat):Bool:=(lE (cJ x.Lemmas i)&&((decide (((cJ x.Lemmas i).length:Int)=0)) == (decide ((i:Int)=((x.Lemmas.length:Int) - 1)))))&&(cJ x.Lemmas i).all fun c=>ed x.Stations c.Station
def kn (x:GProof):Bool:=kD x.Stations&&(!((decide ((x.Lemmas.length:Int)<1))||(decide (4096<(x.Lemmas.length:Int))))&&(List.range x.Lemmas.length).all (okL x))
theorem zh0 (x:GProof):zcs x=some (kn x):=by
 unfold zcs kn
 have e:zcg [] x.Stations=some (bif kD x.Stations then ([],0) else ([],2)):=by
  rw [zor (l:=[]) (st:=x.Stations) a9]
  cases kD x.Stations <;> rfl
 rw [e,Option.bind_some]
 cases h2:kD x.Stations
 ·rfl
 rw [cond_true]
 show (bif decide (¬(0:Int)=0) then _ else _)=_
 rw [decide_eq_false a5,cond_false]
 cases h3:(decide ((x.Lemmas.length:Int)<1))||(decide (4096<(x.Lemmas.length:Int)))
 ·obtain ⟨s,h4,h5⟩:=of_x (l:=x.Stations) (zjl h2);rw [cond_false,h4,Option.bind_some];refine ky ?_;refine (zdX (z:=some false) (fun i=>okL x i) (fun i next hi=>?_)).trans ?_
  ·have inner:c6 (fun (k:Nat) (nx:Unit→Option Bool) (_:Unit)=>(l8 s ((cJ (cJ x.Lemmas i) k).Station)).bind fun r=>bif !r then some false else nx ()) (fun (_:Unit)=>next ()) (cJ x.Lemmas i).length 0 ()=bif ((cJ x.Lemmas i).all fun c=>ed x.Stations c.Station) then next () else some false:=
    (zdX (z:=some false) (fun k=>ed x.Stations (cJ (cJ x.Lemmas i) k).Station) (fun k nx hk=>by rw [zgf,zer h5 h2,Option.bind_some];cases ed x.Stations (cJ (cJ x.Lemmas i) k).Station <;> rfl)).trans (by rw [zcz (q:=fun c:GChoice=>ed x.Stations c.Station)])
   rw [inner];unfold okL
   cases lE (cJ x.Lemmas i) <;> cases ((decide (((cJ x.Lemmas i).length:Int)=0)) == (decide ((i:Int)=((x.Lemmas.length:Int) - 1)))) <;> rfl
  ·cases (List.range x.Lemmas.length).all fun i=>okL x i <;> rfl
 ·rfl
theorem zle (x:GProof):zb5 x=kn x:=by
 unfold zb5 kn;rw [zff]
 cases h2:kD x.Stations
 ·rfl
 cases h3:decide ((x.Lemmas.length:Int)<1)
 ·cases h4:decide (4096<(x.Lemmas.length:Int))
  ·simp only [dH,Nat.sub_zero,Bool.not_true,Bool.or_self,cond_false];refine (zdX (z:=false) (fun i=>okL x i) (fun i next hi=>?_)).trans ?_
   ·have inner:c6 (fun (k:Nat) (nx:Unit→Bool) (_:Unit)=>bif !(ed x.Stations ((cJ (cJ x.Lemmas i) k).Station)) then false else nx ()) (fun (_:Unit)=>next ()) (cJ x.Lemmas i).length 0 ()=bif ((cJ x.Lemmas i).all fun c=>ed x.Stations c.Station) then next () else false:=
     (zdX (z:=false) (fun k=>ed x.Stations (cJ (cJ x.Lemmas i) k).Station) (fun k nx hk=>by cases ed x.Stations (cJ (cJ x.Lemmas i) k).Station <;> rfl)).trans (by rw [zcz (q:=fun c:GChoice=>ed x.Stations c.Station)])
    rw [inner,zf8,←zge];unfold okL
    cases lE (cJ x.Lemmas i) <;> cases ((decide (((cJ x.Lemmas i).length:Int)=0)) == (decide ((i:Int)=((x.Lemmas.length:Int) - 1)))) <;> rfl
   ·cases (List.range x.Lemmas.length).all fun i=>okL x i <;> rfl
  ·rfl
 ·rfl
structure OkM (st:List Int) (M:List (List GChoice)):Prop where
 hS:kD st=true
 n:M.length<4096
 g:∀g∈M,lE g=true∧g≠[]∧(g.all fun c=>ed st c.Station)=true
theorem nthA {M:List (List GChoice)}{i:Nat}(hi:i<M.length):cJ (M++[[]]) i=cJ M i:=by rw [dV (show i<(M++[[]]).length by simp;omega),dV hi,List.getElem_append_left hi]
theorem nthZ {M:List (List GChoice)}:cJ (M++[[]]) M.length=[]:=by rw [dV (show M.length<(M++[[]]).length by simp)];simp
theorem OkM.sub {st:List Int}{M M':List (List GChoice)}(h:OkM st M)(hs:M'.Sublist M):OkM st M':=⟨h.hS,Nat.lt_of_le_of_lt hs.length_le h.n,fun g hg=>h.g g (hs.subset hg)⟩
theorem zpu {st:List Int}{M:List (List GChoice)}(h:OkM st M):kn ⟨st,M++[[]]⟩=true:=by
 have hn:=h.n; (have hl:(M++[[]]).length=M.length+1:=by simp);unfold kn;dsimp only;rw [hl];refine kB h.hS (kB ?_ (List.all_eq_true.2 fun i hi=>?_))
 ·rw [decide_eq_false a5,decide_eq_false a5];rfl
 ·have hi:=List.mem_range.1 hi;unfold okL;dsimp only;rw [hl];rcases Nat.lt_or_ge i M.length with h1|h1
  ·obtain ⟨a,b,c⟩:=h.g _ (fg h1);have:¬((cJ M i).length:Int)=0:=fun h0=>b (List.eq_nil_of_length_eq_zero a5);rw [nthA h1,a,c,decide_eq_false this,decide_eq_false a5];rfl
  ·(obtain rfl:i=M.length:=by omega);rw [nthZ,decide_eq_true (show ((M.length:Nat):Int)=((M.length+1:Nat):Int) - 1 by omega)];rfl
theorem znG {x:GProof}(h:kn x=true):∃M,x.Lemmas=M++[[]]∧OkM x.Stations M:=by
 unfold kn at h;have h1:=fC h;have h2:=fC (fY h);have h3:=List.all_eq_true.1 (fY (fY h));rw [Bool.not_eq_true',Bool.or_eq_false_iff,decide_eq_false_iff_not,decide_eq_false_iff_not] at h2; (have hne:x.Lemmas≠[]:=fun e=>by rw [e] at h2;simp at h2);have hlast:=h3 (x.Lemmas.length - 1) (List.mem_range.2 a5)
 have hz:cJ x.Lemmas (x.Lemmas.length - 1)=[]:=by
  unfold okL at hlast;have:=fY (fC hlast);rw [decide_eq_true (show ((x.Lemmas.length - 1:Nat):Int)=(x.Lemmas.length:Int) - 1 by omega),beq_iff_eq,decide_eq_true_eq] at this;exact List.eq_nil_of_length_eq_zero a5
 have he:x.Lemmas=x.Lemmas.dropLast++[[]]:=by
  have h4:=List.dropLast_concat_getLast hne;rw [List.getLast_eq_getElem,←dV (show x.Lemmas.length - 1<x.Lemmas.length by omega),hz] at h4;exact h4.symm
 refine ⟨x.Lemmas.dropLast,he,h1,by rw [List.length_dropLast];omega,fun g hg=>?_⟩;obtain ⟨i,hi,e⟩:=iv hg;rw [List.length_dropLast] at hi;have h5:=h3 i (List.mem_range.2 a5)
 have e2:cJ x.Lemmas i=g:=by
  rw [←e];have:=nthA (M:=x.Lemmas.dropLast) (i:=i) (by rw [List.length_dropLast];omega);rw [←he] at this;exact this
 unfold okL at h5;rw [e2,decide_eq_false (show ¬(i:Int)=(x.Lemmas.length:Int) - 1 by omega)] at h5;refine ⟨fC (fC h5),fun h0=>?_,fY h5⟩;have:=fY (fC h5);rw [h0] at this;cases this
structure SubP (p:GProblem) (d:List GDomain):Prop where
 sub:SubD d p.Domains
 ord:OrdD d p.Domains
section
variable {p:GProblem}{d:List GDomain}
theorem SubP.len (h:SubP p d):d.length=p.Domains.length:=h.sub.1
theorem SubP.inc (hG:GG p)(h:SubP p d){i j:Nat}(hi:i<d.length)(hj:j<d.length)(e:(cJ d i).Station=(cJ d j).Station):i=j:=by
 (have hi':i<p.Domains.length:=by rw [←h.len];exact hi); (have hj':j<p.Domains.length:=by rw [←h.len];exact hj);rw [(h.sub.2 i hi').1,(h.sub.2 j hj').1] at e;rcases Nat.lt_trichotomy i j with h1|h1|h1
 ·have:=hG.inc i j h1 hj';omega
 ·exact h1
 ·have:=hG.inc j i h1 hi';omega
theorem SubP.inj (hG:GG p)(h:SubP p d){x y:GDomain}(hx:x∈d)(hy:y∈d)(e:x.Station=y.Station):x=y:=by
 obtain ⟨i,hi,rfl⟩:=iv hx;obtain ⟨j,hj,rfl⟩:=iv hy;rw [h.inc hG hi hj e]
theorem SubP.st (hG:GG p)(h:SubP p d){x:GDomain}(hx:x∈d):0≤x.Station∧x.Station≤511:=by
 obtain ⟨i,hi,rfl⟩:=iv hx; (have hi':i<p.Domains.length:=by rw [←h.len];exact hi);rw [(h.sub.2 i hi').1];exact hG.st _ (fg hi')
theorem SubP.ch (hG:GG p)(h:SubP p d){x:GDomain}(hx:x∈d){c:Int}(hc:c∈x.Channels):2≤c∧c≤51:=by
 obtain ⟨i,hi,rfl⟩:=iv hx; (have hi':i<p.Domains.length:=by rw [←h.len];exact hi);exact (hG.chs _ (fg hi')).2 _ ((h.sub.2 i hi').2 c hc)
theorem SubP.has (h:SubP p d){s:Int}(hs:i4 p s=true):∃x∈d,x.Station=s:=by
 obtain ⟨x,hx,rfl⟩:=gR.1 hs;obtain ⟨i,hi,rfl⟩:=iv hx;exact ⟨_,fg (by rw [h.len];exact hi),(h.sub.2 i hi).1⟩
theorem zie {s c:Int}(h:kT p s c=true):i4 p s=true:=by
 obtain ⟨x,hx,e,_⟩:=i0.1 h;exact gR.2 ⟨x,hx,e⟩
def lL (d:List GDomain)(v:Vec 512 Int):Prop:=∀x∈d,Vec.get v x.Station.toNat=bif decide (x.Channels.length=1) then cJ x.Channels 0 else 0
theorem gY {c:GChoice}:c∈iu d↔∃x∈d,x.Channels.length=1∧c=⟨x.Station,cJ x.Channels 0⟩:=by
 unfold iu;rw [List.mem_map];constructor
 ·rintro ⟨x,hx,rfl⟩;rw [List.mem_filter,decide_eq_true_eq] at hx;exact ⟨x,hx.1,hx.2,rfl⟩
 ·rintro ⟨x,hx,h1,rfl⟩;exact ⟨x,List.mem_filter.2 ⟨hx,decide_eq_true h1⟩,rfl⟩
theorem jR {α:Type}[Inhabited α]{l:List α}{i:Nat}(hi:i<l.length):l.take (i+1)=l.take i++[cJ l i]:=by
 rw [List.take_succ_eq_append_getElem hi,dV hi]
theorem zmK {m:List GDomain×Bool}(hG:GG p)(h:SubP p m.1)(h2:m.2=true):∃v,zbJ p m=some v∧lL m.1 v:=by
 (have e1:jf m=iu m.1:=by unfold jf;rw [h2];rfl)
 have hin:∀c∈iu m.1,∀c'∈iu m.1,c.Station=c'.Station→c=c':=fun c hc c' hc' e=>by
  obtain ⟨x,hx,_,rfl⟩:=gY.1 hc;obtain ⟨y,hy,_,rfl⟩:=gY.1 hc';rw [h.inj hG hx hy e]
 have hst:∀c∈iu m.1,0≤c.Station∧c.Station≤511:=fun c hc=>by
  obtain ⟨x,hx,_,rfl⟩:=gY.1 hc;exact h.st hG hx
 unfold zbJ;simp only [dH,Nat.sub_zero,e1];refine kj (fun k (v:Vec 512 Int)=>(∀c∈(iu m.1).take k,Vec.get v c.Station.toNat=c.Channel)∧∀n:Nat,n<512→(∀c∈(iu m.1).take k,c.Station≠(n:Int))→Vec.get v n=0) (fun o=>∃v:Vec 512 Int,o=some v∧lL m.1 v) ⟨fun c hc=>by simp at hc,fun n hn _=>gA hn⟩ (fun v hv=>⟨v,rfl,fun x hx=>?_⟩) (fun i v next hi hI hn=>?_)
 ·rw [List.take_of_length_le (Nat.le_refl _)] at hv;have hs:=h.st hG hx;by_cases hl:x.Channels.length=1
  ·rw [decide_eq_true hl,cond_true];exact hv.1 ⟨x.Station,cJ x.Channels 0⟩ (gY.2 ⟨x,hx,hl,rfl⟩)
  ·rw [decide_eq_false hl,cond_false];refine hv.2 _ a5 fun c hc e=>?_;obtain ⟨y,hy,h3,rfl⟩:=gY.1 hc;have:y=x:=h.inj hG hy hx (by dsimp only at e;omega);rw [this] at h3;exact hl h3
 ·have hm:=fg hi;have hs:=hst _ hm;rw [fE a5];refine hn _ ⟨fun c hc=>?_,fun n h1 hc=>?_⟩
  ·rw [fA a5];rw [jR hi,List.mem_append,List.mem_singleton] at hc;rcases hc with hc|rfl
   ·have h3:=hst c (List.mem_of_mem_take hc);by_cases e:c.Station.toNat=(cJ (iu m.1) i).Station.toNat
    ·rw [if_pos e,hin c (List.mem_of_mem_take hc) _ hm a5]
    ·rw [if_neg e];exact hI.1 c hc
   ·rw [if_pos rfl]
  ·rw [fA a5];rw [jR hi] at hc;have h3:=hc (cJ (iu m.1) i) (List.mem_append.2 (.inr (List.mem_singleton.2 rfl)));rw [if_neg a5];exact hI.2 n h1 fun c h4=>hc c (List.mem_append.2 (.inl h4))
def jp (v:Vec 512 Int)(g:List GChoice):List GChoice:=g.filter fun c=> !decide (Vec.get v c.Station.toNat=c.Channel)
def kF (m:List GDomain×Bool)(v:Vec 512 Int)(g:List GChoice):GChoice×Bool:=match jp v g with
 | []=>(bif decide (0<(g.length:Int)) then cJ g 0 else ⟨0,0⟩,true)
 | [c]=>(c,zhq m c)
 |_=>(⟨0,0⟩,false)
theorem zhz {v:Vec 512 Int}{g:List GChoice}{c:GChoice}:jp v (g++[c])=jp v g++bif decide (¬Vec.get v c.Station.toNat=c.Channel) then [c] else []:=by
 unfold jp;rw [List.filter_append];by_cases h:Vec.get v c.Station.toNat=c.Channel
 ·simp [h]
 ·simp [h]
theorem znu {m:List GDomain×Bool}{v:Vec 512 Int}{g:List GChoice}(hg:ValidL g):zcm p m v g=some (kF m v g):=by
 unfold zcm;refine ky ?_;refine kj (fun i (s:Int×Int×Int×Int×Int)=>(jp v (g.take i)=[]∧s.1=0∧s.2.2.2.1=0∧s.2.2.2.2=0)∨(jp v (g.take i)=[⟨s.2.2.2.1,s.2.2.2.2⟩]∧s.1=1)) (fun o=>o=some (kF m v g)) (.inl ⟨by simp [jp],rfl,rfl,rfl⟩) (fun s hs=>?_) (fun i s next hi hI hn=>?_)
 ·rw [List.take_of_length_le (Nat.le_refl _)] at hs;unfold kF;rcases hs with ⟨h1,h2,h3,h4⟩|⟨h1,h2⟩
  ·rw [h1]; (try dsimp only);rw [h2,h3,h4,decide_eq_true rfl,Bool.true_and,Bool.true_or]
   cases decide (0<(g.length:Int)) <;> rfl
  ·rw [h1]; (try dsimp only);rw [h2,show decide ((1:Int)=0)=false from rfl,Bool.false_and,Bool.false_or];rfl
 ·have h1:=hg.good _ (fg hi);rw [fE a5];by_cases e:Vec.get v (cJ g i).Station.toNat=(cJ g i).Channel
  ·(have e2:jp v (g.take (i+1))=jp v (g.take i):=by rw [jR hi,zhz,decide_eq_false (by simpa using e),cond_false,List.append_nil]);rw [decide_eq_false (by simpa using e),cond_false]; (try dsimp only);rw [decide_eq_false (by rcases hI with h|h <;> omega),cond_false];exact hn _ (by rw [e2];exact hI)
  ·(have e2:jp v (g.take (i+1))=jp v (g.take i)++[cJ g i]:=by rw [jR hi,zhz,decide_eq_true e,cond_true]);rw [decide_eq_true e,cond_true]; (try dsimp only);rcases hI with ⟨h2,h3,h4,h5⟩|⟨h2,h3⟩
   ·rw [h3,show wI (0+1)=1 from rfl,show decide ((1:Int)<1)=false from rfl,cond_false];exact hn _ (.inr ⟨by rw [e2,h2];rfl,rfl⟩)
   ·rw [h3,show wI (1+1)=2 from rfl,show decide ((1:Int)<2)=true from rfl,cond_true];have h6:(jp v (g.take (i+1))).Sublist (jp v g):=(List.take_sublist _ _).filter _;rw [e2,h2] at h6;have h7:=h6.length_le;unfold kF
    match h8:jp v g with
    | []=>rw [h8] at h7;simp at h7
    | [c]=>rw [h8] at h7;simp at h7
    |_ :: _ :: _=>rfl
end
def ir (d:List GDomain)(g:List GChoice)(s c:Int):Bool:=(g.any fun x=>decide (x.Station=s)&&decide (x.Channel=c))&&g.all fun x=>decide (x.Station=s)||jb d x.Station x.Channel
structure ClosedN (p:GProblem) (S:List (List GChoice)) (d:List GDomain):Prop where
 cl:ClosedD p d
 ne:∀g∈S,g≠[]
 calm:∀g∈S,∀x∈d,∀c∈x.Channels,ir d g x.Station c=false
section
variable {p:GProblem}{S:List (List GChoice)}{d e:List GDomain}{m:List GDomain×Bool}{v:Vec 512 Int}{g:List GChoice}
theorem zlI {s c:Int}(hG:GG p)(hd:SubP p d){x:GDomain}(hx:x∈d)(hs:x.Station=s)(hl:x.Channels.length=1)(h0:cJ x.Channels 0=c):jb d s c=true:=by
 rw [io];intro y hy e k hk;have:y=x:=hd.inj hG hy hx (by rw [e,hs]);subst this;obtain ⟨z,hz⟩:=List.length_eq_one_iff.1 hl;rw [hz] at hk h0;simp [cJ] at hk h0;rw [hk,h0]
theorem ziX (hG:GG p)(hd:SubP p d)(hv:lL d v)(hg:iB p g=true){c:GChoice}(hc:c∈g)(h:Vec.get v c.Station.toNat=c.Channel):∃x∈d,x.Station=c.Station∧x.Channels.length=1∧cJ x.Channels 0=c.Channel:=by
 obtain ⟨hl,hh⟩:=gz.1 hg;obtain ⟨x,hx,e⟩:=hd.has (zie (hh c hc));have h1:=hv x hx;have h2:=hl.good c hc;rw [e,h] at h1;by_cases h3:x.Channels.length=1
 ·rw [decide_eq_true h3,cond_true] at h1;exact ⟨x,hx,e,h3,h1.symm⟩
 ·rw [decide_eq_false h3,cond_false] at h1;omega
theorem zkd {c:GChoice}(hc:c∈g)(h:c∉jp v g):Vec.get v c.Station.toNat=c.Channel:=by
 refine Decidable.byContradiction fun e=>h ?_;unfold jp;rw [List.mem_filter];exact ⟨hc,by simp [e]⟩
theorem lu {c:GChoice}:zhq m c=true↔m.2=true∧∃x∈m.1,x.Station=c.Station∧c.Channel∈x.Channels:=by
 unfold zhq;simp only [Bool.and_eq_true,List.any_eq_true,decide_eq_true_eq];constructor
 ·rintro ⟨h,x,hx,h1,k,hk,rfl⟩;exact ⟨h,x,hx,h1,hk⟩
 ·rintro ⟨h,x,hx,h1,hk⟩;exact ⟨h,x,hx,h1,_,hk,rfl⟩
theorem zjt (hG:GG p)(hd:SubP p m.1)(h2:m.2=true)(hv:lL m.1 v)(hg:iB p g=true)(h0:g≠[])(h:(kF m v g).2=true):(kF m v g).1∈g∧zhq m (kF m v g).1=true∧∀x∈g,x≠(kF m v g).1→jb m.1 x.Station x.Channel=true:=by
 have hpos:0<g.length:=List.length_pos_iff.2 h0
 have only:∀x∈g,x∉jp v g→jb m.1 x.Station x.Channel=true:=fun x hx hn=>by
  obtain ⟨y,hy,h3,h4,h5⟩:=ziX hG hd hv hg hx (zkd hx hn);exact zlI hG hd hy h3 h4 h5
 unfold kF at h ⊢
 match h8:jp v g with
 | []=>
  rw [h8] at h;dsimp only at h ⊢;rw [decide_eq_true a5,cond_true];refine ⟨fg hpos,?_,fun x hx _=>only x hx (by rw [h8];simp)⟩;obtain ⟨y,hy,h3,h4,h5⟩:=ziX hG hd hv hg (fg hpos) (zkd (fg hpos) (by rw [h8];simp));obtain ⟨z,hz⟩:=List.length_eq_one_iff.1 h4;refine lu.2 ⟨h2,y,hy,h3,?_⟩;rw [←h5,hz];simp [cJ]
 | [c]=>
  rw [h8] at h;dsimp only at h ⊢; (have hc:c∈jp v g:=by rw [h8];simp);refine ⟨(List.mem_filter.1 hc).1,h,fun x hx hne=>only x hx (by rw [h8];simpa using hne)⟩
 |_ :: _ :: _=>rw [h8] at h;cases h
theorem zl7 (hG:GG p)(hd:SubP p m.1)(h2:m.2=true)(hv:lL m.1 v)(hg:iB p g=true)(h0:g≠[])(hS:g∈S)(h:(kF m v g).2=true)(he:ClosedN p S e)(hs:SubD e m.1):SubD e (m.1.map (jc (kF m v g).1.Station (kF m v g).1.Channel)):=by
 obtain ⟨h3,h4,h5⟩:=zjt hG hd h2 hv hg h0 h;generalize (kF m v g).1=c at h3 h4 h5 ⊢;obtain ⟨hl,_⟩:=gz.1 hg;refine ⟨by rw [List.length_map];exact hs.1,fun i hi=>?_⟩;rw [List.length_map] at hi;rw [i5 hi];have h6:=hs.2 i hi;refine ⟨h6.1,fun k hk=>?_⟩;unfold jc;dsimp only;rw [List.mem_filter];refine ⟨h6.2 k hk,?_⟩;rw [Bool.or_eq_true,decide_eq_true_eq,decide_eq_true_eq];by_cases e1:(cJ m.1 i).Station=c.Station
 ·refine .inr fun e2=>?_; (have hi':i<e.length:=by rw [hs.1];exact hi);have h7:=he.calm g hS _ (fg hi') k hk
  have h8:ir e g (cJ e i).Station k=true:=by
   unfold ir;rw [Bool.and_eq_true,List.any_eq_true,List.all_eq_true];refine ⟨⟨c,h3,by rw [h6.1,e1,e2];simp⟩,fun x hx=>?_⟩;by_cases e3:x=c
   ·rw [e3,h6.1,e1];simp
   ·rw [zdt hs (h5 x hx e3)];simp
  rw [h8] at h7;cases h7
 ·exact .inl e1
theorem zk4 (hG : GG p) (hB : ∀ x ∈ m.1, x.Channels.Nodup) (hd : SubP p m.1) (h2 : m.2 = true) (hc : ClosedD p m.1) (hv : lL m.1 v) (hg : iB p g = true) (h : (kF m v g).2 = false) : g ≠ [] ∧ ∀ x ∈ m.1, ∀ c ∈ x.Channels, ir m.1 g x.Station c = false := by
  obtain ⟨hl, hh⟩ := gz.1 hg; refine ⟨fun e => ?_, fun x hx c hcx => ?_⟩
  · subst e; cases h
  · cases hr : ir m.1 g x.Station c with
    | false => rfl
    | true =>
      unfold ir at hr; rw [Bool.and_eq_true, List.any_eq_true, List.all_eq_true] at hr; obtain ⟨⟨y, hy, h3⟩, h4⟩ := hr; rw [Bool.and_eq_true, decide_eq_true_eq, decide_eq_true_eq] at h3
      -- the others are made
      have ho : ∀ z ∈ jp v g, z = y := fun z hz => by
        have hzg := (List.mem_filter.1 hz); have h5 := h4 z hzg.1; rw [Bool.or_eq_true, decide_eq_true_eq] at h5; rcases h5 with h5 | h5
        · exact hl.inj hzg.1 hy (by rw [h5, h3.1])
        · exfalso; obtain ⟨u, hu, e⟩ := hd.has (zie (hh z hzg.1)); have h6 := io.1 h5 u hu e
          have h7 : u.Channels = [z.Channel] := by
            have hne := hc.ne u hu; have hnd := hB u hu
            match hq : u.Channels with
            | [] => exact absurd hq hne
            | [a] => rw [hq] at h6; rw [h6 a a9]
            | a :: b :: r =>
              rw [hq] at h6 hnd; have h8 := h6 a a9; have h9 := h6 b a9; rw [h8, h9] at hnd; simp at hnd
          have h8 := hv u hu; rw [h7] at h8; have h9 := hzg.2; rw [← e, h8] at h9; simp [cJ] at h9
      have hyo : zhq m y = true := lu.2 ⟨h2, x, hx, h3.1.symm, by rw [h3.2]; exact hcx⟩
      have hnd : (jp v g).length ≤ 1 := by
        match h8 : jp v g with
        | [] => simp
        | [_] => simp
        | a :: b :: r =>
          exfalso; have hsub : (jp v g).Sublist g := List.filter_sublist
          have hgn : g.Nodup := by
            rw [List.Nodup, List.pairwise_iff_getElem]; intro i j hi hj hij e; have := hl.inc i j hij hj; rw [dV hi, dV hj, e] at this; omega
          have := hgn.sublist hsub; rw [h8] at this ho; rw [ho a a9, ho b a9] at this; simp at this
      unfold kF at h
      match h8 : jp v g with
      | [] => rw [h8] at h; cases h
      | [a] => rw [h8] at h ho; rw [ho a a9] at h; dsimp only at h; rw [hyo] at h; cases h
      | a :: b :: r => rw [h8] at hnd; simp at hnd
end
def dK (p:GProblem)(l:List GChoice):List GDomain:=l.foldl (fun d c=>d.map (iy true c)) p.Domains
def RunN (p:GProblem)(S:List (List GChoice))(d:List GDomain)(r:Option (GProblem×(List GDomain×Bool))×Bool):Prop:=
 (∃m:List GDomain×Bool,r=(some (p,m),false)∧m.2=true∧ClosedN p S m.1∧SubP p m.1∧SubD m.1 d∧∀e,ClosedN p S e→SubD e d→SubD e m.1)∨(r=(none,true)∧∀e,ClosedN p S e→¬SubD e d)
section
variable {p:GProblem}{S:List (List GChoice)}{d e:List GDomain}{m:List GDomain×Bool}
theorem zlC {l:List GChoice}{i:Nat}(hi:i<l.length):dK p (l.take (i+1))=(dK p (l.take i)).map (iy true (cJ l i)):=by
 unfold dK;rw [jR hi,List.foldl_append];rfl
theorem zi7:∀l:List GChoice,SubP p (dK p l):=fun l=>by
 have key:∀(l:List GChoice) (d:List GDomain),SubP p d→SubP p (l.foldl (fun d c=>d.map (iy true c)) d):=by
  intro l
  induction l with
  |nil=>exact fun d h=>h
  |cons c r ih=>
   intro d h;have h2:=(zfp true c).subD (d:=d);exact ih _ ⟨h2.1.trans h.sub,h2.2.trans h.ord h.sub.1⟩
 exact key l _ ⟨.refl _,fun _ _=>List.Sublist.refl _⟩
structure MidN (p:GProblem) (S:List (List GChoice)) (d:List GDomain) (m:List GDomain×Bool):Prop where
 ok:m.2=true
 sp:SubP p m.1
 cl:ClosedD p m.1
 sd:SubD m.1 d
 all:∀e,ClosedN p S e→SubD e d→SubD e m.1
theorem MidN.prop (h:MidN p S d m):PropD p m.1 m:= .inl ⟨h.ok,h.cl,⟨.refl _,fun _ _=>List.Sublist.refl _⟩,fun _ _ h=>h⟩
theorem znT {d':List GDomain}(hd:SubP p d')(hs:SubD d' d)(hm:PropD p d' m)(hall:∀e,ClosedN p S e→SubD e d→SubD e d'):(m.2=true∧MidN p S d m)∨(m.2=false∧∀e,ClosedN p S e→¬SubD e d):=by
 rcases hm with ⟨h1,h2,h3,h4⟩|⟨h1,h2⟩
 ·exact .inl ⟨h1,h1,⟨h3.1.trans hd.sub,h3.2.trans hd.ord hd.sub.1⟩,h2,h3.1.trans hs,fun e he hh=>h4 e he.cl (hall e he hh)⟩
 ·exact .inr ⟨by rw [h1],fun e he hh=>h2 e he.cl (hall e he hh)⟩
theorem znj {fuel:Nat}(hf:100000≤fuel)(hok:gv p=true){t:GStore}(ht:t.start.1=p)(hm:PropD p p.Domains t.start.2)(hS:∀g∈t.list,iB p g=true)(l:List GChoice):∃r,zaK fuel t l=some r∧RunN p t.list (dK p l) r:=by
 obtain ⟨hw,hbd,htot,hn⟩:=zhc hok;have hG:=zlh hok;have nodup:∀ {m:List GDomain×Bool},SubP p m.1→∀x∈m.1,x.Channels.Nodup:=fun h x hx=>((hbd.ord h.sub.1 h.ord).ch x hx).2;unfold zaK;simp only [dH,Nat.sub_zero,ht];refine kj (fun i (m:List GDomain×Bool)=>PropD p (dK p (l.take i)) m) (fun o=>∃r,o=some r∧RunN p t.list (dK p l) r) (by simpa [dK] using hm) (fun m hI=>?_) (fun i m next hi hI hnx=>?_)
 ·rw [List.take_of_length_le (Nat.le_refl _)] at hI;have hst:=znT (S:=t.list) (zi7 l) (.refl _) hI (fun _ _ h=>h);refine zdS (σ:=Bool×(List GDomain×Bool)) (I:=fun s=>(s.2.2=true∧MidN p t.list (dK p l) s.2∧(s.1=false→ClosedN p t.list s.2.1))∨(s.2.2=false∧s.1=true∧∀e,ClosedN p t.list e→¬SubD e (dK p l))) (μ:=fun s=>eD s.2.1+(bif s.1 then 1 else 0)) (post:=fun o=>∃r,o=some r∧RunN p t.list (dK p l) r) ?_ ?_ ?_
  ·rcases hst with ⟨h1,h2⟩|⟨h1,h2⟩
   ·exact .inl ⟨h1,h2,fun h=>by cases h⟩
   ·exact .inr ⟨h1,rfl,h2⟩
  ·have h1:eD m.1≤30000:=by
    rcases hI with ⟨_,_,h3,_⟩|⟨h1,_⟩
    ·have hk:=zi7 (p:=p) l;have:=zd6 h3.1.1 h3.2;have:=zd6 hk.sub.1 hk.ord;omega
    ·rw [h1];simp [eD]
   dsimp only;rw [cond_true];omega
  ·rintro ⟨again,m⟩ next hJ hnx;dsimp only at hJ hnx ⊢
   cases again with
   |false=>
    rcases hJ with ⟨h1,h2,h3⟩|⟨_,h2,_⟩
    ·exact ⟨_,rfl, .inl ⟨m,rfl,h1,h3 rfl,h2.sp,h2.sd,h2.all⟩⟩
    ·cases h2
   |true=>
    rw [cond_true];rcases hJ with ⟨h1,h2,_⟩|⟨h1,_,h2⟩
    ·rw [h1,Bool.not_true,cond_false];obtain ⟨v,hv1,hv2⟩:=zmK hG h2.sp h1;rw [hv1,Option.bind_some];refine kj (fun i (s:Bool×(List GDomain×Bool)×Vec 512 Int)=>MidN p t.list (dK p l) s.2.1∧lL s.2.1.1 s.2.2∧((s.1=true∧eD s.2.1.1<eD m.1)∨(s.1=false∧s.2.1=m∧∀j,j<i→(kF s.2.1 s.2.2 (cJ t.list j)).2=false))) (fun o=>∃r,o=some r∧RunN p t.list (dK p l) r) ⟨h2,hv2, .inr ⟨rfl,rfl,fun j hj=>by omega⟩⟩ ?_ ?_
     ·rintro ⟨ch,m',v'⟩ ⟨g1,g2,g3⟩;dsimp only at g1 g2 g3 ⊢;refine hnx _ (.inl ⟨g1.ok,g1,fun e=>?_⟩) ?_
      ·dsimp only at e;rcases g3 with ⟨g3,_⟩|⟨_,g3,g4⟩
       ·rw [e] at g3;cases g3
       ·have key:∀g∈t.list,g≠[]∧∀x∈m'.1,∀c∈x.Channels,ir m'.1 g x.Station c=false:=fun g hg=>by
         obtain ⟨j,hj,rfl⟩:=iv hg;exact zk4 hG (nodup g1.sp) g1.sp g1.ok g1.cl g2 (hS _ (fg hj)) (g4 j hj)
        exact ⟨g1.cl,fun g hg=>(key g hg).1,fun g hg=>(key g hg).2⟩
      ·dsimp only;rcases g3 with ⟨g3,g4⟩|⟨g3,g4,_⟩
       ·rw [g3,cond_true];omega
       ·rw [g3,g4,cond_false,cond_true];omega
     ·rintro i ⟨ch,m',v'⟩ nx hi ⟨g1,g2,g3⟩ hk;dsimp only at g1 g2 g3 ⊢;have hg:=hS _ (fg hi);rw [znu (gz.1 hg).1,Option.bind_some]
      cases hfo:(kF m' v' (cJ t.list i)).2 with
      |false=>
       rw [Bool.not_false,cond_true];refine hk _ ⟨g1,g2,g3.imp id fun h=>⟨h.1,h.2.1,fun j hj=>?_⟩⟩;rcases Nat.lt_or_ge j i with h3|h3
       ·exact h.2.2 j h3
       ·(obtain rfl:j=i:=by omega);exact hfo
      |true=>
       rw [Bool.not_true,cond_false];by_cases h0:cJ t.list i=[]
       ·rw [h0];exact ⟨_,rfl, .inr ⟨rfl,fun e he _=>he.ne _ (fg hi) h0⟩⟩
       ·have hlen:0<(cJ t.list i).length:=List.length_pos_iff.2 h0;rw [decide_eq_false a5,cond_false];obtain ⟨q1,q2,q3⟩:=zjt hG g1.sp g1.ok g2 hg h0 hfo;have q4:=fun e he hs=>zl7 (e:=e) hG g1.sp g1.ok g2 hg h0 (fg hi) hfo he hs;generalize (kF m' v' (cJ t.list i)).1=c at q1 q2 q3 q4
        have hgc:ma c=true:=by
         have:=(gz.1 hg).1.good c q1;unfold ma;exact decide_eq_true a5
        (have eact:iy false c=jc c.Station c.Channel:=by unfold iy;rw [hgc];rfl);obtain ⟨r,q5,q6⟩:=zl6 hf hok ⟨g1.sp.sub,g1.sp.ord⟩ g1.prop false c;rw [q5,Option.bind_some];rw [eact] at q6;have hsub:=(FiltD.drop c.Station c.Channel).subD (d:=m'.1);have hsp:SubP p (m'.1.map (jc c.Station c.Channel)):=⟨hsub.1.trans g1.sp.sub,hsub.2.trans g1.sp.ord g1.sp.sub.1⟩;have hmid:=znT (S:=t.list) hsp (hsub.1.trans g1.sd) q6 (fun e he hh=>q4 e he (g1.all e he hh));dsimp only;rcases hmid with ⟨q7,q8⟩|⟨q7,q8⟩
        ·rw [q7,Bool.not_true,cond_false];obtain ⟨v2,w1,w2⟩:=zmK hG q8.sp q7;rw [w1,Option.bind_some];refine hk _ ⟨q8,w2, .inl ⟨rfl,?_⟩⟩;dsimp only;obtain ⟨_,x,hx,hx1,hx2⟩:=lu.1 q2;obtain ⟨ix,hix,rfl⟩:=iv hx;have h7:=zlQ hix hx1 hx2
         have h8:eD r.1≤eD (m'.1.map (jc c.Station c.Channel)):=by
          rcases q6 with ⟨_,_,h9,_⟩|⟨h9,_⟩
          ·exact zd6 h9.1.1 h9.2
          ·rw [h9] at q7;cases q7
         have h9:eD m'.1≤eD m.1:=by
          rcases g3 with ⟨_,h⟩|⟨_,h,_⟩
          ·omega
          ·rw [h];exact Nat.le_refl _
         omega
        ·rw [q7,Bool.not_false,cond_true];exact ⟨_,rfl, .inr ⟨rfl,q8⟩⟩
    ·rw [h1,Bool.not_false,cond_true];exact ⟨_,rfl, .inr ⟨rfl,h2⟩⟩
 ·cases h2:m.2 with
  |false=>
   rw [Bool.not_false,cond_true];refine ⟨_,rfl, .inr ⟨rfl,fun e he hs=>?_⟩⟩;rcases hI with ⟨h3,_⟩|⟨_,h4⟩
   ·rw [h2] at h3;cases h3
   ·refine h4 e he.cl (hs.trans ?_)
    have key:∀(r:List GChoice) (d:List GDomain),SubD (r.foldl (fun d c=>d.map (iy true c)) d) d:=by
     intro r
     induction r with
     |nil=>exact fun d=> .refl _
     |cons c r ih=>exact fun d=>(ih _).trans (zfp true c).subD.1
    have:=key (l.drop i) (dK p (l.take i));unfold dK at this ⊢;rw [←List.foldl_append,List.take_append_drop] at this;exact this
  |true=>
   rw [Bool.not_true,cond_false];have hk:=zi7 (p:=p) (l.take i);obtain ⟨r,g1,g2⟩:=zl6 hf hok ⟨hk.sub,hk.ord⟩ hI true (cJ l i);rw [g1,Option.bind_some];exact hnx _ (by rw [zlC hi];exact g2)
end
structure StN (p:GProblem) (t:GStore):Prop where
 pr:t.start.1=p
 st:PropD p p.Domains t.start.2
 tb:TabN p t.domains
 ok:∀g∈t.list,iB p g=true
section
variable {p:GProblem}{t:GStore}{fuel:Nat}
theorem new_x (hf:100000≤fuel)(hok:gv p=true):∃t,zdh fuel p=some (some t,0)∧StN p t∧t.list=[]:=by
 obtain ⟨hw,hbd,ht,hn⟩:=zhc hok;obtain ⟨m,g1,g2⟩:=zfb (fuel:=fuel) hw hbd a5 a5;obtain ⟨v,h1,h2⟩:=zmD (zlh hok);unfold zdh;rw [hok,cond_true,g1,Option.bind_some,h1,Option.bind_some];exact ⟨_,rfl,⟨rfl,g2,h2,fun g hg=>by cases hg⟩,rfl⟩
theorem RunN.conf {S:List (List GChoice)}{d:List GDomain}{r:Option (GProblem×(List GDomain×Bool))×Bool}(h:RunN p S d r):r.2=true↔∀e,ClosedN p S e→¬SubD e d:=by
 rcases h with ⟨m,rfl,h1,h2,h3,h4,h5⟩|⟨rfl,h⟩
 ·exact ⟨fun h=>(by cases h),fun h=>absurd h4 (h _ h2)⟩
 ·exact ⟨fun _=>h,fun _=>rfl⟩
theorem zlB (hf:100000≤fuel)(hok:gv p=true)(h:StN p t){g:List GChoice}:∃b,zaJ fuel t g=some (b,bif iB p g then 0 else 2)∧(iB p g=false→b=false)∧(iB p g=true→(b=true↔∀e,ClosedN p t.list e→¬SubD e (dK p g))):=by
 unfold zaJ zap;rw [cond_false,zkx h.tb,Option.bind_some]
 cases hg:iB p g with
 |false=>exact ⟨false,rfl,fun _=>rfl,fun h=>by cases h⟩
 |true=>
  obtain ⟨r,h1,h2⟩:=znj hf hok h.pr h.st h.ok g;rw [Bool.not_true,cond_false,h1,Option.bind_some];refine ⟨r.2,?_,fun h=>(by cases h),fun _=>h2.conf⟩
  cases r.1.isSome <;> rfl
theorem zpb (h:StN p t){g:List GChoice}(hl:t.list.length<4096)(hg:g.length≤1000):zaA t g=some (bif iB p g then (0,t.list++[g]) else (2,t.list)):=by
 unfold zaA zap;rw [cond_false,zkx h.tb,Option.bind_some]
 cases hn:iB p g with
 |false=>rfl
 |true=>
  rw [Bool.not_true,cond_false,decide_eq_false a5,cond_false,fE (by simp only [dl];omega),fE b7];rfl
theorem StN.add (h:StN p t){g:List GChoice}(hg:iB p g=true):StN p ⟨t.domains,(t.start.1,t.start.2),t.list++[g]⟩:=⟨h.pr,h.st,h.tb,fun x hx=>by
 rcases List.mem_append.1 hx with hx|hx
 ·exact h.ok x hx
 ·simp at hx;rw [hx];exact hg⟩
theorem zlv {l:List (List GChoice)}{most:Int}(hm:0≤most∧most≤1000)(hf:100000≤fuel):∃b,zcG fuel l most=some b∧(b=true→(l.length:Int)≤most∧∀g∈l,g.length≤20):=by
 unfold zcG;simp only [dH];refine zdS (σ:=Int) (I:=fun i=>0≤i∧i≤1001∧∀j:Nat,(j:Int)<i→j<l.length→(cJ l j).length≤20) (μ:=fun i=>(1001 - i).toNat) (post:=fun o=>∃b,o=some b∧(b=true→(l.length:Int)≤most∧∀g∈l,g.length≤20)) ⟨by omega,by omega,fun j h _=>by omega⟩ a5 ?_;rintro i next ⟨h1,h2,h3⟩ hn;by_cases h4:i<(l.length:Int)∧i≤most
 ·rw [decide_eq_true h4.1,decide_eq_true h4.2,Bool.and_true,cond_true,fE ⟨h1,h4.1⟩];by_cases h5:(20:Int)<((cJ l i.toNat).length:Int)
  ·rw [decide_eq_true h5,cond_true];exact ⟨false,rfl,fun h=>by cases h⟩
  ·rw [decide_eq_false h5,cond_false];refine hn _ ⟨by omega,by omega,fun j hj hl=>?_⟩ a5;by_cases h6:(j:Int)<i
   ·exact h3 j h6 hl
   ·(obtain rfl:j=i.toNat:=by omega);omega
 ·have e:(decide (i<(l.length:Int))&&decide (i≤most))=false:=by
   rw [Bool.and_eq_false_iff,decide_eq_false_iff_not,decide_eq_false_iff_not];omega
  rw [e,cond_false];refine ⟨_,rfl,fun h=>?_⟩;rw [decide_eq_true_eq] at h;refine ⟨h,fun g hg=>?_⟩;obtain ⟨j,hj,rfl⟩:=iv hg;exact h3 j a5 hj
end
section
variable {p:GProblem}{a:List GChoice}
end
theorem zk9 {a b:List GChoice}:zbM a b=decide (a=b):=by
 unfold zbM;refine ky ?_;by_cases hl:a.length=b.length
 ·rw [decide_eq_false (by simp [hl]),cond_false,zcH (fun i=>decide (cJ a i=cJ b i)) (fun i next _=>?_),Bool.and_true,Bool.eq_iff_iff,List.all_eq_true,decide_eq_true_eq]
  ·constructor
   ·intro h;exact zfc hl fun i hi=>of_decide_eq_true (h i (List.mem_range.2 hi))
   ·rintro rfl i _;simp
  ·have e:(decide ((cJ a i).Station=(cJ b i).Station)&&decide ((cJ a i).Channel=(cJ b i).Channel))=decide (cJ a i=cJ b i):=by
    rw [Bool.eq_iff_iff]
    cases cJ a i;cases cJ b i
    simp
   rw [e]
   cases decide (cJ a i=cJ b i) <;> rfl
 ·rw [decide_eq_true a5,cond_true,decide_eq_false (fun e=>hl (by rw [e]))]
theorem zm9 {a:List (List GChoice)}:zco a a=true:=by
 unfold zco;simp only [dH,Nat.sub_zero,zk9];rw [decide_eq_false a9,cond_false,zcH (fun _=>true) (fun i next _=>by simp),Bool.and_true];simp
section
variable {p:GProblem}{t:GStore}{fuel:Nat}{l S:List (List GChoice)}
theorem zoP {s:Int}(hG:GG p)(h:¬fF p s<0):0≤fF p s∧fF p s<(p.Domains.length:Int)∧(cJ p.Domains (fF p s).toNat).Station=s:=by
 revert h
 unfold fF;refine ky ?_;refine kj (fun _ _=>True) (fun r=>¬r<0→0≤r∧r<(p.Domains.length:Int)∧(cJ p.Domains r.toNat).Station=s) trivial (fun _ _ h=>by omega) (fun i _ next hi _ hn=>?_);by_cases e:(cJ p.Domains i).Station=s
 ·rw [decide_eq_true e,cond_true];exact fun _=>⟨by omega,by omega,by simpa using e⟩
 ·rw [decide_eq_false e,cond_false];exact hn () trivial
theorem zkY {g:List GChoice}(hok:gv p=true):zb6 p g=some (iB p g):=by
 have hG:=zlh hok;unfold zb6 iB;rw [zh8,Option.bind_some,hok,zf8]
 cases hv:(List.range g.length).all (mU g) with
 |false=>rfl
 |true=>
  simp only [dH,Nat.sub_zero,Bool.not_true,Bool.or_self,cond_false,Bool.true_and];refine (kj (fun i _=>(List.range i).all (fun i=>kT p (cJ g i).Station (cJ g i).Channel)=true) (fun o=>o=some ((List.range g.length).all fun i=>kT p (cJ g i).Station (cJ g i).Channel)) rfl (fun _ h=>by rw [h]) (fun i _ next hi hI hn=>?_))
  have bad:kT p (cJ g i).Station (cJ g i).Channel=false→((List.range g.length).all fun i=>kT p (cJ g i).Station (cJ g i).Channel)=false:=fun h=>by
   rw [List.all_eq_false];exact ⟨i,List.mem_range.2 hi,by rw [h];simp⟩
  by_cases hfi:fF p (cJ g i).Station<0
  ·rw [decide_eq_true hfi,cond_true];rw [cond_true,bad]
   cases hc:kT p (cJ g i).Station (cJ g i).Channel with
   |false=>rfl
   |true=>have:=zie hc;rw [lP.1 hfi] at this;cases this
  ·obtain ⟨h1,h2,h3⟩:=zoP hG hfi
   have e:ed (cJ p.Domains (fF p (cJ g i).Station).toNat).Channels (cJ g i).Channel=kT p (cJ g i).Station (cJ g i).Channel:=by
    (have hj:(fF p (cJ g i).Station).toNat<p.Domains.length:=by omega);rw [zo3,Bool.eq_iff_iff,i0,List.any_eq_true];constructor
    ·rintro ⟨k,hk,e⟩;exact ⟨_,fg hj,h3,by rw [←of_decide_eq_true e];exact hk⟩
    ·rintro ⟨x,hx,e1,e2⟩;obtain ⟨q,hq,rfl⟩:=iv hx
     have:q=(fF p (cJ g i).Station).toNat:=by
      rcases Nat.lt_trichotomy q (fF p (cJ g i).Station).toNat with h|h|h
      ·have:=hG.inc _ _ h hj;omega
      ·exact h
      ·have:=hG.inc _ _ h hq;omega
     exact ⟨_,by rw [←this];exact e2,by simp⟩
   rw [decide_eq_false hfi,cond_false,fE ⟨h1,h2⟩,e]
   cases hc:kT p (cJ g i).Station (cJ g i).Channel with
   |false=>rw [Bool.not_false,cond_true,bad hc]
   |true=>
    rw [Bool.not_true,cond_false];refine hn () ?_;rw [List.range_succ,List.all_append,hI];simp [hc]
end
def QN (p:GProblem)(S:List (List GChoice))(d:List GDomain)(r:List GDomain×Bool):Prop:=
 (r.2=true∧ClosedN p S r.1∧SubP p r.1∧SubD r.1 d∧∀e,ClosedN p S e→SubD e d→SubD e r.1)∨(r=([],false)∧∀e,ClosedN p S e→¬SubD e d)
def R21 (p:GProblem)(S:List (List GChoice))(d:List GDomain)(s c:Int):Bool:=(S.any fun g=>ir d g s c)||jj p d s c
section
variable {p:GProblem}{S S':List (List GChoice)}{d a b:List GDomain}{t:GStore}{fuel:Nat}{l:List GChoice}
theorem zoh (hok:gv p=true)(ha:SubP p a)(hb:SubP p b)(h1:SubD a b)(h2:SubD b a):a=b:=by
 obtain ⟨_,hbd,_,_⟩:=zhc hok;refine zfc h1.1 fun i hi=>?_; (have hi':i<b.length:=by rw [←h1.1];exact hi); (have hp:i<p.Domains.length:=by rw [←ha.len];exact hi);have hch:(cJ a i).Channels=(cJ b i).Channels:=zdF (ha.ord i hp) (hb.ord i hp) (hbd.ch _ (fg hp)).2 (fun x=>⟨(h1.2 i hi').2 x,(h2.2 i hi).2 x⟩);have hst:=(h1.2 i hi').1
 cases hx:cJ a i;cases hy:cJ b i
 rw [hx,hy] at hch hst;simp only at hch hst;rw [hch,hst]
theorem QN.eq {r r':List GDomain×Bool}(hok:gv p=true)(h:QN p S d r)(h':QN p S d r'):r=r':=by
 rcases h with ⟨h1,h2,h3,h4,h5⟩|⟨h1,h2⟩
 ·rcases h' with ⟨g1,g2,g3,g4,g5⟩|⟨g1,g2⟩
  ·exact Prod.ext (zoh hok h3 g3 (g5 _ h2 h4) (h5 _ g2 g4)) (h1.trans g1.symm)
  ·exact absurd h4 (g2 _ h2)
 ·rcases h' with ⟨g1,g2,g3,g4,g5⟩|⟨g1,g2⟩
  ·exact absurd g4 (h2 _ g2)
  ·rw [h1,g1]
theorem ClosedN.mono (h:ClosedN p S d)(hs:∀g∈S',g∈S):ClosedN p S' d:=⟨h.cl,fun g hg=>h.ne g (hs g hg),fun g hg=>h.calm g (hs g hg)⟩
theorem QN.congr {r:List GDomain×Bool}(h:QN p S d r)(hs:∀g,g∈S↔g∈S'):QN p S' d r:=by
 have f:∀ {e},ClosedN p S' e→ClosedN p S e:=fun he=>he.mono fun g hg=>(hs g).1 hg;rcases h with ⟨h1,h2,h3,h4,h5⟩|⟨h1,h2⟩
 ·exact .inl ⟨h1,h2.mono fun g hg=>(hs g).2 hg,h3,h4,fun e he=>h5 e (f he)⟩
 ·exact .inr ⟨h1,fun e he=>h2 e (f he)⟩
theorem byN_x {g:List GChoice}(hg:ValidL g){s c:Int}:zbL d g s c=ir d g s c:=by
 unfold zbL;simp only [dH,Nat.sub_zero,zkl];refine kj (fun i (b:Bool)=>b=((g.take i).any fun x=>decide (x.Station=s)&&decide (x.Channel=c))∧((g.take i).all fun x=>decide (x.Station=s)||jb d x.Station x.Channel)=true) (fun r=>r=ir d g s c) ⟨rfl,rfl⟩ (fun b hb=>?_) (fun i b next hi hb hn=>?_)
 ·rw [List.take_length] at hb;unfold ir;rw [hb.1,hb.2,Bool.and_true]
 ·by_cases hs:(cJ g i).Station=s
  ·rw [decide_eq_true hs,cond_true];refine hn _ ⟨?_,?_⟩
   ·have h0:((g.take i).any fun x=>decide (x.Station=s)&&decide (x.Channel=c))=false:=by
     rw [List.any_eq_false];intro x hx;obtain ⟨j,hj,rfl⟩:=List.mem_iff_getElem.1 hx;rw [List.length_take] at hj;rw [List.getElem_take];have:=hg.inc j i a5 hi;rw [dV a5] at this;simp;intro e;omega
    rw [jR hi,List.any_append,h0];simp [hs]
   ·rw [jR hi,List.all_append,hb.2];simp [hs]
  ·rw [decide_eq_false hs,cond_false]
   cases ho:jb d (cJ g i).Station (cJ g i).Channel with
   |false=>
    rw [Bool.not_false,cond_true];unfold ir
    have:(g.all fun x=>decide (x.Station=s)||jb d x.Station x.Channel)=false:=by
     rw [List.all_eq_false];exact ⟨cJ g i,fg hi,by simp [hs,ho]⟩
    rw [this,Bool.and_false]
   |true=>
    rw [Bool.not_true,cond_false];refine hn _ ⟨?_,?_⟩
    ·rw [jR hi,List.any_append,←hb.1];simp [hs]
    ·rw [jR hi,List.all_append,hb.2];simp [ho]
theorem zjW (hS:∀g∈S,iB p g=true){s c:Int}:zb0 p S d s c=R21 p S d s c:=by
 unfold zb0 R21;simp only [dH,Nat.sub_zero,zju];rw [zdZ (fun i=>ir d (cJ S i) s c) (fun i next hi=>by rw [byN_x (gz.1 (hS _ (fg hi))).1];cases ir d (cJ S i) s c <;> rfl),zdJ (q:=fun g=>ir d g s c)]
theorem R21.mono (hok:gv p=true):MonoR (R21 p S):=fun a b s c h hr=>by
 unfold R21 at hr ⊢;rw [Bool.or_eq_true,List.any_eq_true] at hr ⊢;rcases hr with ⟨g,hg,hr⟩|hr
 ·refine .inl ⟨g,hg,?_⟩;unfold ir at hr ⊢;rw [Bool.and_eq_true,List.all_eq_true] at hr ⊢;refine ⟨hr.1,fun x hx=>?_⟩;have:=hr.2 x hx;rw [Bool.or_eq_true] at this ⊢;exact this.imp id (zdt h)
 ·exact .inr (zhe (zhc hok).1 h hr)
theorem ClosedN.calmR (h:ClosedN p S d):zml (R21 p S) d:=fun x hx c hc=>by
 unfold R21;rw [Bool.or_eq_false_iff,List.any_eq_false];exact ⟨fun g hg=>by rw [h.calm g hg x hx c hc];simp,h.cl.calm x hx c hc⟩
theorem zmc (hf:100000≤fuel)(hok:gv p=true)(hS:∀g∈S,iB p g=true)(hd:SubP p d):∃r,zbZ fuel p S d=some r∧QN p S d r:=by
 obtain ⟨hw,hbd,htot,hn⟩:=zhc hok;have hb:Bd d:=hbd.ord hd.len hd.ord;have ht:=zd6 hd.len hd.ord;unfold zbZ;simp only [dH,Nat.sub_zero,zjW hS];refine zmd (R:=R21 p S) (k2:=fun d=>c6 (fun (i:Nat) (next:Unit→Option (List GDomain×Bool)) (_:Unit)=>bif decide ((((cJ d i).Channels).length:Int)=0) then some ([],false) else next ()) (fun (_:Unit)=>c6 (fun (i:Nat) (next:Unit→Option (List GDomain×Bool)) (_:Unit)=>bif decide (((cJ S i).length:Int)=0) then some ([],false) else next ()) (fun (_:Unit)=>some (d,true)) S.length 0 ()) d.length 0 ()) (fun o=>∃r,o=some r∧QN p S d r) (R21.mono hok) hb (by rw [hd.len];omega) a5 fun d' hI hA=>?_;refine kj (σ:=Unit) (I:=fun i _=>∀j,j<i→(cJ d' j).Channels≠[]) (post:=fun o=>∃r,o=some r∧QN p S d r) (fun j hj=>absurd hj (Nat.not_lt_zero j)) (fun _ hne=>?_) (fun i _ next hi h hnx=>?_)
 ·refine kj (σ:=Unit) (I:=fun i _=>∀j,j<i→cJ S j≠[]) (post:=fun o=>∃r,o=some r∧QN p S d r) (fun j hj=>absurd hj (Nat.not_lt_zero j)) (fun _ h=>?_) (fun i _ next hi h hnx=>?_)
  ·refine ⟨_,rfl, .inl ⟨rfl,⟨⟨fun x hx=>?_,fun x hx c hc=>?_⟩,fun g hg=>?_,fun g hg x hx c hc=>?_⟩,⟨hI.sub.trans hd.sub,hI.ord.trans hd.ord hd.len⟩,hI.sub,fun e he hs=>hI.sup e he.calmR hs⟩⟩
   ·obtain ⟨j,hj,rfl⟩:=iv hx;exact hne j hj
   ·have:=hA x hx c hc;unfold R21 at this;exact (Bool.or_eq_false_iff.1 this).2
   ·obtain ⟨j,hj,rfl⟩:=iv hg;exact h j hj
   ·have:=hA x hx c hc;unfold R21 at this;have:=List.any_eq_false.1 (Bool.or_eq_false_iff.1 this).1 g hg;simpa using this
  ·by_cases he:cJ S i=[]
   ·rw [he];exact ⟨_,rfl, .inr ⟨rfl,fun e hc _=>hc.ne _ (fg hi) he⟩⟩
   ·have:¬((cJ S i).length:Int)=0:=fun h0=>he (List.eq_nil_of_length_eq_zero a5);rw [decide_eq_false this,cond_false];refine hnx () (fun j hj=>?_);rcases Nat.lt_or_ge j i with h1|h1
    ·exact h j h1
    ·rw [show j=i by omega];exact he
 ·by_cases he:(cJ d' i).Channels=[]
  ·rw [he];refine ⟨_,rfl, .inr ⟨rfl,fun e hc hs=>?_⟩⟩;have h2:=hI.sup e hc.calmR hs;have h3:=(h2.2 i hi).2;rw [he] at h3;apply hc.cl.ne _ (fg (show i<e.length by rw [h2.1];exact hi))
   cases hch:(cJ e i).Channels with
   |nil=>rfl
   |cons c r=>exact absurd (h3 c (by rw [hch];simp)) a9
  ·have:¬((cJ d' i).Channels.length:Int)=0:=fun h0=>he (List.eq_nil_of_length_eq_zero a5);rw [decide_eq_false this,cond_false];refine hnx () (fun j hj=>?_);rcases Nat.lt_or_ge j i with h1|h1
   ·exact h j h1
   ·rw [show j=i by omega];exact he
theorem zmN (hf:100000≤fuel)(hok:gv p=true)(hS:∀g∈S,iB p g=true)(hl:ValidL l):∃r,zdI fuel p S l=some r∧QN p S (dK p l) r:=by
 obtain ⟨hw,hbd,htot,hn⟩:=zhc hok;unfold zdI;refine ky ?_;refine kj (σ:=List GDomain) (fun i d=>d=dK p (l.take i)) (fun o=>∃r,o=some r∧QN p S (dK p l) r) rfl (fun d hd=>?_) (fun i d next hi hd hnx=>?_)
 ·rw [List.take_length] at hd;subst hd;obtain ⟨r,h1,h2⟩:=zmc (fuel:=fuel) hf hok hS (zi7 l);exact ⟨r,by rw [h1];rfl,h2⟩
 ·subst hd;have hs:=zi7 (p:=p) (l.take i);have hb:Bd (dK p (l.take i)):=hbd.ord hs.len hs.ord;rw [zmp hb.len (fun x hx=>(hb.ch x hx).1),Option.bind_some];refine hnx _ ?_;have hg:=hl.good _ (fg hi); (have hgc:ma (cJ l i)=true:=by unfold ma;exact decide_eq_true a5);rw [zlC hi]
  congr 1
  unfold iy;rw [hgc];rfl
theorem ValidL.take (h:ValidL l)(n:Nat):ValidL (l.take n):=by
 refine ⟨fun x hx=>h.good x (List.mem_of_mem_take hx),fun i j hij hj=>?_⟩;rw [List.length_take] at hj;rw [dV b6,dV b6,List.getElem_take,List.getElem_take];have:=h.inc i j hij a5
 rwa [dV a5,dV a5] at this
end
section
variable {p:GProblem}{fuel:Nat}
theorem zje {g:List GChoice}:zb6 p g=some (gv p&&iB p g):=by
 cases hok:gv p with
 |false=>
  unfold zb6;rw [zh8,Option.bind_some,hok];rfl
 |true=>rw [zkY hok];rfl
end
def HoldN (q:GProblem)(S:List (List GChoice))(g:List GChoice):Prop:=iB q g=true∧∀e,ClosedN q S e→¬SubD e (dK q g)
def AllN (q:GProblem):List (List GChoice)→List (List GChoice)→Prop
 |_,[]=>True
 |S,g :: l=>HoldN q S g∧AllN q (S++[g]) l
open Classical in
noncomputable def dM (q:GProblem):List (List GChoice)→List (List GChoice)→Nat
 |_,[]=>0
 |S,g :: l=>if HoldN q S g then dM q (S++[g]) l+1 else 0
section
variable {q:GProblem}{fuel:Nat}{S S':List (List GChoice)}{g:List GChoice}
theorem ClosedN.less {d:List GDomain}(h:ClosedN q S d)(hs:∀g∈S',g∈S):ClosedN q S' d:=⟨h.cl,fun g hg=>h.ne g (hs g hg),fun g hg=>h.calm g (hs g hg)⟩
theorem HoldN.mono (h:HoldN q S g)(hs:∀x∈S,x∈S'):HoldN q S' g:=⟨h.1,fun e he=>h.2 e (he.less hs)⟩
theorem AllN.mono:∀ {l:List (List GChoice)} {S S':List (List GChoice)},(∀x∈S,x∈S')→AllN q S l→AllN q S' l
 | [],_,_,_,_=>trivial
 |g :: l,S,S',hs,h=>⟨h.1.mono hs,AllN.mono (fun x hx=>by
  rcases List.mem_append.1 hx with hx|hx
  ·exact List.mem_append_left _ (hs x hx)
  ·exact List.mem_append_right _ hx) h.2⟩
theorem AllN.ok:∀ {l:List (List GChoice)} {S:List (List GChoice)},AllN q S l→∀g∈l,iB q g=true
 | [],_,_,_,hg=>by cases hg
 |g :: l,S,h,x,hx=>by
  rcases List.mem_cons.1 hx with rfl|hx
  ·exact h.1.1
  ·exact AllN.ok h.2 x hx
theorem zed:∀ {A B S:List (List GChoice)},AllN q S (A++B)↔AllN q S A∧AllN q (S++A) B
 | [],B,S=>by rw [List.append_nil];exact ⟨fun h=>⟨trivial,h⟩,fun h=>h.2⟩
 |g :: A,B,S=>by
  have:=zed (A:=A) (B:=B) (S:=S++[g]);rw [List.append_assoc] at this;exact ⟨fun h=>⟨⟨h.1,(this.1 h.2).1⟩,(this.1 h.2).2⟩,fun h=>⟨h.1.1,this.2 ⟨h.1.2,h.2⟩⟩⟩
theorem zfT {l:List (List GChoice)}(h:HoldN q S g):dM q S (g :: l)=dM q (S++[g]) l+1:=if_pos h
theorem zhi {l:List (List GChoice)}(h:¬HoldN q S g):dM q S (g :: l)=0:=if_neg h
theorem zfI:∀(l S:List (List GChoice)),dM q S l≤l.length
 | [],_=>Nat.le_refl _
 |g :: l,S=>by
  by_cases h:HoldN q S g
  ·rw [zfT h,List.length_cons];exact Nat.succ_le_succ (zfI l _)
  ·rw [zhi h];exact Nat.zero_le _
theorem zc0:∀(l S:List (List GChoice)),dM q S l=l.length↔AllN q S l
 | [],_=>⟨fun _=>trivial,fun _=>rfl⟩
 |g :: l,S=>by
  by_cases h:HoldN q S g
  ·rw [zfT h,List.length_cons];exact ⟨fun e=>⟨h,(zc0 l _).1 a5⟩,fun e=>by rw [(zc0 l _).2 e.2]⟩
  ·rw [zhi h,List.length_cons];exact ⟨fun e=>by omega,fun e=>absurd e.1 h⟩
theorem zhw {l:List (List GChoice)}{i:Nat}(hi:i<l.length):l.drop i=cJ l i :: l.drop (i+1):=by
 rw [List.drop_eq_getElem_cons hi,dV hi]
theorem zgH {l:List (List GChoice)}{i:Nat}(hi:i<l.length)(h:HoldN q (S++l.take i) (cJ l i)):dM q (S++l.take i) (l.drop i)=dM q (S++l.take (i+1)) (l.drop (i+1))+1:=by
 rw [zhw hi,zfT h,List.append_assoc,←jR hi]
theorem ze7 {l:List (List GChoice)}{i:Nat}(hi:i<l.length)(h:¬HoldN q (S++l.take i) (cJ l i)):dM q (S++l.take i) (l.drop i)=0:=by
 rw [zhw hi,zhi h]
theorem zjh (hf:100000≤fuel)(hok:gv q=true){t:GStore}(h:StN q t){l:List (List GChoice)}(hn:t.list.length+l.length≤4096)(hs:∀g∈l,g.length≤1000):∃c,zbn fuel t l=some ((dM q t.list l:Int),c):=by
 unfold zbn;refine ky ?_;refine kj (σ:=List (List GChoice)) (fun i c=>(∀g∈l.take i,iB q g=true)∧(i<l.length→c=t.list++l.take i)∧dM q t.list l=i+dM q (t.list++l.take i) (l.drop i)) (fun o=>∃c,o=some ((dM q t.list l:Int),c)) ⟨fun g hg=>(by simp at hg),fun _=>a9,by simp⟩ (fun c hc=>?_) (fun i c next hi hc hnx=>?_)
 ·refine ⟨c,?_⟩;have:=hc.2.2;rw [List.drop_length] at this;have h0:dM q (t.list++l.take l.length) []=0:=rfl;rw [h0] at this;rw [this];rfl
 ·obtain ⟨h1,h2,h3⟩:=hc;have h2:=h2 hi;subst h2
  have hst:StN q ⟨t.domains,(t.start.1,t.start.2),t.list++l.take i⟩:=⟨h.pr,h.st,h.tb,fun g hg=>by
   rcases List.mem_append.1 hg with hg|hg
   ·exact h.ok g hg
   ·exact h1 g hg⟩
  (have hlt:(t.list++l.take i).length<4096:=by rw [List.length_append,List.length_take];omega);obtain ⟨b,f1,f2,f3⟩:=zlB hf hok hst (g:=cJ l i);rw [f1,Option.bind_some]
  cases hg:iB q (cJ l i) with
  |false=>
   (have hno:¬HoldN q (t.list++l.take i) (cJ l i):=fun hh=>by rw [hh.1] at hg;cases hg);rw [ze7 hi hno,Nat.add_zero] at h3;refine ⟨t.list++l.take i,?_⟩;rw [h3];rfl
  |true=>
   cases b with
   |false=>
    (have hno:¬HoldN q (t.list++l.take i) (cJ l i):=fun hh=>by have:=(f3 hg).2 hh.2;cases this);rw [ze7 hi hno,Nat.add_zero] at h3;refine ⟨t.list++l.take i,?_⟩;rw [h3];rfl
   |true=>
    have hho:HoldN q (t.list++l.take i) (cJ l i):=⟨hg,(f3 hg).1 rfl⟩;rw [zgH hi hho] at h3
    have h1':∀g∈l.take (i+1),iB q g=true:=fun g hgm=>by
     rw [jR hi] at hgm;rcases List.mem_append.1 hgm with hgm|hgm
     ·exact h1 g hgm
     ·simp at hgm;rw [hgm];exact hg
    show ∃c,(bif (decide (¬(0:Int)=0))||(!true) then _ else _)=_
    rw [decide_eq_false a5,Bool.not_true,Bool.or_self,cond_false];by_cases hl:(i:Int)<(l.length:Int) - 1
    ·rw [decide_eq_true hl,cond_true,zpb hst hlt (hs _ (fg hi)),hg,cond_true,Option.bind_some]
     show ∃c,(bif decide (¬(0:Int)=0) then _ else _)=_
     rw [decide_eq_false a5,cond_false];refine hnx _ ⟨h1',fun _=>?_,by omega⟩
     show t.list++l.take i++[cJ l i]=_
     rw [List.append_assoc,←jR hi]
    ·rw [decide_eq_false hl,cond_false,cond_false];exact hnx _ ⟨h1',fun h4=>by omega,by omega⟩
end
section
variable {p:GProblem}{x:GProof}{fuel:Nat}
theorem zil {st:List Int}(h:gv p=true):gv (gw p st)=true:=by
 rw [←zgR] at h ⊢;exact zno h
noncomputable def fV (p:GProblem) (x:GProof):Int×Int:=bif gv p&&kn x then (bif x.Stations.all (dU p) then ((dM (gw p x.Stations) [] x.Lemmas:Int),0) else (0,9)) else (0,2)
theorem zot (h:kn x=true):kD x.Stations=true:=by unfold kn at h;exact fC h
theorem znk (h:(gv p&&kn x)=false):zbk fuel p x=some (none,2):=by
 unfold zbk;simp only [dH,zh0,Option.bind_some]
 cases h1:gv p with
 |false=>rfl
 |true=>
  rw [h1,Bool.true_and] at h;rw [h];rfl
theorem zk7 (hok:gv p=true)(hx:kn x=true)(h:x.Stations.all (dU p)=false):zbk fuel p x=some (none,9):=by
 unfold zbk;simp only [dH,zh0,Option.bind_some,hok,hx,zhO,zjT,zgR,zot hx,h]
 rfl
theorem zon (hf:100000≤fuel)(hok:gv p=true)(hx:kn x=true)(h:x.Stations.all (dU p)=true):∃t,zbk fuel p x=some (some t,0)∧StN (gw p x.Stations) t∧t.list=[]:=by
 obtain ⟨t,h1,h2,h3⟩:=new_x (fuel:=fuel) hf (zil (st:=x.Stations) hok);refine ⟨t,?_,h2,h3⟩;unfold zbk;simp only [dH,zh0,Option.bind_some,hok,hx,zhO,zjT,zgR,zot hx,h,Bool.and_self,cond_true,Bool.not_true,cond_false,h1]
 rfl
theorem zjm {q:GProblem}(hf:100000≤fuel)(hok:gv q=true){S:List (List GChoice)}(hS:∀g∈S,iB q g=true){g:List GChoice}(hg:iB q g=true):∃b,zcl fuel q S g=some b∧(b=true↔HoldN q S g):=by
 obtain ⟨r,h1,h2⟩:=zmN hf hok hS (gz.1 hg).1;refine ⟨!r.2,by unfold zcl;rw [h1];rfl,?_⟩;rcases h2 with ⟨a,b,_,c,_⟩|⟨a,b⟩
 ·rw [a];exact ⟨fun h=>(by cases h),fun h=>absurd c (h.2 _ b)⟩
 ·rw [a];exact ⟨fun _=>⟨hg,b⟩,fun _=>rfl⟩
theorem ziB (hf:100000≤fuel):zcN fuel p x=some (fV p x):=by
 unfold zcN fV;rw [zh8,Option.bind_some,zle]
 cases hok:gv p with
 |false=>rfl
 |true=>
  cases hx:kn x with
  |false=>rfl
  |true=>
   rw [Bool.not_true,Bool.or_self,cond_false,zig,Option.bind_some];unfold zjT;rw [zgR,hok,zot hx]
   cases ha:x.Stations.all (dU p) with
   |false=>rfl
   |true=>
    have hq:=zil (st:=x.Stations) hok;have hsc:(bif true&&true then bif true then (gw p x.Stations,(0:Int)) else ((⟨[],⟨[],[],[]⟩⟩:GProblem),9) else (⟨[],⟨[],[],[]⟩⟩,2))=(gw p x.Stations,0):=rfl;rw [hsc]
    show (bif decide (¬(0:Int)=0) then _ else _)=some ((dM (gw p x.Stations) [] x.Lemmas:Int),0)
    rw [decide_eq_false a5,cond_false];refine ky ?_;refine kj (σ:=Unit) (fun i _=>(∀g∈x.Lemmas.take i,iB (gw p x.Stations) g=true)∧dM (gw p x.Stations) [] x.Lemmas=i+dM (gw p x.Stations) (x.Lemmas.take i) (x.Lemmas.drop i)) (fun o=>o=some ((dM (gw p x.Stations) [] x.Lemmas:Int),0)) ⟨fun g hg=>(by simp at hg),by simp⟩ (fun _ hc=>?_) (fun i _ next hi hc hnx=>?_)
    ·have:=hc.2;rw [List.drop_length] at this;have h0:dM (gw p x.Stations) (x.Lemmas.take x.Lemmas.length) []=0:=rfl;rw [h0] at this;rw [this];rfl
    ·obtain ⟨h1,h2⟩:=hc;rw [zje,Option.bind_some,hq,Bool.true_and]
     have stop:¬HoldN (gw p x.Stations) (x.Lemmas.take i) (cJ x.Lemmas i)→dM (gw p x.Stations) [] x.Lemmas=i:=fun hno=>by
      have:=ze7 (S:=[]) hi (by rw [List.nil_append];exact hno);rw [List.nil_append] at this;omega
     cases hg:iB (gw p x.Stations) (cJ x.Lemmas i) with
     |false=>
      rw [stop fun hh=>by rw [hh.1] at hg;cases hg];rfl
     |true=>
      obtain ⟨b,h3,h4⟩:=zjm hf hq h1 hg;rw [Bool.not_true,cond_false,h3,Option.bind_some]
      cases b with
      |false=>
       rw [stop fun hh=>by have:=h4.2 hh;cases this];rfl
      |true=>
       have hh:=h4.1 rfl;have:=zgH (S:=[]) hi (by rw [List.nil_append];exact hh);rw [List.nil_append,List.nil_append] at this;rw [Bool.not_true,cond_false];refine hnx () ⟨fun g hgm=>?_,by omega⟩;rw [jR hi] at hgm;rcases List.mem_append.1 hgm with hgm|hgm
       ·exact h1 g hgm
       ·simp at hgm;rw [hgm];exact hg
noncomputable def eR (p:GProblem) (x:GProof):Int:=bif ((decide ((fV p x).2=0))&&(decide ((fV p x).1<(x.Lemmas.length:Int)))) then 10 else (fV p x).2
theorem zgb (hf:100000≤fuel):zcr fuel p x=some (eR p x):=by
 unfold zcr eR;rw [ziB hf,Option.bind_some]
 cases ((decide ((fV p x).2=0))&&(decide ((fV p x).1<(x.Lemmas.length:Int)))) <;> rfl
theorem iL:eR p x=0↔gv p=true∧kn x=true∧x.Stations.all (dU p)=true∧AllN (gw p x.Stations) [] x.Lemmas:=by
 unfold eR fV
 cases gv p with
 |false=>exact ⟨fun h=>(by cases h),fun h=>(by cases h.1)⟩
 |true=>
  cases kn x with
  |false=>exact ⟨fun h=>(by cases h),fun h=>(by cases h.2.1)⟩
  |true=>
   cases x.Stations.all (dU p) with
   |false=>exact ⟨fun h=>(by cases h),fun h=>(by cases h.2.2.1)⟩
   |true=>
    simp only [Bool.and_self,cond_true,decide_true,Bool.true_and,true_and,←zc0];have:=zfI (q:=gw p x.Stations) x.Lemmas [];by_cases h:(dM (gw p x.Stations) [] x.Lemmas:Int)<(x.Lemmas.length:Int)
    ·rw [decide_eq_true h,cond_true];exact ⟨fun h=>a5,fun h=>a5⟩
    ·rw [decide_eq_false h,cond_false];exact ⟨fun _=>a5,fun _=>rfl⟩
noncomputable def gK (q:GProblem):List (List GChoice)→List (List GChoice)→List (List GChoice)
 | [],B=>B
 |g :: R,B=>if dM q R.reverse B=B.length then gK q R B else gK q R (g :: B)
noncomputable def l7 (p:GProblem) (x:GProof):GProof×Int:=if eR p x=0 then (⟨x.Stations,gK (gw p x.Stations) x.Lemmas.dropLast.reverse [[]]⟩,0) else (⟨[],[]⟩,eR p x)
theorem zj7 (hn:x.Lemmas.length≤4096):zba x (-1)=some x:=by
 unfold zba;refine ky ?_;refine kj (σ:=List Int×List (List GChoice)) (fun i s=>s=(x.Stations,x.Lemmas.take i)) (fun o=>o=some x) rfl (fun s hs=>?_) (fun i s next hi hs hnx=>?_)
 ·rw [hs,List.take_length]
 ·subst hs;rw [decide_eq_true a5,cond_true,←jR hi];rw [fE (by simp only [dl,List.length_take];omega)];exact hnx _ rfl
theorem zk0 (hn:x.Lemmas.length≤4096)(j:Nat):zba x (j:Int)=some ⟨x.Stations,x.Lemmas.take j++x.Lemmas.drop (j+1)⟩:=by
 unfold zba;refine ky ?_;refine kj (σ:=List Int×List (List GChoice)) (fun i s=>s=(x.Stations,x.Lemmas.take (min i j)++(x.Lemmas.take i).drop (j+1))) (fun o=>o=some (⟨x.Stations,x.Lemmas.take j++x.Lemmas.drop (j+1)⟩:GProof)) a9 (fun s hs=>?_) (fun i s next hi hs hnx=>?_)
 ·rw [hs]
  have:x.Lemmas.take (min x.Lemmas.length j)=x.Lemmas.take j:=by
   rcases Nat.le_total x.Lemmas.length j with h|h
   ·rw [Nat.min_eq_left h,List.take_length,List.take_of_length_le h]
   ·rw [Nat.min_eq_right h]
  rw [this,List.take_length]
 ·subst hs;have dz:∀ {l:List (List GChoice)} {n:Nat},l.length≤n→l.drop n=[]:=fun h=>List.drop_of_length_le h;rcases Nat.lt_trichotomy i j with h|h|h
  ·rw [decide_eq_true a5,cond_true];have e1:(x.Lemmas.take i).drop (j+1)=[]:=dz b6;have e2:(x.Lemmas.take (i+1)).drop (j+1)=[]:=dz b6
   have e3:x.Lemmas.take (min i j)++(x.Lemmas.take i).drop (j+1)++[cJ x.Lemmas i]=x.Lemmas.take (min (i+1) j)++(x.Lemmas.take (i+1)).drop (j+1):=by
    rw [e1,e2,List.append_nil,List.append_nil,Nat.min_eq_left a5,Nat.min_eq_left a5,jR hi]
   rw [e3,fE (by simp only [dl,List.length_append,List.length_take,List.length_drop];omega)];exact hnx _ rfl
  ·subst h;rw [decide_eq_false a5,cond_false];refine hnx _ ?_;have e1:(x.Lemmas.take i).drop (i+1)=[]:=dz b6;have e2:(x.Lemmas.take (i+1)).drop (i+1)=[]:=dz b6;rw [e1,e2,Nat.min_self,Nat.min_eq_right a5]
  ·rw [decide_eq_true a5,cond_true]
   have e3:x.Lemmas.take (min i j)++(x.Lemmas.take i).drop (j+1)++[cJ x.Lemmas i]=x.Lemmas.take (min (i+1) j)++(x.Lemmas.take (i+1)).drop (j+1):=by
    rw [Nat.min_eq_right a5,Nat.min_eq_right a5,List.append_assoc,jR hi,List.drop_append_of_le_length b6]
   rw [e3,fE (by simp only [dl,List.length_append,List.length_take,List.length_drop];omega)];exact hnx _ rfl
theorem znm {M:List (List GChoice)}{i:Nat}(hi:i<M.length):(M.take (i+1)).reverse=cJ M i :: (M.take i).reverse:=by rw [jR hi,List.reverse_append];rfl
theorem zhF (q:GProblem){M B:List (List GChoice)}{i:Nat}(hi:i<M.length):gK q (M.take (i+1)).reverse B=if dM q (M.take i) B=B.length then gK q (M.take i).reverse B else gK q (M.take i).reverse (cJ M i :: B):=by
 rw [znm hi]
 show (if dM q (M.take i).reverse.reverse B=B.length then _ else _)=_
 rw [List.reverse_reverse]
theorem zmv (hf:100000≤fuel):zde fuel p x=some (l7 p x):=by
 unfold zde l7;rw [zgb hf,Option.bind_some];by_cases hc:eR p x=0
 ·rw [if_pos hc,decide_eq_false (fun h=>h hc),cond_false];obtain ⟨hok,hx,ha,hA⟩:=iL.1 hc;obtain ⟨M,e,hM⟩:=znG hx;have hMn:=hM.n; (have hdl:x.Lemmas.dropLast=M:=by rw [e,List.dropLast_concat]);rw [hdl]; (have hlen:x.Lemmas.length=M.length+1:=by rw [e];simp);rw [show (((x.Lemmas.length:Int) - 2)+1).toNat=M.length by omega];simp only [dH];rw [fE a5];refine zha (σ:=List Int×List (List GChoice)) (fun i s=>∃K,s=(x.Stations,M.take i++(K++[[]]))∧gK (gw p x.Stations) (M.take i).reverse (K++[[]])=gK (gw p x.Stations) M.reverse [[]]∧AllN (gw p x.Stations) [] (M.take i++(K++[[]]))∧OkM x.Stations (M.take i++K)) (fun o=>o=some ((⟨x.Stations,gK (gw p x.Stations) M.reverse [[]]⟩:GProof),(0:Int))) ⟨[],by rw [e,List.take_length,List.nil_append],by rw [List.take_length,List.nil_append],by rw [List.take_length,List.nil_append,←e];exact hA,by rw [List.take_length,List.append_nil];exact hM⟩ (fun s hs=>?_) (fun i s next hi hs hnx=>?_)
  ·obtain ⟨K,rfl,h2,_⟩:=hs;rw [←h2];rfl
  ·obtain ⟨K,rfl,h2,h3,h4⟩:=hs; (have et:M.take (i+1)++(K++[[]])=M.take i++(cJ M i :: K++[[]]):=by rw [jR hi,List.append_assoc];rfl)
   have hw:=zk0 (x:=⟨x.Stations,M.take (i+1)++(K++[[]])⟩) (by
    have:=h4.n
    simp only [List.length_append,List.length_singleton] at this ⊢;omega) i
   have e1:(M.take (i+1)++(K++[[]])).take i=M.take i:=by
    rw [List.take_append_of_le_length b6,List.take_take,Nat.min_eq_left a5]
   have e2:(M.take (i+1)++(K++[[]])).drop (i+1)=K++[[]]:=by
    rw [show i+1=(M.take (i+1)).length by rw [List.length_take];omega];simp
   dsimp only at hw;rw [e1,e2] at hw
   show (zba ⟨x.Stations,M.take (i+1)++(K++[[]])⟩ (i:Int)).bind _=_
   rw [hw,Option.bind_some,zgb hf,Option.bind_some]
   have hsub:OkM x.Stations (M.take i++K):=h4.sub (by
    refine List.Sublist.append ?_ (List.Sublist.refl _)
    rw [jR hi];exact List.sublist_append_left _ _)
   rw [et,zed,List.nil_append] at h3
   have hck:eR p ⟨x.Stations,M.take i++(K++[[]])⟩=0↔dM (gw p x.Stations) (M.take i) (K++[[]])=(K++[[]]).length:=by
    rw [iL,zc0]; (have hxx:kn ⟨x.Stations,M.take i++(K++[[]])⟩=true:=by rw [←List.append_assoc];exact zpu hsub)
    exact ⟨fun h=>by
     have:=h.2.2.2;dsimp only at this
     rw [zed,List.nil_append] at this;exact this.2,fun h=>⟨hok,hxx,ha,by
     dsimp only
     rw [zed,List.nil_append];exact ⟨h3.1,h⟩⟩⟩
   rw [zhF _ hi] at h2;by_cases hz:eR p ⟨x.Stations,M.take i++(K++[[]])⟩=0
   ·rw [decide_eq_true hz,cond_true];rw [if_pos (hck.1 hz)] at h2;refine hnx _ ⟨K,rfl,h2,?_,hsub⟩;rw [zed,List.nil_append];exact ⟨h3.1,(zc0 _ _).1 (hck.1 hz)⟩
   ·rw [decide_eq_false hz,cond_false];rw [if_neg (fun h=>hz (hck.2 h))] at h2;refine hnx _ ⟨cJ M i :: K,by rw [et],h2,?_,?_⟩
    ·rw [zed,List.nil_append];exact h3
    ·(have e5:M.take i++cJ M i :: K=M.take (i+1)++K:=by rw [jR hi,List.append_assoc];rfl);rw [e5];exact h4
 ·rw [if_neg hc,decide_eq_true hc,cond_true]
theorem zpk {t:GStore}(hn:t.list=[]):zaE t=some (some ⟨t.domains,(t.start.1,t.start.2),t.list⟩):=by
 unfold zaE zap;rw [cond_false,fE (by rw [hn];simp only [dl];simp)]
theorem zpi (hf:100000≤fuel)(hn:x.Lemmas.length≤100)(hst:x.Stations.length≤1000)(hs:∀g∈x.Lemmas,g.length≤1000):zcD fuel p x=some (l7 p x):=by
 unfold zcD l7
 cases h:gv p&&kn x with
 |false=>
  (have hc:eR p x=2:=by unfold eR fV;rw [h];rfl);rw [znk h,hc];rfl
 |true=>
  have hok:=fC h;have hx:=fY h
  cases ha:x.Stations.all (dU p) with
  |false=>
   (have hc:eR p x=9:=by unfold eR fV;rw [h,ha];rfl);rw [zk7 hok hx ha,hc];rfl
  |true=>
   obtain ⟨t,h1,h2,h3⟩:=zon hf hok hx ha;have hq:=zil (st:=x.Stations) hok;have hcp:=zpk h3;have ht:StN (gw p x.Stations) ⟨t.domains,(t.start.1,t.start.2),t.list⟩:=⟨h2.pr,h2.st,h2.tb,h2.ok⟩;obtain ⟨c,h4⟩:=zjh hf hq ht (l:=x.Lemmas) (by dsimp only;rw [h3];simp;omega) hs;dsimp only at h4;rw [h3] at h4;rw [h1,Option.bind_some];simp only [Option.isSome_some,cond_true,Option.getD_some,hcp,Option.bind_some,not_true_eq_false,decide_false];rw [h3,cond_false,h4,Option.bind_some];have hle:=zfI (q:=gw p x.Stations) x.Lemmas [];by_cases hA:AllN (gw p x.Stations) [] x.Lemmas
   ·have hc:eR p x=0:=iL.2 ⟨hok,hx,ha,hA⟩;have hfn:=(zc0 _ _).2 hA;rw [if_pos hc];dsimp only;rw [decide_eq_false a5,cond_false];obtain ⟨M,e,hM⟩:=znG hx; (have hlen:x.Lemmas.length=M.length+1:=by rw [e];simp); (have hdl:x.Lemmas.dropLast=M:=by rw [e,List.dropLast_concat]);rw [hdl];have hA2:=hA;rw [e,zed,List.nil_append] at hA2;simp only [dH]; (have hcnt:((((x.Lemmas.length:Int) - 1) - 1)+1).toNat=M.length:=by omega);rw [hcnt,fE a5];refine zha (σ:=List (List GChoice)) (fun i s=>∃B,s=B.reverse∧B.length+i≤M.length+1∧(∀g∈B,g.length≤1000)∧gK (gw p x.Stations) (M.take i).reverse B=gK (gw p x.Stations) M.reverse [[]]) (fun o=>o=some ((⟨x.Stations,gK (gw p x.Stations) M.reverse [[]]⟩:GProof),(0:Int))) ⟨[[]],rfl,by simp;omega,fun g hg=>(by simp at hg;rw [hg];simp),by rw [List.take_length]⟩ (fun s hs=>?_) (fun i s next hi hs hnx=>?_)
    ·obtain ⟨B,rfl,_,_,h5⟩:=hs;rw [fE (by simp only [dl];omega)];unfold nf;rw [List.reverse_reverse,←h5];rfl
    ·obtain ⟨B,rfl,b0,b2,h5⟩:=hs; (have et:x.Lemmas.take i=M.take i:=by rw [e,List.take_append_of_le_length a5]); (have en:cJ x.Lemmas i=cJ M i:=by rw [e];exact nthA hi);rw [et];refine kj (σ:=List (List GChoice)) (fun j c=>c=M.take j) (fun o=>o=_) a9 (fun c hc=>?_) (fun j c nx hj hc hnx2=>?_)
     ·have hcl:c=M.take i:=by
       rw [hc,Nat.sub_zero,List.length_take,Nat.min_eq_left a5]
      subst hcl;have hSt:StN (gw p x.Stations) ⟨t.domains,(t.start.1,t.start.2),M.take i⟩:=⟨h2.pr,h2.st,h2.tb,fun g hg=>AllN.ok hA2.1 g (List.mem_of_mem_take hg)⟩;obtain ⟨c2,h6⟩:=zjh hf hq hSt (l:=B) (by dsimp only;rw [List.length_take];omega) b2; (have hrev:nf B.reverse=B:=by unfold nf;rw [List.reverse_reverse]);rw [hrev,fE (by simp only [dl,List.length_reverse];omega)];have h6':zbn fuel (GStore.mk t.domains (t.start.1,t.start.2) (M.take i)) B=some ((dM (gw p x.Stations) (M.take i) B:Int),c2):=h6;rw [h6',Option.bind_some];have hle2:=zfI (q:=gw p x.Stations) B (M.take i);rw [zhF _ hi] at h5;dsimp only;by_cases hz:dM (gw p x.Stations) (M.take i) B=B.length
      ·rw [decide_eq_false a5,cond_false];rw [if_pos hz] at h5;exact hnx _ ⟨B,rfl,by omega,b2,h5⟩
      ·rw [decide_eq_true a5,cond_true];rw [if_neg hz] at h5;have hgl:=hs (cJ x.Lemmas i) (fg a5);rw [fE (by simp only [dl];omega),fE (by simp only [dl,List.length_append,List.length_reverse,List.length_singleton];omega)];refine hnx _ ⟨cJ M i :: B,by rw [en,List.reverse_cons],by simp;omega,fun g hg=>?_,h5⟩;rcases List.mem_cons.1 hg with rfl|hg
       ·rw [←en];exact hgl
       ·exact b2 g hg
     ·subst hc; (have hj2:j<M.length:=by rw [Nat.sub_zero,List.length_take] at hj;omega); (have hji:j<i:=by rw [Nat.sub_zero,List.length_take] at hj;omega);have hSt:StN (gw p x.Stations) ⟨t.domains,(t.start.1,t.start.2),M.take j⟩:=⟨h2.pr,h2.st,h2.tb,fun g hg=>AllN.ok hA2.1 g (List.mem_of_mem_take hg)⟩; (have e7:cJ (M.take i) j=cJ M j:=by rw [dV b6,dV hj2,List.getElem_take]);rw [e7];have hgok:=AllN.ok hA2.1 _ (fg hj2);have hgs:(cJ M j).length≤1000:=hs _ (by rw [e];exact List.mem_append_left _ (fg hj2))
      have h8:zaA (GStore.mk t.domains (t.start.1,t.start.2) (M.take j)) (cJ M j)=some (0,M.take j++[cJ M j]):=by
       rw [zpb hSt (by dsimp only;rw [List.length_take];omega) hgs,hgok];rfl
      rw [h8,Option.bind_some];exact hnx2 _ (jR hj2).symm
   ·have hlt:dM (gw p x.Stations) [] x.Lemmas<x.Lemmas.length:=Nat.lt_of_le_of_ne hle fun h=>hA ((zc0 _ _).1 h)
    have hc:eR p x=10:=by
     unfold eR fV;rw [h,ha,cond_true,cond_true];dsimp only;rw [decide_eq_true a5,decide_eq_true a5];rfl
    rw [hc];dsimp only;rw [decide_eq_true a5];rfl
end
end Go.Proofs.YtogbggmckmnlfaaGreatDoor
