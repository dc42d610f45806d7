/- Yb Yc: shortened and put together by squeeze.py. -/
import Derived.Test.YtgoeeefoinkepaaGreatDoorQ08
set_option maxRecDepth 100000
set_option maxHeartbeats 4000000
set_option linter.unusedVariables false
set_option linter.unusedSectionVars false
set_option linter.unusedSimpArgs false
namespace Go.Proofs.YtgoeeefoinkepaaGreatDoor
open Go.RowKit
theorem b6 {p:Prop}(h:p:=by rw [Vec.len];first|omega|(simp only [List.length_cons,List.length_nil];omega)):p:=h
def zbG (r_:GRules):Option Bool:=
 (bif (((decide (4096<(r_.Pairs.length:Int)))||(decide (1024<(r_.Loads.length:Int))))||(decide (1024<(r_.Caps.length:Int)))) then
  some false
  else
  dQ (fun (_:Unit)=>
   dQ (fun (_:Unit)=>
    dQ (fun (_:Unit)=>
     some true)
    (fun k32=>
     dk (fun (i_34:Nat) (next33:Unit→Option Bool) (_:Unit)=>
      dQ (fun (x_36:Bool)=>
       (bif x_36 then
        some false
        else
        next33 ()))
      (fun k37=>
       (bif !(kw ((cI r_.Caps i_34).Station)) then
        k37 true
        else
        (bif decide ((cI r_.Caps i_34).Max<0) then
         k37 true
         else
         (bif decide (1099511627776<(cI r_.Caps i_34).Max) then
          k37 true
          else
          (bif !(m8 ((cI r_.Caps i_34).Low) ((cI r_.Caps i_34).High)) then
           k37 true
           else
           (bif decide (0<(i_34:Int)) then
            (zbo (lX (cI r_.Caps (((i_34:Int) - 1).toNat))) (lX (cI r_.Caps i_34))).bind fun r200=>
            k37 (!r200)
            else
            k37 false)))))))
     (fun (_:Unit)=>
      k32 ()) (r_.Caps.length - 0) 0 ()))
   (fun k18=>
    dk (fun (i_20:Nat) (next19:Unit→Option Bool) (_:Unit)=>
     dQ (fun (x_22:Bool)=>
      (bif x_22 then
       some false
       else
       next19 ()))
     (fun k23=>
      (bif !(kw ((cI r_.Loads i_20).To)) then
       k23 true
       else
       (bif !(kw ((cI r_.Loads i_20).From)) then
        k23 true
        else
        (bif decide ((cI r_.Loads i_20).To=(cI r_.Loads i_20).From) then
         k23 true
         else
         (bif decide ((cI r_.Loads i_20).Weight<1) then
          k23 true
          else
          (bif decide (1073741824<(cI r_.Loads i_20).Weight) then
           k23 true
           else
           (bif !(m8 ((cI r_.Loads i_20).Low) ((cI r_.Loads i_20).High)) then
            k23 true
            else
            (bif decide (0<(i_20:Int)) then
             (zbo (lH (cI r_.Loads (((i_20:Int) - 1).toNat))) (lH (cI r_.Loads i_20))).bind fun r149=>
             k23 (!r149)
             else
             k23 false)))))))))
    (fun (_:Unit)=>
     k18 ()) (r_.Loads.length - 0) 0 ()))
  (fun k4=>
   dk (fun (i_6:Nat) (next5:Unit→Option Bool) (_:Unit)=>
    dQ (fun (x_8:Bool)=>
     (bif x_8 then
      some false
      else
      next5 ()))
    (fun k9=>
     (bif !(kw ((cI r_.Pairs i_6).A)) then
      k9 true
      else
      (bif !(kw ((cI r_.Pairs i_6).B)) then
       k9 true
       else
       (bif decide ((cI r_.Pairs i_6).B≤(cI r_.Pairs i_6).A) then
        k9 true
        else
        (bif decide ((cI r_.Pairs i_6).Offset<(-1)) then
         k9 true
         else
         (bif decide (1<(cI r_.Pairs i_6).Offset) then
          k9 true
          else
          (bif !(m8 ((cI r_.Pairs i_6).Low) ((cI r_.Pairs i_6).High)) then
           k9 true
           else
           (bif decide (0<(i_6:Int)) then
            (zbo (lU (cI r_.Pairs (((i_6:Int) - 1).toNat))) (lU (cI r_.Pairs i_6))).bind fun r85=>
            k9 (!r85)
            else
            k9 false)))))))))
   (fun (_:Unit)=>
    k4 ()) (r_.Pairs.length - 0) 0 ()))
theorem zeX (F0:Frz)(w:World)(hF0:F0.At w)(r_:GRules)(vr__0:Value)(hr__0:SlC F0 vr__0 5 (r_.Pairs.map cX))(vr__1:Value)(hr__1:SlC F0 vr__1 5 (r_.Loads.map c4))(vr__2:Value)(hr__2:SlC F0 vr__2 4 (r_.Caps.map dg))(r:Bool)(hr:zbG r_=some r):Calls Tryz.prog 30 #[.agg [vr__0,vr__1,vr__2].toArray] w fun e w'=>e= .returned (.bool r)∧Below w.heap.size w w':=by
 have hk:=hr;unfold zbG at hk;haveI:=hr__0.oneC;haveI:=hr__1.oneC;haveI:=hr__2.oneC;obtain ⟨S0,F1,rfl,hS0,hp0⟩:=fk hF0;refine dA Tryz.func30 rfl rfl rfl hp0 ?_;refine iL ?_;rintro _ _ ⟨g1,rfl,rfl⟩;refine q2o ?_;refine c6 (ι:=Unit) (fun z=>[(1, .pointer (some ⟨g1,0,none⟩)),(24, .bool (((decide (4096<(r_.Pairs.length:Int)))||(decide (1024<(r_.Loads.length:Int))))||(decide (1024<(r_.Caps.length:Int)))))]) (fun z=>[.row g1 29 [vr__0,vr__1,vr__2], .fr F1]) (fun z=>True) ?_ ?_
 ·refine fi ?_;refine eB ?_;refine cL (dp rfl rfl hr__0 (List.length_map _)) ?_;have hm11:r_.Pairs.length≤9223372036854775807:=(List.length_map _)▸hr__0.max;refine ef ?_;refine dj rfl rfl rfl (fun h1=>?_) (fun h1=>?_)
  ·have p1:=of_decide_eq_true h1;refine TL.run 11 rfl ?_;refine ep ?_;exact cP () trivial (.c (.b (gk (gk h1)).symm .nil)) (List.Sublist.refl _)
  ·have p1:=of_decide_eq_false h1;refine eB ?_;refine cL (dp rfl rfl hr__1 (List.length_map _)) ?_;have hm16:r_.Loads.length≤9223372036854775807:=(List.length_map _)▸hr__1.max;refine ft ?_;refine dj rfl rfl rfl (fun h2=>?_) (fun h2=>?_)
   ·have p2:=of_decide_eq_true h2;refine mO ?_;exact cP () trivial (.c (.b (gk (iE h1 h2)).symm .nil)) (List.Sublist.refl _)
   ·have p2:=of_decide_eq_false h2;refine eB ?_;refine cL (dp rfl rfl hr__2 (List.length_map _)) ?_;have hm22:r_.Caps.length≤9223372036854775807:=(List.length_map _)▸hr__2.max;refine ef ?_;refine ep ?_;exact cP () trivial (.c (.b (f9 (iE h1 h2)) .nil)) (List.Sublist.refl _)
 ·rintro _ _;have hm11:r_.Pairs.length≤9223372036854775807:=(List.length_map _)▸hr__0.max;have hm16:r_.Loads.length≤9223372036854775807:=(List.length_map _)▸hr__1.max;have hm22:r_.Caps.length≤9223372036854775807:=(List.length_map _)▸hr__2.max;refine T.cond rfl (fun h3=>?_) (fun h3=>?_)
  ·replace hk:=dy hk h3;refine jc ?_;obtain rfl:=Option.some.inj hk;exact eh
  ·have p3:=h3; (try simp only [cT] at p3);replace hk:=dz hk h3;refine jT ?_;refine dM ?_;have hq:=eD hk;clear hk;obtain ⟨k4,hk4,hk⟩:=hq; (try dsimp only at hk);refine c6 (ι:=FzB w (fun _=>False) S0) (fun z=>[(1, .pointer (some ⟨g1,0,none⟩))]) (fun z=>[.row g1 29 [vr__0,vr__1,vr__2], .fr z]) (fun z=>k4 ()=some r∧F1.toFrz.Le z.toFrz) ?_ ?_
   ·have hq:=fJ hk;clear hk;obtain ⟨f5,kk5,hf5,hkk5,hk⟩:=hq;refine fe ?_;refine T.loop (ι:=Nat×FzB w (fun _=>False) S0) (fun z=>[(1, .pointer (some ⟨g1,0,none⟩)),(3, .int .i64 (z.1:Int))]) (fun z=>[.row g1 29 [vr__0,vr__1,vr__2], .fr z.2]) (fun z=>dk f5 kk5 (r_.Pairs.length - z.1) z.1 ()=some r∧F1.toFrz.Le z.2.toFrz) (fun z=>r_.Pairs.length - z.1) (0,F1) ?_ ?_ ?_ ?_
    ·exact ⟨hk,(Frz.Le.refl _)⟩
    ·exact q4H
    ·exact eX
    ·rintro ⟨i_6,F3⟩ ⟨hk,le1_3⟩; (try dsimp only at *);refine q3K ?_;refine cL (dp rfl rfl (SlC.mono hr__0 le1_3) (List.length_map _)) ?_;refine dM ?_;refine T.cond rfl (fun h7=>?_) (fun h7=>?_)
     ·have p7:=of_decide_eq_true h7;rw [fK a6] at hk;generalize hn5:dk f5 kk5 (r_.Pairs.length - (i_6+1)) (i_6+1)=next5 at hk;rw [←hf5] at hk; (try dsimp only at hk);refine fS ?_;refine mQ ?_;refine cL (dd (i:=i_6) rfl rfl rfl (SlC.mono hr__0 le1_3) (List.length_map _) rfl a6) ?_;refine cL (et 1 (i:=i_6) rfl rfl rfl (SlC.mono hr__0 le1_3) a6) ?_;refine iD ?_;rintro _ _ ⟨g4,rfl,rfl⟩;refine ms ?_; (try dsimp only at hk);have hq:=eD hk;clear hk;obtain ⟨k9,hk9,hk⟩:=hq; (try dsimp only at hk);refine c6 (ι:=Bool×FzB w (fun _=>False) S0) (fun z=>[(1, .pointer (some ⟨g1,0,none⟩)),(3, .int .i64 (i_6:Int)),(88, .bool z.1)]) (fun z=>[.row g1 29 [vr__0,vr__1,vr__2], .fr z.2]) (fun z=>k9 z.1=some r∧F3.toFrz.Le z.2.toFrz) ?_ ?_
      ·refine q1a ?_;refine cR rfl (Wt.none) rfl rfl (cM rfl rfl rfl (fun w hw=>zbz _ w (hw.fr (i:=2) rfl) ((cI r_.Pairs i_6).A))) ?_;refine q4k ?_;refine dt rfl rfl rfl rfl (fun h10=>?_) (fun h10=>?_)
       ·replace hk:=dy hk h10;refine gG ?_;refine gK ?_;refine TS.run 24 rfl ?_;refine mq ?_;exact q4M
       ·replace hk:=dz hk h10;refine lR ?_;refine cR rfl (Wt.some) rfl rfl (cM rfl rfl rfl (fun w hw=>zbz _ w (hw.fr (i:=2) rfl) ((cI r_.Pairs i_6).B))) ?_;refine gJ ?_;refine ik ?_;refine dt rfl rfl rfl rfl (fun h11=>?_) (fun h11=>?_)
        ·replace hk:=dy hk h11;refine TS.run 21 rfl ?_;refine mq ?_;exact q4M
        ·replace hk:=dz hk h11;refine gm ?_;refine q4p ?_;refine dt rfl rfl rfl rfl (fun h12=>?_) (fun h12=>?_)
         ·have p12:=of_decide_eq_true h12;replace hk:=dy hk h12;refine TS.run 14 rfl ?_;refine mq ?_;exact q4M
         ·have p12:=of_decide_eq_false h12;replace hk:=dz hk h12;refine q4p ?_;refine dt rfl rfl rfl rfl (fun h13=>?_) (fun h13=>?_)
          ·have p13:=of_decide_eq_true h13;replace hk:=dy hk h13;refine TS.run 9 rfl ?_;refine mq ?_;exact q4M
          ·have p13:=of_decide_eq_false h13;replace hk:=dz hk h13;refine q4p ?_;refine dt rfl rfl rfl rfl (fun h14=>?_) (fun h14=>?_)
           ·have p14:=of_decide_eq_true h14;replace hk:=dy hk h14;refine TS.run 4 rfl ?_;refine mq ?_;exact q4M
           ·have p14:=of_decide_eq_false h14;replace hk:=dz hk h14;refine gm ?_;refine lR ?_;refine cR rfl (Wt.some) rfl rfl (cM rfl rfl rfl (fun w hw=>zeb _ w (hw.fr (i:=2) rfl) ((cI r_.Pairs i_6).Low) ((cI r_.Pairs i_6).High))) ?_;refine gJ ?_;refine ik ?_;refine dt rfl rfl rfl rfl (fun h15=>?_) (fun h15=>?_)
            ·replace hk:=dy hk h15;refine TS.run 10 rfl ?_;refine q0d ?_;exact q4M
            ·replace hk:=dz hk h15;refine ik ?_;refine dt rfl rfl rfl rfl (fun h16=>?_) (fun h16=>?_)
             ·have p16:=of_decide_eq_true h16;replace hk:=dy hk h16;refine gg ?_;refine q2B ?_;refine nm ?_;refine cO rfl (dd (i:=((i_6:Int) - 1).toNat) rfl rfl rfl (SlC.mono hr__0 le1_3) (List.length_map _) a6 a6) ?_;refine cO rfl (et 2 (i:=((i_6:Int) - 1).toNat) rfl rfl rfl (SlC.mono hr__0 le1_3) a6) ?_;refine jf ?_;refine dw ?_;refine cR rfl (Wt.some) rfl rfl (eP 2 rfl rfl rfl rfl (fun w hw hF=>zeB _ w hF (cI r_.Pairs (((i_6:Int) - 1).toNat)))) ?_;rintro _ _ ⟨v82_0_0,F5,le3_5,hf82_0_0,hq,rfl⟩;obtain rfl:=hq.symm;haveI:=hf82_0_0.oneC;refine ⟨(fun w hw=>(hw.frLe (i:=2) rfl le3_5).sub Sx),?_⟩;refine dw ?_;refine cR rfl (Wt.some) rfl rfl (eP 2 rfl rfl rfl rfl (fun w hw hF=>zeB _ w hF (cI r_.Pairs i_6))) ?_;rintro _ _ ⟨v84_0_0,F6,le5_6,hf84_0_0,hq,rfl⟩;obtain rfl:=hq.symm;have le3_6:=le3_5.trans le5_6;haveI:=hf84_0_0.oneC;refine ⟨(fun w hw=>(hw.frLe (i:=2) rfl le3_6).sub Sx),?_⟩;refine dw ?_;have hq:=fu hk;clear hk;obtain ⟨r85,hr85,hk⟩:=hq;refine cR rfl (Wt.some) rfl rfl (cM rfl rfl rfl (fun w hw=>zeh _ w (hw.fr (i:=2) rfl) (lU (cI r_.Pairs (((i_6:Int) - 1).toNat))) v82_0_0 (SlC.mono hf82_0_0 le5_6) (lU (cI r_.Pairs i_6)) v84_0_0 hf84_0_0 r85 hr85)) ?_;refine fG ?_;refine ⟨(fun w hw=>(hw.frLe (i:=2) rfl le3_6).sub Sx),?_⟩;refine mI ?_;refine lO ?_;exact cP (!r85,F6) ⟨hk,le3_6⟩ (.c (.c (.c .nil))) (List.Sublist.refl _)
             ·have p16:=of_decide_eq_false h16;replace hk:=dz hk h16;refine q2Z ?_;refine gK ?_;refine gK ?_;refine mI ?_;refine lO ?_;exact cP (false,F3) ⟨hk,(Frz.Le.refl _)⟩ (.c (.c (.c .nil))) (List.Sublist.refl _)
      ·rintro ⟨x_8,F4⟩ ⟨hk,le3_4⟩; (try dsimp only at *);rw [←hk9] at hk; (try dsimp only at hk);have le1_4:=le1_3.trans le3_4;refine T.cond rfl (fun h17=>?_) (fun h17=>?_)
       ·replace hk:=dy hk h17;refine iT ?_;obtain rfl:=Option.some.inj hk;exact eh
       ·replace hk:=dz hk h17;refine gY ?_;rw [←hn5] at hk;exact K.next ((i_6+1),F4) ⟨hk,le1_4⟩ b3 (.c (.c .nil)) (List.Sublist.refl _)
     ·have p7:=of_decide_eq_false h7;rw [fL a6,←hkk5] at hk; (try dsimp only at hk);refine fx ?_;exact cP F3 ⟨hk,le1_3⟩ (.c .nil) (List.Sublist.refl _)
   ·rintro F2 ⟨hk,le1_2⟩;rw [←hk4] at hk; (try dsimp only at hk);refine mm ?_;have hq:=eD hk;clear hk;obtain ⟨k18,hk18,hk⟩:=hq; (try dsimp only at hk);refine c6 (ι:=FzB w (fun _=>False) S0) (fun z=>[(1, .pointer (some ⟨g1,0,none⟩))]) (fun z=>[.row g1 29 [vr__0,vr__1,vr__2], .fr z]) (fun z=>k18 ()=some r∧F2.toFrz.Le z.toFrz) ?_ ?_
    ·have hq:=fJ hk;clear hk;obtain ⟨f19,kk19,hf19,hkk19,hk⟩:=hq;refine fe ?_;refine T.loop (ι:=Nat×FzB w (fun _=>False) S0) (fun z=>[(1, .pointer (some ⟨g1,0,none⟩)),(5, .int .i64 (z.1:Int))]) (fun z=>[.row g1 29 [vr__0,vr__1,vr__2], .fr z.2]) (fun z=>dk f19 kk19 (r_.Loads.length - z.1) z.1 ()=some r∧F2.toFrz.Le z.2.toFrz) (fun z=>r_.Loads.length - z.1) (0,F2) ?_ ?_ ?_ ?_
     ·exact ⟨hk,(Frz.Le.refl _)⟩
     ·exact q4H
     ·exact eX
     ·rintro ⟨i_20,F8⟩ ⟨hk,le2_8⟩; (try dsimp only at *);have le1_8:=le1_2.trans le2_8;refine q3K ?_;refine cL (dp rfl rfl (SlC.mono hr__1 le1_8) (List.length_map _)) ?_;refine dM ?_;refine T.cond rfl (fun h21=>?_) (fun h21=>?_)
      ·have p21:=of_decide_eq_true h21;rw [fK a6] at hk;generalize hn19:dk f19 kk19 (r_.Loads.length - (i_20+1)) (i_20+1)=next19 at hk;rw [←hf19] at hk; (try dsimp only at hk);refine fS ?_;refine mQ ?_;refine cL (dd (i:=i_20) rfl rfl rfl (SlC.mono hr__1 le1_8) (List.length_map _) rfl a6) ?_;refine cL (et 1 (i:=i_20) rfl rfl rfl (SlC.mono hr__1 le1_8) a6) ?_;refine iD ?_;rintro _ _ ⟨g6,rfl,rfl⟩;refine ms ?_; (try dsimp only at hk);have hq:=eD hk;clear hk;obtain ⟨k23,hk23,hk⟩:=hq; (try dsimp only at hk);refine c6 (ι:=Bool×FzB w (fun _=>False) S0) (fun z=>[(1, .pointer (some ⟨g1,0,none⟩)),(5, .int .i64 (i_20:Int)),(152, .bool z.1)]) (fun z=>[.row g1 29 [vr__0,vr__1,vr__2], .fr z.2]) (fun z=>k23 z.1=some r∧F8.toFrz.Le z.2.toFrz) ?_ ?_
       ·refine q1a ?_;refine cR rfl (Wt.none) rfl rfl (cM rfl rfl rfl (fun w hw=>zbz _ w (hw.fr (i:=2) rfl) ((cI r_.Loads i_20).To))) ?_;refine q4k ?_;refine dt rfl rfl rfl rfl (fun h24=>?_) (fun h24=>?_)
        ·replace hk:=dy hk h24;refine gG ?_;refine gK ?_;refine TS.run 24 rfl ?_;refine mq ?_;exact q4N
        ·replace hk:=dz hk h24;refine lR ?_;refine cR rfl (Wt.some) rfl rfl (cM rfl rfl rfl (fun w hw=>zbz _ w (hw.fr (i:=2) rfl) ((cI r_.Loads i_20).From))) ?_;refine gJ ?_;refine ik ?_;refine dt rfl rfl rfl rfl (fun h25=>?_) (fun h25=>?_)
         ·replace hk:=dy hk h25;refine TS.run 21 rfl ?_;refine mq ?_;exact q4N
         ·replace hk:=dz hk h25;refine gm ?_;refine q4p ?_;refine dt rfl rfl rfl rfl (fun h26=>?_) (fun h26=>?_)
          ·have p26:=of_decide_eq_true h26;replace hk:=dy hk h26;refine TS.run 14 rfl ?_;refine mq ?_;exact q4N
          ·have p26:=of_decide_eq_false h26;replace hk:=dz hk h26;refine q4p ?_;refine dt rfl rfl rfl rfl (fun h27=>?_) (fun h27=>?_)
           ·have p27:=of_decide_eq_true h27;replace hk:=dy hk h27;refine TS.run 9 rfl ?_;refine mq ?_;exact q4N
           ·have p27:=of_decide_eq_false h27;replace hk:=dz hk h27;refine q4p ?_;refine dt rfl rfl rfl rfl (fun h28=>?_) (fun h28=>?_)
            ·have p28:=of_decide_eq_true h28;replace hk:=dy hk h28;refine TS.run 4 rfl ?_;refine mq ?_;exact q4N
            ·have p28:=of_decide_eq_false h28;replace hk:=dz hk h28;refine gm ?_;refine lR ?_;refine cR rfl (Wt.some) rfl rfl (cM rfl rfl rfl (fun w hw=>zeb _ w (hw.fr (i:=2) rfl) ((cI r_.Loads i_20).Low) ((cI r_.Loads i_20).High))) ?_;refine gJ ?_;refine ik ?_;refine dt rfl rfl rfl rfl (fun h29=>?_) (fun h29=>?_)
             ·replace hk:=dy hk h29;refine TS.run 10 rfl ?_;refine q0d ?_;exact q4N
             ·replace hk:=dz hk h29;refine ik ?_;refine dt rfl rfl rfl rfl (fun h30=>?_) (fun h30=>?_)
              ·have p30:=of_decide_eq_true h30;replace hk:=dy hk h30;refine gg ?_;refine q2B ?_;refine nm ?_;refine cO rfl (dd (i:=((i_20:Int) - 1).toNat) rfl rfl rfl (SlC.mono hr__1 le1_8) (List.length_map _) a6 a6) ?_;refine cO rfl (et 2 (i:=((i_20:Int) - 1).toNat) rfl rfl rfl (SlC.mono hr__1 le1_8) a6) ?_;refine jf ?_;refine dw ?_;refine cR rfl (Wt.some) rfl rfl (eP 2 rfl rfl rfl rfl (fun w hw hF=>zey _ w hF (cI r_.Loads (((i_20:Int) - 1).toNat)))) ?_;rintro _ _ ⟨v146_0_0,F10,le8_10,hf146_0_0,hq,rfl⟩;obtain rfl:=hq.symm;haveI:=hf146_0_0.oneC;refine ⟨(fun w hw=>(hw.frLe (i:=2) rfl le8_10).sub Sx),?_⟩;refine dw ?_;refine cR rfl (Wt.some) rfl rfl (eP 2 rfl rfl rfl rfl (fun w hw hF=>zey _ w hF (cI r_.Loads i_20))) ?_;rintro _ _ ⟨v148_0_0,F11,le10_11,hf148_0_0,hq,rfl⟩;obtain rfl:=hq.symm;have le8_11:=le8_10.trans le10_11;haveI:=hf148_0_0.oneC;refine ⟨(fun w hw=>(hw.frLe (i:=2) rfl le8_11).sub Sx),?_⟩;refine dw ?_;have hq:=fu hk;clear hk;obtain ⟨r149,hr149,hk⟩:=hq;refine cR rfl (Wt.some) rfl rfl (cM rfl rfl rfl (fun w hw=>zeh _ w (hw.fr (i:=2) rfl) (lH (cI r_.Loads (((i_20:Int) - 1).toNat))) v146_0_0 (SlC.mono hf146_0_0 le10_11) (lH (cI r_.Loads i_20)) v148_0_0 hf148_0_0 r149 hr149)) ?_;refine fG ?_;refine ⟨(fun w hw=>(hw.frLe (i:=2) rfl le8_11).sub Sx),?_⟩;refine mI ?_;refine lO ?_;exact cP (!r149,F11) ⟨hk,le8_11⟩ (.c (.c (.c .nil))) (List.Sublist.refl _)
              ·have p30:=of_decide_eq_false h30;replace hk:=dz hk h30;refine q2Z ?_;refine gK ?_;refine gK ?_;refine mI ?_;refine lO ?_;exact cP (false,F8) ⟨hk,(Frz.Le.refl _)⟩ (.c (.c (.c .nil))) (List.Sublist.refl _)
       ·rintro ⟨x_22,F9⟩ ⟨hk,le8_9⟩; (try dsimp only at *);rw [←hk23] at hk; (try dsimp only at hk);have le2_9:=le2_8.trans le8_9;refine T.cond rfl (fun h31=>?_) (fun h31=>?_)
        ·replace hk:=dy hk h31;refine iT ?_;obtain rfl:=Option.some.inj hk;exact eh
        ·replace hk:=dz hk h31;refine gY ?_;rw [←hn19] at hk;exact K.next ((i_20+1),F9) ⟨hk,le2_9⟩ b3 (.c (.c .nil)) (List.Sublist.refl _)
      ·have p21:=of_decide_eq_false h21;rw [fL a6,←hkk19] at hk; (try dsimp only at hk);refine fx ?_;exact cP F8 ⟨hk,le2_8⟩ (.c .nil) (List.Sublist.refl _)
    ·rintro F7 ⟨hk,le2_7⟩;rw [←hk18] at hk; (try dsimp only at hk);have le1_7:=le1_2.trans le2_7;refine mm ?_;have hq:=eD hk;clear hk;obtain ⟨k32,hk32,hk⟩:=hq; (try dsimp only at hk);refine c6 (ι:=FzB w (fun _=>False) S0) (fun z=>[]) (fun z=>[.fr z]) (fun z=>k32 ()=some r∧F7.toFrz.Le z.toFrz) ?_ ?_
     ·have hq:=fJ hk;clear hk;obtain ⟨f33,kk33,hf33,hkk33,hk⟩:=hq;refine fe ?_;refine T.loop (ι:=Nat×FzB w (fun _=>False) S0) (fun z=>[(1, .pointer (some ⟨g1,0,none⟩)),(7, .int .i64 (z.1:Int))]) (fun z=>[.row g1 29 [vr__0,vr__1,vr__2], .fr z.2]) (fun z=>dk f33 kk33 (r_.Caps.length - z.1) z.1 ()=some r∧F7.toFrz.Le z.2.toFrz) (fun z=>r_.Caps.length - z.1) (0,F7) ?_ ?_ ?_ ?_
      ·exact ⟨hk,(Frz.Le.refl _)⟩
      ·exact q4H
      ·exact eX
      ·rintro ⟨i_34,F13⟩ ⟨hk,le7_13⟩; (try dsimp only at *);have le1_13:=le1_7.trans le7_13;refine q3K ?_;refine cL (dp rfl rfl (SlC.mono hr__2 le1_13) (List.length_map _)) ?_;refine dM ?_;refine T.cond rfl (fun h35=>?_) (fun h35=>?_)
       ·have p35:=of_decide_eq_true h35;rw [fK a6] at hk;generalize hn33:dk f33 kk33 (r_.Caps.length - (i_34+1)) (i_34+1)=next33 at hk;rw [←hf33] at hk; (try dsimp only at hk);refine fS ?_;refine mQ ?_;refine cL (dd (i:=i_34) rfl rfl rfl (SlC.mono hr__2 le1_13) (List.length_map _) rfl a6) ?_;refine cL (et 1 (i:=i_34) rfl rfl rfl (SlC.mono hr__2 le1_13) a6) ?_;refine iD ?_;rintro _ _ ⟨g8,rfl,rfl⟩;refine ms ?_; (try dsimp only at hk);have hq:=eD hk;clear hk;obtain ⟨k37,hk37,hk⟩:=hq; (try dsimp only at hk);refine c6 (ι:=Bool×FzB w (fun _=>False) S0) (fun z=>[(1, .pointer (some ⟨g1,0,none⟩)),(7, .int .i64 (i_34:Int)),(203, .bool z.1)]) (fun z=>[.row g1 29 [vr__0,vr__1,vr__2], .fr z.2]) (fun z=>k37 z.1=some r∧F13.toFrz.Le z.2.toFrz) ?_ ?_
        ·refine dF (sN 0 2 (.eff 2 (sN 3 16 (.eff 19 (sN 20 12 (.still 33 (.eff 32 (.eff 34 (.eff 35 (sN 36 2 (.still 38 .done))))))))))) _ a8 (List.Sublist.refl _) ?_;refine lR ?_;refine cR rfl (Wt.none) rfl rfl (cM rfl rfl rfl (fun w hw=>zbz _ w (hw.fr (i:=2) rfl) ((cI r_.Caps i_34).Station))) ?_;refine q4k ?_;refine dt rfl rfl rfl rfl (fun h38=>?_) (fun h38=>?_)
         ·replace hk:=dy hk h38;refine TS.run 14 rfl ?_;refine mq ?_;exact q43
         ·replace hk:=dz hk h38;refine q4p ?_;refine dt rfl rfl rfl rfl (fun h39=>?_) (fun h39=>?_)
          ·have p39:=of_decide_eq_true h39;replace hk:=dy hk h39;refine TS.run 9 rfl ?_;refine mq ?_;exact q43
          ·have p39:=of_decide_eq_false h39;replace hk:=dz hk h39;refine q4p ?_;refine dt rfl rfl rfl rfl (fun h40=>?_) (fun h40=>?_)
           ·have p40:=of_decide_eq_true h40;replace hk:=dy hk h40;refine TS.run 4 rfl ?_;refine mq ?_;exact q43
           ·have p40:=of_decide_eq_false h40;replace hk:=dz hk h40;refine gm ?_;refine lR ?_;refine cR rfl (Wt.some) rfl rfl (cM rfl rfl rfl (fun w hw=>zeb _ w (hw.fr (i:=2) rfl) ((cI r_.Caps i_34).Low) ((cI r_.Caps i_34).High))) ?_;refine gJ ?_;refine ik ?_;refine dt rfl rfl rfl rfl (fun h41=>?_) (fun h41=>?_)
            ·replace hk:=dy hk h41;refine TS.run 10 rfl ?_;refine q0d ?_;exact q43
            ·replace hk:=dz hk h41;refine ik ?_;refine dt rfl rfl rfl rfl (fun h42=>?_) (fun h42=>?_)
             ·have p42:=of_decide_eq_true h42;replace hk:=dy hk h42;refine gg ?_;refine q2B ?_;refine nm ?_;refine cO rfl (dd (i:=((i_34:Int) - 1).toNat) rfl rfl rfl (SlC.mono hr__2 le1_13) (List.length_map _) a6 a6) ?_;refine cO rfl (et 2 (i:=((i_34:Int) - 1).toNat) rfl rfl rfl (SlC.mono hr__2 le1_13) a6) ?_;refine jf ?_;refine dw ?_;refine cR rfl (Wt.some) rfl rfl (eP 2 rfl rfl rfl rfl (fun w hw hF=>ze9 _ w hF (cI r_.Caps (((i_34:Int) - 1).toNat)))) ?_;rintro _ _ ⟨v197_0_0,F15,le13_15,hf197_0_0,hq,rfl⟩;obtain rfl:=hq.symm;haveI:=hf197_0_0.oneC;refine ⟨(fun w hw=>(hw.frLe (i:=2) rfl le13_15).sub Sx),?_⟩;refine dw ?_;refine cR rfl (Wt.some) rfl rfl (eP 2 rfl rfl rfl rfl (fun w hw hF=>ze9 _ w hF (cI r_.Caps i_34))) ?_;rintro _ _ ⟨v199_0_0,F16,le15_16,hf199_0_0,hq,rfl⟩;obtain rfl:=hq.symm;have le13_16:=le13_15.trans le15_16;haveI:=hf199_0_0.oneC;refine ⟨(fun w hw=>(hw.frLe (i:=2) rfl le13_16).sub Sx),?_⟩;refine dw ?_;have hq:=fu hk;clear hk;obtain ⟨r200,hr200,hk⟩:=hq;refine cR rfl (Wt.some) rfl rfl (cM rfl rfl rfl (fun w hw=>zeh _ w (hw.fr (i:=2) rfl) (lX (cI r_.Caps (((i_34:Int) - 1).toNat))) v197_0_0 (SlC.mono hf197_0_0 le15_16) (lX (cI r_.Caps i_34)) v199_0_0 hf199_0_0 r200 hr200)) ?_;refine fG ?_;refine ⟨(fun w hw=>(hw.frLe (i:=2) rfl le13_16).sub Sx),?_⟩;refine mI ?_;refine lO ?_;exact cP (!r200,F16) ⟨hk,le13_16⟩ (.c (.c (.c .nil))) (List.Sublist.refl _)
             ·have p42:=of_decide_eq_false h42;replace hk:=dz hk h42;refine q2Z ?_;refine gK ?_;refine gK ?_;refine mI ?_;refine lO ?_;exact cP (false,F13) ⟨hk,(Frz.Le.refl _)⟩ (.c (.c (.c .nil))) (List.Sublist.refl _)
        ·rintro ⟨x_36,F14⟩ ⟨hk,le13_14⟩; (try dsimp only at *);rw [←hk37] at hk; (try dsimp only at hk);have le7_14:=le7_13.trans le13_14;refine T.cond rfl (fun h43=>?_) (fun h43=>?_)
         ·replace hk:=dy hk h43;refine iT ?_;obtain rfl:=Option.some.inj hk;exact eh
         ·replace hk:=dz hk h43;refine gY ?_;rw [←hn33] at hk;exact K.next ((i_34+1),F14) ⟨hk,le7_14⟩ b3 (.c (.c .nil)) (List.Sublist.refl _)
       ·have p35:=of_decide_eq_false h35;rw [fL a6,←hkk33] at hk; (try dsimp only at hk);refine ni ?_;exact cP F13 ⟨hk,le7_13⟩ .nil (List.Sublist.refl _)
     ·rintro F12 ⟨hk,le7_12⟩;rw [←hk32] at hk; (try dsimp only at hk);refine kj ?_;obtain rfl:=Option.some.inj hk;exact eh
def zb0 (p:GProblem):Option Bool:=
 dQ (fun (x_1:Bool)=>
  (bif x_1 then
   some false
   else
   dQ (fun (_:Unit)=>
    dQ (fun (_:Unit)=>
     dQ (fun (_:Unit)=>
      dQ (fun (_:Unit)=>
       some true)
      (fun k32=>
       dk (fun (i_34:Nat) (next33:Unit→Option Bool) (_:Unit)=>
        (bif decide ((fH p ((cI p.Rules.Caps i_34).Station))<0) then
         some false
         else
         next33 ()))
       (fun (_:Unit)=>
        k32 ()) (p.Rules.Caps.length - 0) 0 ()))
     (fun k26=>
      dk (fun (i_28:Nat) (next27:Unit→Option Bool) (_:Unit)=>
       (bif ((decide ((fH p ((cI p.Rules.Loads i_28).To))<0))||(decide ((fH p ((cI p.Rules.Loads i_28).From))<0))) then
        some false
        else
        next27 ()))
      (fun (_:Unit)=>
       k26 ()) (p.Rules.Loads.length - 0) 0 ()))
    (fun k20=>
     dk (fun (i_22:Nat) (next21:Unit→Option Bool) (_:Unit)=>
      (bif ((decide ((fH p ((cI p.Rules.Pairs i_22).A))<0))||(decide ((fH p ((cI p.Rules.Pairs i_22).B))<0))) then
       some false
       else
       next21 ()))
     (fun (_:Unit)=>
      k20 ()) (p.Rules.Pairs.length - 0) 0 ()))
   (fun k5=>
    dk (fun (i_7:Nat) (next6:Unit→Option Bool) (_:Unit)=>
     (bif (((!(kw ((cI p.Domains i_7).Station)))||((decide (0<(i_7:Int)))&&(decide ((cI p.Domains i_7).Station≤(cI p.Domains (((i_7:Int) - 1).toNat)).Station))))||(decide (50<(((cI p.Domains i_7).Channels).length:Int)))) then
      some false
      else
      dk (fun (k_14:Nat) (next13:Unit→Option Bool) (_:Unit)=>
       (bif (((decide ((cI ((cI p.Domains i_7).Channels) k_14)<2))||(decide (51<(cI ((cI p.Domains i_7).Channels) k_14))))||((decide (0<(k_14:Int)))&&(decide ((cI ((cI p.Domains i_7).Channels) k_14)≤(cI ((cI p.Domains i_7).Channels) (((k_14:Int) - 1).toNat)))))) then
        some false
        else
        next13 ()))
      (fun (_:Unit)=>
       next6 ()) ((((cI p.Domains i_7).Channels).length) - 0) 0 ()))
    (fun (_:Unit)=>
     k5 ()) (p.Domains.length - 0) 0 ())))
 (fun k2=>
  (bif decide (512<(p.Domains.length:Int)) then
   k2 true
   else
   (zbG p.Rules).bind fun r16=>
   k2 (!r16)))
theorem ze6 (F0:Frz)(w:World)(hF0:F0.At w)(p:GProblem)(vp_0:Value)(cp_0:List (List Value))(hp_0:SlD cK F0 vp_0 2 cp_0 p.Domains)(vp_1:Value)(hp_1:SlC F0 vp_1 5 (p.Rules.Pairs.map cX))(vp_2:Value)(hp_2:SlC F0 vp_2 5 (p.Rules.Loads.map c4))(vp_3:Value)(hp_3:SlC F0 vp_3 4 (p.Rules.Caps.map dg))(r:Bool)(hr:zb0 p=some r):Calls Tryz.prog 11 #[.agg [vp_0,vp_1,vp_2,vp_3].toArray] w fun e w'=>e= .returned (.bool r)∧Below w.heap.size w w':=by
 have hk:=hr;unfold zb0 at hk;haveI:=hp_0.1.oneC;haveI:=hp_1.oneC;haveI:=hp_2.oneC;haveI:=hp_3.oneC;obtain ⟨S0,F1,rfl,hS0,hp0⟩:=fk hF0;refine dA Tryz.func11 rfl rfl rfl hp0 ?_;refine iL ?_;rintro _ _ ⟨g1,rfl,rfl⟩;refine q2o ?_; (try dsimp only at hk);have hq:=eD hk;clear hk;obtain ⟨k2,hk2,hk⟩:=hq; (try dsimp only at hk);refine c6 (ι:=Bool) (fun z=>[(1, .pointer (some ⟨g1,0,none⟩)),(18, .bool z)]) (fun z=>[.row g1 31 [vp_0,vp_1,vp_2,vp_3], .fr F1]) (fun z=>k2 z=some r) ?_ ?_
 ·refine fi ?_;refine eB ?_;refine q22 ?_;have hm11:p.Domains.length≤9223372036854775807:=hp_0.2.1▸hp_0.1.max;refine ef ?_;refine dj rfl rfl rfl (fun h3=>?_) (fun h3=>?_)
  ·have p3:=of_decide_eq_true h3;replace hk:=dy hk h3;refine mO ?_;exact cP true hk (.c (.c .nil)) (List.Sublist.refl _)
  ·have p3:=of_decide_eq_false h3;replace hk:=dz hk h3;refine fg ?_;refine cL (nk 0 (m:=[vp_1,vp_2,vp_3]) rfl rfl rfl rfl rfl) ?_;have hq:=fu hk;clear hk;obtain ⟨r16,hr16,hk⟩:=hq;refine c8 (cM rfl rfl rfl (fun w hw=>zeX _ w (hw.fr (i:=1) rfl) p.Rules vp_1 hp_1 vp_2 hp_2 vp_3 hp_3 r16 hr16)) ?_;refine q4n ?_;exact cP (!r16) hk (.c (.c .nil)) (List.Sublist.refl _)
 ·rintro x_1 hk;rw [←hk2] at hk; (try dsimp only at hk);refine T.cond rfl (fun h4=>?_) (fun h4=>?_)
  ·replace hk:=dy hk h4;refine jc ?_;obtain rfl:=Option.some.inj hk;exact eh
  ·replace hk:=dz hk h4;refine jT ?_;refine dM ?_;have hq:=eD hk;clear hk;obtain ⟨k5,hk5,hk⟩:=hq; (try dsimp only at hk);refine c6 (ι:=Unit) (fun z=>[(1, .pointer (some ⟨g1,0,none⟩))]) (fun z=>[.row g1 31 [vp_0,vp_1,vp_2,vp_3], .fr F1]) (fun z=>k5 ()=some r) ?_ ?_
   ·have hq:=fJ hk;clear hk;obtain ⟨f6,kk6,hf6,hkk6,hk⟩:=hq;refine fe ?_;refine T.loop (ι:=Nat) (fun z=>[(1, .pointer (some ⟨g1,0,none⟩)),(3, .int .i64 (z:Int))]) (fun z=>[.row g1 31 [vp_0,vp_1,vp_2,vp_3], .fr F1]) (fun z=>dk f6 kk6 (p.Domains.length - z) z ()=some r) (fun z=>p.Domains.length - z) 0 ?_ ?_ ?_ ?_
    ·exact hk
    ·exact q4H
    ·exact eX
    ·rintro i_7 hk;refine q3K ?_;refine q22 ?_;have hm22:p.Domains.length≤9223372036854775807:=hp_0.2.1▸hp_0.1.max;refine dM ?_;refine T.cond rfl (fun h8=>?_) (fun h8=>?_)
     ·have p8:=of_decide_eq_true h8;rw [fK a6] at hk;generalize hn6:dk f6 kk6 (p.Domains.length - (i_7+1)) (i_7+1)=next6 at hk;rw [←hf6] at hk; (try dsimp only at hk);refine fS ?_;refine mQ ?_;refine cL (dd (i:=i_7) rfl rfl rfl hp_0.1 hp_0.2.1 rfl a6) ?_;refine cL (j4 1 (i:=i_7) (j:=0) rfl rfl rfl hp_0.1 hp_0.2.1 a6 rfl (e9 (hp_0.2.2 i_7 a6)) rfl) ?_;have hd30_1:=(GDomain.c1 (hp_0.2.2 i_7 a6)).2;haveI:=hd30_1.oneC;refine iD ?_;rintro _ _ ⟨g4,rfl,rfl⟩;refine jW ?_;refine cS (T.seq (T.seq ?_));refine c6 (ι:=Unit) (fun z=>[(1, .pointer (some ⟨g1,0,none⟩)),(3, .int .i64 (i_7:Int)),(4, .pointer (some ⟨g4,0,none⟩)),(56, .bool (((!(kw ((cI p.Domains i_7).Station)))||((decide (0<(i_7:Int)))&&(decide ((cI p.Domains i_7).Station≤(cI p.Domains (((i_7:Int) - 1).toNat)).Station))))||(decide (50<(((cI p.Domains i_7).Channels).length:Int)))))]) (fun z=>[.row g4 59 [.int .i64 ((cI p.Domains i_7).Station),(cI (cI cp_0 i_7) 1)], .row g1 31 [vp_0,vp_1,vp_2,vp_3], .fr F1]) (fun z=>True) ?_ ?_
      ·refine dF (sN 0 2 (.eff 2 (sN 3 22 (.still 25 .done)))) _ a8 (List.Sublist.refl _) ?_;refine lR ?_;refine cR rfl (Wt.none) rfl rfl (cM rfl rfl rfl (fun w hw=>zbz _ w (hw.fr (i:=2) rfl) ((cI p.Domains i_7).Station))) ?_;refine q4k ?_;refine dt rfl rfl rfl rfl (fun h9=>?_) (fun h9=>?_)
       ·refine TS.run 21 rfl ?_;refine ij ?_;exact cP () trivial (.c (.c (.c (.b (gk (gk h9)).symm .nil)))) (List.Sublist.refl _)
       ·refine ik ?_;refine dt rfl rfl rfl rfl (fun h10=>?_) (fun h10=>?_)
        ·have p10:=of_decide_eq_true h10;refine gg ?_;refine q2B ?_;refine nm ?_;refine cO rfl (dd (i:=((i_7:Int) - 1).toNat) rfl rfl rfl hp_0.1 hp_0.2.1 a6 a6) ?_;refine cO rfl (em rfl rfl hp_0.1 hp_0.2.1 a6) ?_;refine cO rfl (dq 2 (i:=((i_7:Int) - 1).toNat) (j:=0) rfl rfl rfl hp_0.1 hp_0.2.1 a6 rfl (GDomain.c0 (hp_0.2.2 (((i_7:Int) - 1).toNat) a6))) ?_;refine gm ?_;refine TS.run 4 rfl ?_;refine dt rfl rfl rfl rfl (fun h11=>?_) (fun h11=>?_)
         ·have p11:=of_decide_eq_true h11;refine TS.run 5 rfl ?_;refine ij ?_;exact cP () trivial (.c (.c (.c (.b (gk (iE h9 (fE h10 h11))).symm .nil)))) (List.Sublist.refl _)
         ·have p11:=of_decide_eq_false h11;refine gm ?_;refine cO rfl (dp rfl rfl hd30_1 (List.length_map _)) ?_;have hm54:((cI p.Domains i_7).Channels).length≤9223372036854775807:=(List.length_map _)▸hd30_1.max;refine jt ?_;exact cP () trivial (.c (.c (.c (.b (f9 (iE h9 (fE h10 h11))) .nil)))) (List.Sublist.refl _)
        ·have p10:=of_decide_eq_false h10;refine TS.run 13 rfl ?_;refine gm ?_;refine cO rfl (dp rfl rfl hd30_1 (List.length_map _)) ?_;have hm54:((cI p.Domains i_7).Channels).length≤9223372036854775807:=(List.length_map _)▸hd30_1.max;refine jt ?_;exact cP () trivial (.c (.c (.c (.b (f9 (iE h9 (eH h10))) .nil)))) (List.Sublist.refl _)
      ·rintro _ _;have hm54:((cI p.Domains i_7).Channels).length≤9223372036854775807:=(List.length_map _)▸hd30_1.max;refine T.cond rfl (fun h12=>?_) (fun h12=>?_)
       ·replace hk:=dy hk h12;refine gM ?_;refine q3O ?_;obtain rfl:=Option.some.inj hk;exact eh
       ·have p12:=h12; (try simp only [cT] at p12);replace hk:=dz hk h12;refine ja ?_;refine dM ?_;have hq:=fJ hk;clear hk;obtain ⟨f13,kk13,hf13,hkk13,hk⟩:=hq;refine fe ?_;refine T.loop (ι:=Nat) (fun z=>[(1, .pointer (some ⟨g1,0,none⟩)),(3, .int .i64 (i_7:Int)),(4, .pointer (some ⟨g4,0,none⟩)),(5, .int .i64 (z:Int))]) (fun z=>[.row g4 59 [.int .i64 ((cI p.Domains i_7).Station),(cI (cI cp_0 i_7) 1)], .row g1 31 [vp_0,vp_1,vp_2,vp_3], .fr F1]) (fun z=>dk f13 kk13 ((((cI p.Domains i_7).Channels).length) - z) z ()=some r) (fun z=>(((cI p.Domains i_7).Channels).length) - z) 0 ?_ ?_ ?_ ?_
        ·exact hk
        ·exact mD
        ·exact eX
        ·rintro k_14 hk;refine q3K ?_;refine cL (dp rfl rfl hd30_1 (List.length_map _)) ?_;refine dM ?_;refine T.cond rfl (fun h15=>?_) (fun h15=>?_)
         ·have p15:=of_decide_eq_true h15;rw [fK a6] at hk;generalize hn13:dk f13 kk13 ((((cI p.Domains i_7).Channels).length) - (k_14+1)) (k_14+1)=next13 at hk;rw [←hf13] at hk; (try dsimp only at hk);refine kB ?_;refine c6 (ι:=Unit) (fun z=>[(1, .pointer (some ⟨g1,0,none⟩)),(3, .int .i64 (i_7:Int)),(4, .pointer (some ⟨g4,0,none⟩)),(5, .int .i64 (k_14:Int)),(95, .bool (((decide ((cI ((cI p.Domains i_7).Channels) k_14)<2))||(decide (51<(cI ((cI p.Domains i_7).Channels) k_14))))||((decide (0<(k_14:Int)))&&(decide ((cI ((cI p.Domains i_7).Channels) k_14)≤(cI ((cI p.Domains i_7).Channels) (((k_14:Int) - 1).toNat)))))))]) (fun z=>[.row g4 59 [.int .i64 ((cI p.Domains i_7).Station),(cI (cI cp_0 i_7) 1)], .row g1 31 [vp_0,vp_1,vp_2,vp_3], .fr F1]) (fun z=>True) ?_ ?_
          ·refine dF (sN 0 31 (.still 31 .done)) _ a8 (List.Sublist.refl _) ?_;refine q1T ?_;refine gG ?_;refine dt rfl rfl rfl rfl (fun h16=>?_) (fun h16=>?_)
           ·have p16:=of_decide_eq_true h16;refine TS.run 25 rfl ?_;refine ij ?_;exact cP () trivial (.c (.c (.c (.c (.b (gk (gk h16)).symm .nil))))) (List.Sublist.refl _)
           ·have p16:=of_decide_eq_false h16;refine q1T ?_;refine ik ?_;refine dt rfl rfl rfl rfl (fun h17=>?_) (fun h17=>?_)
            ·have p17:=of_decide_eq_true h17;refine TS.run 17 rfl ?_;refine ij ?_;exact cP () trivial (.c (.c (.c (.c (.b (gk (iE h16 h17)).symm .nil))))) (List.Sublist.refl _)
            ·have p17:=of_decide_eq_false h17;refine ik ?_;refine dt rfl rfl rfl rfl (fun h18=>?_) (fun h18=>?_)
             ·have p18:=of_decide_eq_true h18;refine lB ?_;refine nm ?_;refine cO rfl (dd (i:=((k_14:Int) - 1).toNat) rfl rfl rfl hd30_1 (List.length_map _) a6 a6) ?_;refine cO rfl (dT 2 (i:=((k_14:Int) - 1).toNat) (j:=0) rfl rfl rfl hd30_1 a6) ?_;refine q1T ?_;refine mI ?_;exact cP () trivial (.c (.c (.c (.c (.b (Eq.trans (jI h18) (f9 (iE h16 h17))) .nil))))) (List.Sublist.refl _)
             ·have p18:=of_decide_eq_false h18;refine TS.run 14 rfl ?_;refine ij ?_;exact cP () trivial (.c (.c (.c (.c (.b (iE (iE h16 h17) (eH h18)).symm .nil))))) (List.Sublist.refl _)
          ·rintro _ _;refine T.cond rfl (fun h19=>?_) (fun h19=>?_)
           ·replace hk:=dy hk h19;refine gM ?_;refine cS (T.ret (eu (dV (dV (eu (eu (dV (dV (eu (dV ?_))))))))));obtain rfl:=Option.some.inj hk;exact eh
           ·have p19:=h19; (try simp only [cT] at p19);replace hk:=dz hk h19;refine gY ?_;rw [←hn13] at hk;exact K.next (k_14+1) hk a6 (.c (.c (.c (.c .nil)))) (List.Sublist.refl _)
         ·have p15:=of_decide_eq_false h15;rw [fL a6,←hkk13] at hk; (try dsimp only at hk);refine T.exit (ec (ec (fU (fv (K.seq (T.region ?_))))));refine di ?_;refine jQ ?_;rw [←hn6] at hk;refine lO ?_;exact K.next (i_7+1) hk a6 (.c (.c .nil)) (List.Sublist.refl _)
     ·have p8:=of_decide_eq_false h8;rw [fL a6,←hkk6] at hk; (try dsimp only at hk);refine fx ?_;exact q44
   ·rintro _ hk;rw [←hk5] at hk; (try dsimp only at hk);refine mm ?_;have hq:=eD hk;clear hk;obtain ⟨k20,hk20,hk⟩:=hq; (try dsimp only at hk);refine c6 (ι:=Unit) (fun z=>[(1, .pointer (some ⟨g1,0,none⟩))]) (fun z=>[.row g1 31 [vp_0,vp_1,vp_2,vp_3], .fr F1]) (fun z=>k20 ()=some r) ?_ ?_
    ·have hq:=fJ hk;clear hk;obtain ⟨f21,kk21,hf21,hkk21,hk⟩:=hq;refine fe ?_;refine T.loop (ι:=Nat) (fun z=>[(1, .pointer (some ⟨g1,0,none⟩)),(6, .int .i64 (z:Int))]) (fun z=>[.row g1 31 [vp_0,vp_1,vp_2,vp_3], .fr F1]) (fun z=>dk f21 kk21 (p.Rules.Pairs.length - z) z ()=some r) (fun z=>p.Rules.Pairs.length - z) 0 ?_ ?_ ?_ ?_
     ·exact hk
     ·exact q4H
     ·exact eX
     ·rintro i_22 hk;refine q12 ?_;refine q4m ?_;have hm100:p.Rules.Pairs.length≤9223372036854775807:=(List.length_map _)▸hp_1.max;refine dM ?_;refine T.cond rfl (fun h23=>?_) (fun h23=>?_)
      ·have p23:=of_decide_eq_true h23;rw [fK a6] at hk;generalize hn21:dk f21 kk21 (p.Rules.Pairs.length - (i_22+1)) (i_22+1)=next21 at hk;rw [←hf21] at hk; (try dsimp only at hk);refine kB ?_;refine c6 (ι:=Unit) (fun z=>[(1, .pointer (some ⟨g1,0,none⟩)),(6, .int .i64 (i_22:Int)),(125, .bool ((decide ((fH p ((cI p.Rules.Pairs i_22).A))<0))||(decide ((fH p ((cI p.Rules.Pairs i_22).B))<0))))]) (fun z=>[.row g1 31 [vp_0,vp_1,vp_2,vp_3], .fr F1]) (fun z=>True) ?_ ?_
       ·refine q13 ?_;refine q3W ?_;refine cO rfl (dT 1 (i:=i_22) (j:=0) rfl rfl rfl hp_1 a6) ?_;refine dw ?_;refine cR rfl (Wt.none) rfl rfl (cM rfl rfl rfl (fun w hw=>zcc _ w (hw.fr (i:=1) rfl) p vp_0 cp_0 hp_0 vp_1 hp_1 vp_2 hp_2 vp_3 hp_3 ((cI p.Rules.Pairs i_22).A))) ?_;refine q4k ?_;refine dt rfl rfl rfl rfl (fun h24=>?_) (fun h24=>?_)
        ·have p24:=of_decide_eq_true h24;refine TS.run 8 rfl ?_;refine gK ?_;refine jt ?_;exact cP () trivial (.c (.c (.b (gk h24).symm .nil))) (List.Sublist.refl _)
        ·have p24:=of_decide_eq_false h24;refine jf ?_;refine gg ?_;refine lB ?_;refine q3W ?_;refine cO rfl (dT 1 (i:=i_22) (j:=1) rfl rfl rfl hp_1 a6) ?_;refine dw ?_;refine cR rfl (Wt.some) rfl rfl (cM rfl rfl rfl (fun w hw=>zcc _ w (hw.fr (i:=1) rfl) p vp_0 cp_0 hp_0 vp_1 hp_1 vp_2 hp_2 vp_3 hp_3 ((cI p.Rules.Pairs i_22).B))) ?_;refine gJ ?_;refine jt ?_;exact cP () trivial (.c (.c (.b (f9 h24) .nil))) (List.Sublist.refl _)
       ·rintro _ _;refine T.cond rfl (fun h25=>?_) (fun h25=>?_)
        ·replace hk:=dy hk h25;refine iT ?_;obtain rfl:=Option.some.inj hk;exact eh
        ·have p25:=h25; (try simp only [cT] at p25);replace hk:=dz hk h25;refine gY ?_;rw [←hn21] at hk;exact K.next (i_22+1) hk a6 (.c (.c .nil)) (List.Sublist.refl _)
      ·have p23:=of_decide_eq_false h23;rw [fL a6,←hkk21] at hk; (try dsimp only at hk);refine fx ?_;exact q44
    ·rintro _ hk;rw [←hk20] at hk; (try dsimp only at hk);refine mm ?_;have hq:=eD hk;clear hk;obtain ⟨k26,hk26,hk⟩:=hq; (try dsimp only at hk);refine c6 (ι:=Unit) (fun z=>[(1, .pointer (some ⟨g1,0,none⟩))]) (fun z=>[.row g1 31 [vp_0,vp_1,vp_2,vp_3], .fr F1]) (fun z=>k26 ()=some r) ?_ ?_
     ·have hq:=fJ hk;clear hk;obtain ⟨f27,kk27,hf27,hkk27,hk⟩:=hq;refine fe ?_;refine T.loop (ι:=Nat) (fun z=>[(1, .pointer (some ⟨g1,0,none⟩)),(7, .int .i64 (z:Int))]) (fun z=>[.row g1 31 [vp_0,vp_1,vp_2,vp_3], .fr F1]) (fun z=>dk f27 kk27 (p.Rules.Loads.length - z) z ()=some r) (fun z=>p.Rules.Loads.length - z) 0 ?_ ?_ ?_ ?_
      ·exact hk
      ·exact q4H
      ·exact eX
      ·rintro i_28 hk;refine q3y ?_;have hm130:p.Rules.Loads.length≤9223372036854775807:=(List.length_map _)▸hp_2.max;refine dM ?_;refine T.cond rfl (fun h29=>?_) (fun h29=>?_)
       ·have p29:=of_decide_eq_true h29;rw [fK a6] at hk;generalize hn27:dk f27 kk27 (p.Rules.Loads.length - (i_28+1)) (i_28+1)=next27 at hk;rw [←hf27] at hk; (try dsimp only at hk);refine kB ?_;refine c6 (ι:=Unit) (fun z=>[(1, .pointer (some ⟨g1,0,none⟩)),(7, .int .i64 (i_28:Int)),(155, .bool ((decide ((fH p ((cI p.Rules.Loads i_28).To))<0))||(decide ((fH p ((cI p.Rules.Loads i_28).From))<0))))]) (fun z=>[.row g1 31 [vp_0,vp_1,vp_2,vp_3], .fr F1]) (fun z=>True) ?_ ?_
        ·refine q13 ?_;refine q3X ?_;refine cO rfl (dT 1 (i:=i_28) (j:=0) rfl rfl rfl hp_2 a6) ?_;refine dw ?_;refine cR rfl (Wt.none) rfl rfl (cM rfl rfl rfl (fun w hw=>zcc _ w (hw.fr (i:=1) rfl) p vp_0 cp_0 hp_0 vp_1 hp_1 vp_2 hp_2 vp_3 hp_3 ((cI p.Rules.Loads i_28).To))) ?_;refine q4k ?_;refine dt rfl rfl rfl rfl (fun h30=>?_) (fun h30=>?_)
         ·have p30:=of_decide_eq_true h30;refine TS.run 8 rfl ?_;refine gK ?_;refine jt ?_;exact cP () trivial (.c (.c (.b (gk h30).symm .nil))) (List.Sublist.refl _)
         ·have p30:=of_decide_eq_false h30;refine jf ?_;refine gg ?_;refine lB ?_;refine q3X ?_;refine cO rfl (dT 1 (i:=i_28) (j:=1) rfl rfl rfl hp_2 a6) ?_;refine dw ?_;refine cR rfl (Wt.some) rfl rfl (cM rfl rfl rfl (fun w hw=>zcc _ w (hw.fr (i:=1) rfl) p vp_0 cp_0 hp_0 vp_1 hp_1 vp_2 hp_2 vp_3 hp_3 ((cI p.Rules.Loads i_28).From))) ?_;refine gJ ?_;refine jt ?_;exact cP () trivial (.c (.c (.b (f9 h30) .nil))) (List.Sublist.refl _)
        ·rintro _ _;refine T.cond rfl (fun h31=>?_) (fun h31=>?_)
         ·replace hk:=dy hk h31;refine iT ?_;obtain rfl:=Option.some.inj hk;exact eh
         ·have p31:=h31; (try simp only [cT] at p31);replace hk:=dz hk h31;refine gY ?_;rw [←hn27] at hk;exact K.next (i_28+1) hk a6 (.c (.c .nil)) (List.Sublist.refl _)
       ·have p29:=of_decide_eq_false h29;rw [fL a6,←hkk27] at hk; (try dsimp only at hk);refine fx ?_;exact q44
     ·rintro _ hk;rw [←hk26] at hk; (try dsimp only at hk);refine mm ?_;have hq:=eD hk;clear hk;obtain ⟨k32,hk32,hk⟩:=hq; (try dsimp only at hk);refine c6 (ι:=Unit) (fun z=>[]) (fun z=>[.fr F1]) (fun z=>k32 ()=some r) ?_ ?_
      ·have hq:=fJ hk;clear hk;obtain ⟨f33,kk33,hf33,hkk33,hk⟩:=hq;refine fe ?_;refine T.loop (ι:=Nat) (fun z=>[(1, .pointer (some ⟨g1,0,none⟩)),(8, .int .i64 (z:Int))]) (fun z=>[.row g1 31 [vp_0,vp_1,vp_2,vp_3], .fr F1]) (fun z=>dk f33 kk33 (p.Rules.Caps.length - z) z ()=some r) (fun z=>p.Rules.Caps.length - z) 0 ?_ ?_ ?_ ?_
       ·exact hk
       ·exact q4H
       ·exact eX
       ·rintro i_34 hk;refine q12 ?_;refine q4o ?_;have hm160:p.Rules.Caps.length≤9223372036854775807:=(List.length_map _)▸hp_3.max;refine dM ?_;refine T.cond rfl (fun h35=>?_) (fun h35=>?_)
        ·have p35:=of_decide_eq_true h35;rw [fK a6] at hk;generalize hn33:dk f33 kk33 (p.Rules.Caps.length - (i_34+1)) (i_34+1)=next33 at hk;rw [←hf33] at hk; (try dsimp only at hk);refine q3v ?_;refine jf ?_;refine gg ?_;refine lB ?_;refine cO rfl (dd (i:=i_34) rfl rfl rfl hp_3 (List.length_map _) rfl a6) ?_;refine cO rfl (em rfl rfl hp_3 (List.length_map _) a6) ?_;refine cO rfl (dT 1 (i:=i_34) (j:=0) rfl rfl rfl hp_3 a6) ?_;refine dw ?_;refine cR rfl (Wt.none) rfl rfl (cM rfl rfl rfl (fun w hw=>zcc _ w (hw.fr (i:=1) rfl) p vp_0 cp_0 hp_0 vp_1 hp_1 vp_2 hp_2 vp_3 hp_3 ((cI p.Rules.Caps i_34).Station))) ?_;refine gJ ?_;refine kx ?_;refine T.cond rfl (fun h36=>?_) (fun h36=>?_)
         ·have p36:=of_decide_eq_true h36;replace hk:=dy hk h36;refine iT ?_;obtain rfl:=Option.some.inj hk;exact eh
         ·have p36:=of_decide_eq_false h36;replace hk:=dz hk h36;refine gY ?_;rw [←hn33] at hk;exact K.next (i_34+1) hk a6 (.c (.c .nil)) (List.Sublist.refl _)
        ·have p35:=of_decide_eq_false h35;rw [fL a6,←hkk33] at hk; (try dsimp only at hk);refine ni ?_;exact ks
      ·rintro _ hk;rw [←hk32] at hk; (try dsimp only at hk);refine kj ?_;obtain rfl:=Option.some.inj hk;exact eh
structure GViolation where
 Kind:Int
 At:Int
deriving DecidableEq,Inhabited
abbrev jz (x:GViolation):List Value:=[.int .i64 x.Kind, .int .i64 x.At]
theorem GViolation.len (x:GViolation):(jz x).length=2:=rfl
def zcy (fuel:Nat)(p:GProblem)(domains:Int)(rules:Int):Option Bool:=
 dQ (fun (_:Unit)=>
  some ((((decide ((p.Domains.length:Int)≤domains))&&(decide ((p.Rules.Pairs.length:Int)≤rules)))&&(decide ((p.Rules.Loads.length:Int)≤rules)))&&(decide ((p.Rules.Caps.length:Int)≤rules))))
 (fun k1=>
  iC (fun (next3:Int→Option Bool) (i_2:Int)=>
   (bif ((decide (i_2<(p.Domains.length:Int)))&&(decide (i_2<600))) then
    eG (0≤i_2∧i_2<(p.Domains.length:Int)) <|
    (bif decide (60<(((cI p.Domains i_2.toNat).Channels).length:Int)) then
     some false
     else
     next3 (i_2+1))
    else
    k1 ())) fuel 0)
theorem zhI (F0:Frz)(w:World)(hF0:F0.At w)(p:GProblem)(vp_0:Value)(cp_0:List (List Value))(hp_0:SlD cK F0 vp_0 2 cp_0 p.Domains)(vp_1:Value)(hp_1:SlC F0 vp_1 5 (p.Rules.Pairs.map cX))(vp_2:Value)(hp_2:SlC F0 vp_2 5 (p.Rules.Loads.map c4))(vp_3:Value)(hp_3:SlC F0 vp_3 4 (p.Rules.Caps.map dg))(domains:Int)(rules:Int)(fuel:Nat)(r:Bool)(hr:zcy fuel p domains rules=some r):Calls Tryz.prog 8 #[.agg [vp_0,vp_1,vp_2,vp_3].toArray, .int .i64 domains, .int .i64 rules] w fun e w'=>e= .returned (.bool r)∧Below w.heap.size w w':=by
 have hk:=hr;unfold zcy at hk;haveI:=hp_0.1.oneC;haveI:=hp_1.oneC;haveI:=hp_2.oneC;haveI:=hp_3.oneC;obtain ⟨S0,F1,rfl,hS0,hp0⟩:=fk hF0;refine dA Tryz.func8 rfl rfl rfl hp0 ?_;refine iL ?_;rintro _ _ ⟨g3,rfl,rfl⟩;refine q4l ?_;have hq:=eD hk;clear hk;obtain ⟨k1,hk1,hk⟩:=hq; (try dsimp only at hk);refine c6 (ι:=Unit) (fun z=>[(1, .int .i64 domains),(2, .int .i64 rules),(3, .pointer (some ⟨g3,0,none⟩))]) (fun z=>[.row g3 31 [vp_0,vp_1,vp_2,vp_3], .fr F1]) (fun z=>k1 ()=some r) ?_ ?_
 ·have hq:=zde hk;clear hk;obtain ⟨f3,hf3,hk⟩:=hq;refine fe ?_;refine T.loop (ι:=Nat×Int) (fun z=>[(1, .int .i64 domains),(2, .int .i64 rules),(3, .pointer (some ⟨g3,0,none⟩)),(7, .int .i64 z.2)]) (fun z=>[.row g3 31 [vp_0,vp_1,vp_2,vp_3], .fr F1]) (fun z=>iC f3 z.1 z.2=some r) (fun z=>z.1) (fuel,0) ?_ ?_ ?_ ?_
  ·exact hk
  ·exact mD
  ·exact eX
  ·rintro ⟨m_4,i_2⟩ hk; (try dsimp only at *);have hq:=zdH hk;clear hk;obtain ⟨m_4',rfl,hk⟩:=hq;generalize hn3:iC f3 m_4'=next3 at hk;rw [←hf3] at hk; (try dsimp only at hk);refine T.seq (T.seq ?_);refine c6 (ι:=Unit) (fun z=>[(1, .int .i64 domains),(2, .int .i64 rules),(3, .pointer (some ⟨g3,0,none⟩)),(7, .int .i64 i_2),(16, .bool ((decide (i_2<(p.Domains.length:Int)))&&(decide (i_2<600))))]) (fun z=>[.row g3 31 [vp_0,vp_1,vp_2,vp_3], .fr F1]) (fun z=>True) ?_ ?_
   ·refine fi ?_;refine iP ?_;refine q22 ?_;have hm11:p.Domains.length≤9223372036854775807:=hp_0.2.1▸hp_0.1.max;refine ef ?_;refine dj rfl rfl rfl (fun h5=>?_) (fun h5=>?_)
    ·have p5:=of_decide_eq_true h5;refine ft ?_;refine ep ?_;exact cP () trivial (.c (.c (.c (.c (.b (jI h5) .nil))))) (List.Sublist.refl _)
    ·have p5:=of_decide_eq_false h5;refine ft ?_;refine ep ?_;exact cP () trivial (.c (.c (.c (.c (.b (eH h5).symm .nil))))) (List.Sublist.refl _)
   ·rintro _ _;have hm11:p.Domains.length≤9223372036854775807:=hp_0.2.1▸hp_0.1.max;refine T.cond rfl (fun h6=>?_) (fun h6=>?_)
    ·have p6:=h6; (try simp only [cT] at p6);replace hk:=dy hk h6;refine kB ?_;have hq:(0≤i_2∧i_2<(p.Domains.length:Int))∧_:=gQ hk;clear hk;obtain ⟨g22,hk⟩:=hq; (try dsimp only at hk);refine fi ?_;refine mQ ?_;refine cL (dd (i:=i_2.toNat) rfl rfl rfl hp_0.1 hp_0.2.1 a6 a6) ?_;refine cL (em rfl rfl hp_0.1 hp_0.2.1 a6) ?_;refine cL (dq 1 (i:=i_2.toNat) (j:=1) rfl rfl rfl hp_0.1 hp_0.2.1 a6 rfl (GDomain.c1 (hp_0.2.2 i_2.toNat a6)).1) ?_;have hd24_1:=(GDomain.c1 (hp_0.2.2 i_2.toNat a6)).2;haveI:=hd24_1.oneC;refine cL (dp rfl rfl hd24_1 (List.length_map _)) ?_;have hm25:((cI p.Domains i_2.toNat).Channels).length≤9223372036854775807:=(List.length_map _)▸hd24_1.max;refine dM ?_;refine T.cond rfl (fun h7=>?_) (fun h7=>?_)
     ·have p7:=of_decide_eq_true h7;replace hk:=dy hk h7;refine iT ?_;obtain rfl:=Option.some.inj hk;exact eh
     ·have p7:=of_decide_eq_false h7;replace hk:=dz hk h7;refine gY ?_;rw [←hn3] at hk;exact K.next (m_4',(i_2+1)) hk b3 (.c (.c (.c (.c .nil)))) (List.Sublist.refl _)
    ·replace hk:=dz hk h6;refine fx ?_;exact cP () hk (.c (.c (.c .nil))) (List.Sublist.refl _)
 ·rintro _ hk;rw [←hk1] at hk; (try dsimp only at hk);refine T.seq ?_;refine c6 (ι:=Unit) (fun z=>[(6, .bool ((((decide ((p.Domains.length:Int)≤domains))&&(decide ((p.Rules.Pairs.length:Int)≤rules)))&&(decide ((p.Rules.Loads.length:Int)≤rules)))&&(decide ((p.Rules.Caps.length:Int)≤rules))))]) (fun z=>[.row g3 31 [vp_0,vp_1,vp_2,vp_3], .fr F1]) (fun z=>True) ?_ ?_
  ·refine fi ?_;refine eB ?_;refine q22 ?_;have hm29:p.Domains.length≤9223372036854775807:=hp_0.2.1▸hp_0.1.max;refine ft ?_;refine dj rfl rfl rfl (fun h8=>?_) (fun h8=>?_)
   ·have p8:=of_decide_eq_true h8;refine fg ?_;refine eB ?_;refine q4m ?_;have hm36:p.Rules.Pairs.length≤9223372036854775807:=(List.length_map _)▸hp_1.max;refine kV ?_;refine dj rfl rfl rfl (fun h9=>?_) (fun h9=>?_)
    ·have p9:=of_decide_eq_true h9;refine fg ?_;refine eB ?_;refine cL (dp rfl rfl hp_2 (List.length_map _)) ?_;have hm44:p.Rules.Loads.length≤9223372036854775807:=(List.length_map _)▸hp_2.max;refine kV ?_;refine dj rfl rfl rfl (fun h10=>?_) (fun h10=>?_)
     ·have p10:=of_decide_eq_true h10;refine fg ?_;refine eB ?_;refine q4o ?_;have hm52:p.Rules.Caps.length≤9223372036854775807:=(List.length_map _)▸hp_3.max;refine mn ?_;exact cP () trivial (.b (jI (fE (fE h8 h9) h10)) .nil) (List.Sublist.refl _)
     ·have p10:=of_decide_eq_false h10;refine TL.run 8 rfl ?_;refine ep ?_;exact cP () trivial (.b (eH (fE (fE h8 h9) h10)).symm .nil) (List.Sublist.refl _)
    ·have p9:=of_decide_eq_false h9;refine TL.run 16 rfl ?_;refine ep ?_;exact cP () trivial (.b (eH (eH (fE h8 h9))).symm .nil) (List.Sublist.refl _)
   ·have p8:=of_decide_eq_false h8;refine TL.run 24 rfl ?_;refine ep ?_;exact cP () trivial (.b (eH (eH (eH h8))).symm .nil) (List.Sublist.refl _)
  ·rintro _ _;have hm29:p.Domains.length≤9223372036854775807:=hp_0.2.1▸hp_0.1.max;have hm36:p.Rules.Pairs.length≤9223372036854775807:=(List.length_map _)▸hp_1.max;have hm44:p.Rules.Loads.length≤9223372036854775807:=(List.length_map _)▸hp_2.max;have hm52:p.Rules.Caps.length≤9223372036854775807:=(List.length_map _)▸hp_3.max;refine T.ret ?_;obtain rfl:=Option.some.inj hk;exact eh
def zbk (x_:GPair)(l:List GChoice):Bool:=
 (((((decide (¬(gR l x_.A)=0))&&(decide (¬(gR l x_.B)=0)))&&(decide (x_.Low≤(gR l x_.A))))&&(decide ((gR l x_.A)≤x_.High)))&&(decide ((gR l x_.B)=wI ((gR l x_.A)+x_.Offset))))
theorem zfd (F0:Frz)(w:World)(hF0:F0.At w)(x_:GPair)(l:List GChoice)(vl:Value)(hl:SlC F0 vl 2 (l.map cH)):Calls Tryz.prog 76 #[.agg [.int .i64 x_.A, .int .i64 x_.B, .int .i64 x_.Offset, .int .i64 x_.Low, .int .i64 x_.High].toArray,vl] w fun e w'=>e= .returned (.bool (zbk x_ l))∧Below w.heap.size w w':=by
 obtain ⟨r,hk⟩:∃r,zbk x_ l=r:=⟨_,rfl⟩;rw [hk];unfold zbk at hk;haveI:=hl.oneC;obtain ⟨S0,F1,rfl,hS0,hp0⟩:=fk hF0;refine dA Tryz.func76 rfl rfl rfl hp0 ?_;refine iL ?_;rintro _ _ ⟨g2,rfl,rfl⟩;refine jr ?_;refine dF (sN 0 3 (sN 4 3 (.eff 3 (.eff 7 (.still 8 (.still 9 .done)))))) _ a8 (List.Sublist.refl _) ?_;refine eY ?_;refine lB ?_;refine lR ?_;refine cR rfl (Wt.none) rfl rfl (cM rfl rfl rfl (fun w hw=>zdE _ w (hw.fr (i:=1) rfl) l vl hl x_.A)) ?_;refine gJ ?_;refine dw ?_;refine cR rfl (Wt.none) rfl rfl (cM rfl rfl rfl (fun w hw=>zdE _ w (hw.fr (i:=1) rfl) l vl hl x_.B)) ?_;refine gJ ?_;refine jt ?_;refine K.seq (T.seq ?_);refine c6 (ι:=Unit) (fun z=>[(4, .bool (((((decide (¬(gR l x_.A)=0))&&(decide (¬(gR l x_.B)=0)))&&(decide (x_.Low≤(gR l x_.A))))&&(decide ((gR l x_.A)≤x_.High)))&&(decide ((gR l x_.B)=wI ((gR l x_.A)+x_.Offset)))))]) (fun z=>[.row g2 69 [.int .i64 x_.A, .int .i64 x_.B, .int .i64 x_.Offset, .int .i64 x_.Low, .int .i64 x_.High], .fr F1]) (fun z=>True) ?_ ?_
 ·refine nv ?_;refine dj rfl rfl rfl (fun h1=>?_) (fun h1=>?_)
  ·have p1:=of_decide_eq_true h1;refine kV ?_;refine dj rfl rfl rfl (fun h2=>?_) (fun h2=>?_)
   ·have p2:=of_decide_eq_true h2;refine eB ?_;refine kV ?_;refine dj rfl rfl rfl (fun h3=>?_) (fun h3=>?_)
    ·have p3:=of_decide_eq_true h3;refine iP ?_;refine ft ?_;refine dj rfl rfl rfl (fun h4=>?_) (fun h4=>?_)
     ·have p4:=of_decide_eq_true h4;refine ef ?_;refine eB ?_;refine mn ?_;exact cP () trivial (.b (jI (fE (fE (fE h1 h2) h3) h4)) .nil) (List.Sublist.refl _)
     ·have p4:=of_decide_eq_false h4;refine TL.run 8 rfl ?_;refine ep ?_;exact cP () trivial (.b (eH (fE (fE (fE h1 h2) h3) h4)).symm .nil) (List.Sublist.refl _)
    ·have p3:=of_decide_eq_false h3;refine TL.run 14 rfl ?_;refine ep ?_;exact cP () trivial (.b (eH (eH (fE (fE h1 h2) h3))).symm .nil) (List.Sublist.refl _)
   ·have p2:=of_decide_eq_false h2;refine TL.run 20 rfl ?_;refine ep ?_;exact cP () trivial (.b (eH (eH (eH (fE h1 h2)))).symm .nil) (List.Sublist.refl _)
  ·have p1:=of_decide_eq_false h1;refine TL.run 24 rfl ?_;refine ep ?_;exact cP () trivial (.b (eH (eH (eH (eH h1)))).symm .nil) (List.Sublist.refl _)
 ·refine mM ?_;subst hk;exact eh
def zce (p:GProblem)(n:Int)(channel:Int)(l:List GChoice):Int:=
 dQ (fun (sum_1:Int)=>
  sum_1)
 (fun k2=>
  dk (fun (i_5:Nat) (next4:Int→Int) (sum_3:Int)=>
   (bif ((((decide ((cI p.Rules.Loads i_5).To=n))&&(decide ((gR l ((cI p.Rules.Loads i_5).From))=channel)))&&(decide ((cI p.Rules.Loads i_5).Low≤channel)))&&(decide (channel≤(cI p.Rules.Loads i_5).High))) then
    next4 (wI (sum_3+((cI p.Rules.Loads i_5).Weight)))
    else
    next4 sum_3))
  (fun (sum_3:Int)=>
   k2 sum_3) (p.Rules.Loads.length - 0) 0 0)
theorem ziB (F0:Frz)(w:World)(hF0:F0.At w)(p:GProblem)(vp_0:Value)(cp_0:List (List Value))(hp_0:SlD cK F0 vp_0 2 cp_0 p.Domains)(vp_1:Value)(hp_1:SlC F0 vp_1 5 (p.Rules.Pairs.map cX))(vp_2:Value)(hp_2:SlC F0 vp_2 5 (p.Rules.Loads.map c4))(vp_3:Value)(hp_3:SlC F0 vp_3 4 (p.Rules.Caps.map dg))(n:Int)(channel:Int)(l:List GChoice)(vl:Value)(hl:SlC F0 vl 2 (l.map cH)):Calls Tryz.prog 109 #[.agg [vp_0,vp_1,vp_2,vp_3].toArray, .int .i64 n, .int .i64 channel,vl] w fun e w'=>e= .returned (.int .i64 (zce p n channel l))∧Below w.heap.size w w':=by
 obtain ⟨r,hk⟩:∃r,zce p n channel l=r:=⟨_,rfl⟩;rw [hk];unfold zce at hk;haveI:=hp_0.1.oneC;haveI:=hp_1.oneC;haveI:=hp_2.oneC;haveI:=hp_3.oneC;haveI:=hl.oneC;obtain ⟨S0,F1,rfl,hS0,hp0⟩:=fk hF0;refine dA Tryz.func109 rfl rfl rfl hp0 ?_;refine iL ?_;rintro _ _ ⟨g4,rfl,rfl⟩;refine gn ?_;refine q4l ?_;have hq:=eD hk;clear hk;obtain ⟨k2,hk2,hk⟩:=hq; (try dsimp only at hk);refine c6 (ι:=Int) (fun z=>[(9, .int .i64 z)]) (fun z=>[.fr F1]) (fun z=>k2 z=r) ?_ ?_
 ·have hq:=fJ hk;clear hk;obtain ⟨f4,kk4,hf4,hkk4,hk⟩:=hq;refine fe ?_;refine T.loop (ι:=Nat×Int) (fun z=>[(1, .int .i64 n),(2, .int .i64 channel),(3,vl),(4, .pointer (some ⟨g4,0,none⟩)),(9, .int .i64 z.2),(10, .int .i64 (z.1:Int))]) (fun z=>[.row g4 31 [vp_0,vp_1,vp_2,vp_3], .fr F1]) (fun z=>dk f4 kk4 (p.Rules.Loads.length - z.1) z.1 z.2=r) (fun z=>p.Rules.Loads.length - z.1) (0,0) ?_ ?_ ?_ ?_
  ·exact hk
  ·exact q4Z
  ·exact eX
  ·rintro ⟨i_5,sum_3⟩ hk; (try dsimp only at *);refine q3y ?_;have hm16:p.Rules.Loads.length≤9223372036854775807:=(List.length_map _)▸hp_2.max;refine dM ?_;refine T.cond rfl (fun h6=>?_) (fun h6=>?_)
   ·have p6:=of_decide_eq_true h6;rw [fK a6] at hk;generalize hn4:dk f4 kk4 (p.Rules.Loads.length - (i_5+1)) (i_5+1)=next4 at hk;rw [←hf4] at hk; (try dsimp only at hk);refine q24 ?_;rintro _ _ ⟨g11,rfl,rfl⟩;refine ms ?_;refine c6 (ι:=Unit) (fun z=>[(1, .int .i64 n),(2, .int .i64 channel),(3,vl),(4, .pointer (some ⟨g4,0,none⟩)),(9, .int .i64 sum_3),(10, .int .i64 (i_5:Int)),(11, .pointer (some ⟨g11,0,none⟩)),(49, .bool ((((decide ((cI p.Rules.Loads i_5).To=n))&&(decide ((gR l ((cI p.Rules.Loads i_5).From))=channel)))&&(decide ((cI p.Rules.Loads i_5).Low≤channel)))&&(decide (channel≤(cI p.Rules.Loads i_5).High))))]) (fun z=>[.row g11 71 [.int .i64 ((cI p.Rules.Loads i_5).To), .int .i64 ((cI p.Rules.Loads i_5).From), .int .i64 ((cI p.Rules.Loads i_5).Weight), .int .i64 ((cI p.Rules.Loads i_5).Low), .int .i64 ((cI p.Rules.Loads i_5).High)], .row g4 31 [vp_0,vp_1,vp_2,vp_3], .fr F1]) (fun z=>True) ?_ ?_
    ·refine fi ?_;refine lr ?_;refine dj rfl rfl rfl (fun h7=>?_) (fun h7=>?_)
     ·have p7:=of_decide_eq_true h7;refine iP ?_;refine c8 (cM rfl rfl rfl (fun w hw=>zdE _ w (hw.fr (i:=2) rfl) l vl hl ((cI p.Rules.Loads i_5).From))) ?_;refine fG ?_;refine kV ?_;refine dj rfl rfl rfl (fun h8=>?_) (fun h8=>?_)
      ·have p8:=of_decide_eq_true h8;refine eB ?_;refine kV ?_;refine dj rfl rfl rfl (fun h9=>?_) (fun h9=>?_)
       ·have p9:=of_decide_eq_true h9;refine iP ?_;refine ef ?_;refine ep ?_;exact cP () trivial (.c (.c (.c (.c (.c (.c (.c (.b (jI (fE (fE h7 h8) h9)) .nil)))))))) (List.Sublist.refl _)
       ·have p9:=of_decide_eq_false h9;refine mO ?_;exact cP () trivial (.c (.c (.c (.c (.c (.c (.c (.b (eH (fE (fE h7 h8) h9)).symm .nil)))))))) (List.Sublist.refl _)
      ·have p8:=of_decide_eq_false h8;refine TL.run 11 rfl ?_;refine ep ?_;exact cP () trivial (.c (.c (.c (.c (.c (.c (.c (.b (eH (eH (fE h7 h8))).symm .nil)))))))) (List.Sublist.refl _)
     ·have p7:=of_decide_eq_false h7;refine TL.run 19 rfl ?_;refine ep ?_;exact cP () trivial (.c (.c (.c (.c (.c (.c (.c (.b (eH (eH (eH h7))).symm .nil)))))))) (List.Sublist.refl _)
    ·rintro _ _;refine T.cond rfl (fun h10=>?_) (fun h10=>?_)
     ·have p10:=h10; (try simp only [cT] at p10);replace hk:=dy hk h10;refine fi ?_;refine iP ?_;refine ef ?_;refine q38 ?_;rw [←hn4] at hk;refine lO ?_;exact K.next ((i_5+1),wI (sum_3+((cI p.Rules.Loads i_5).Weight))) hk b3 (.c (.c (.c (.c (.c (.c .nil)))))) (List.Sublist.refl _)
     ·replace hk:=dz hk h10;refine gY ?_;rw [←hn4] at hk;refine lO ?_;exact K.next ((i_5+1),sum_3) hk b3 (.c (.c (.c (.c (.c (.c .nil)))))) (List.Sublist.refl _)
   ·have p6:=of_decide_eq_false h6;rw [fL a6,←hkk4] at hk; (try dsimp only at hk);refine ni ?_;exact cP sum_3 hk (.c .nil) (List.Sublist.refl _)
 ·rintro sum_1 hk;rw [←hk2] at hk; (try dsimp only at hk);refine iv ?_;refine gj ?_;subst hk;exact eh
def zbs (p:GProblem)(x_:GCap)(l:List GChoice):Bool:=
 ((((decide (¬(gR l x_.Station)=0))&&(decide (x_.Low≤(gR l x_.Station))))&&(decide ((gR l x_.Station)≤x_.High)))&&(decide (x_.Max<(zce p x_.Station (gR l x_.Station) l))))
theorem zfB (F0:Frz)(w:World)(hF0:F0.At w)(p:GProblem)(vp_0:Value)(cp_0:List (List Value))(hp_0:SlD cK F0 vp_0 2 cp_0 p.Domains)(vp_1:Value)(hp_1:SlC F0 vp_1 5 (p.Rules.Pairs.map cX))(vp_2:Value)(hp_2:SlC F0 vp_2 5 (p.Rules.Loads.map c4))(vp_3:Value)(hp_3:SlC F0 vp_3 4 (p.Rules.Caps.map dg))(x_:GCap)(l:List GChoice)(vl:Value)(hl:SlC F0 vl 2 (l.map cH)):Calls Tryz.prog 77 #[.agg [vp_0,vp_1,vp_2,vp_3].toArray, .agg [.int .i64 x_.Station, .int .i64 x_.Max, .int .i64 x_.Low, .int .i64 x_.High].toArray,vl] w fun e w'=>e= .returned (.bool (zbs p x_ l))∧Below w.heap.size w w':=by
 obtain ⟨r,hk⟩:∃r,zbs p x_ l=r:=⟨_,rfl⟩;rw [hk];unfold zbs at hk;haveI:=hp_0.1.oneC;haveI:=hp_1.oneC;haveI:=hp_2.oneC;haveI:=hp_3.oneC;haveI:=hl.oneC;obtain ⟨S0,F1,rfl,hS0,hp0⟩:=fk hF0;refine dA Tryz.func77 rfl rfl rfl hp0 ?_;refine iL ?_;rintro _ _ ⟨g3,rfl,rfl⟩;refine c8 (dC) ?_;rintro _ _ ⟨g4,rfl,rfl⟩;refine gn ?_;refine iP ?_;refine c8 (cM rfl rfl rfl (fun w hw=>zdE _ w (hw.fr (i:=2) rfl) l vl hl x_.Station)) ?_;refine fG ?_;refine jr ?_;refine c6 (ι:=Unit) (fun z=>[(6, .bool ((((decide (¬(gR l x_.Station)=0))&&(decide (x_.Low≤(gR l x_.Station))))&&(decide ((gR l x_.Station)≤x_.High)))&&(decide (x_.Max<(zce p x_.Station (gR l x_.Station) l)))))]) (fun z=>[.row g4 73 [.int .i64 x_.Station, .int .i64 x_.Max, .int .i64 x_.Low, .int .i64 x_.High], .row g3 31 [vp_0,vp_1,vp_2,vp_3], .fr F1]) (fun z=>True) ?_ ?_
 ·refine dF (sN 0 20 (sN 21 2 (.eff 20 (sN 23 2 (.still 25 .done))))) _ a8 (List.Sublist.refl _) ?_;refine ik ?_;refine dt rfl rfl rfl rfl (fun h1=>?_) (fun h1=>?_)
  ·have p1:=of_decide_eq_true h1;refine gm ?_;refine TS.run 4 rfl ?_;refine dt rfl rfl rfl rfl (fun h2=>?_) (fun h2=>?_)
   ·have p2:=of_decide_eq_true h2;refine eY ?_;refine q4p ?_;refine dt rfl rfl rfl rfl (fun h3=>?_) (fun h3=>?_)
    ·have p3:=of_decide_eq_true h3;refine q3c ?_;refine gm ?_;refine gG ?_;refine lR ?_;refine cR rfl (Wt.some) rfl rfl (cM rfl rfl rfl (fun w hw=>ziB _ w (hw.fr (i:=2) rfl) p vp_0 cp_0 hp_0 vp_1 hp_1 vp_2 hp_2 vp_3 hp_3 x_.Station (gR l x_.Station) l vl hl)) ?_;refine gJ ?_;refine mI ?_;exact cP () trivial (.b (jI (fE (fE h1 h2) h3)) .nil) (List.Sublist.refl _)
    ·have p3:=of_decide_eq_false h3;refine q2Z ?_;refine mI ?_;exact cP () trivial (.b (eH (fE (fE h1 h2) h3)).symm .nil) (List.Sublist.refl _)
   ·have p2:=of_decide_eq_false h2;refine TS.run 13 rfl ?_;refine gK ?_;refine mI ?_;exact cP () trivial (.b (eH (eH (fE h1 h2))).symm .nil) (List.Sublist.refl _)
  ·have p1:=of_decide_eq_false h1;refine TS.run 19 rfl ?_;refine gK ?_;refine mI ?_;exact cP () trivial (.b (eH (eH (eH h1))).symm .nil) (List.Sublist.refl _)
 ·refine mM ?_;subst hk;exact eh
def zba (p:GProblem)(l:List GChoice)(all:Bool):GViolation:=
 dQ (fun (s3:Int×Int)=>
  dQ (fun (s16:Int×Int)=>
   dQ (fun (s25:Int×Int)=>
    dQ (fun (s34:Int×Int)=>
     (GViolation.mk 0 0))
    (fun k34=>
     dk (fun (i_38:Nat) (next37:(Int×Int)→GViolation) (s37:Int×Int)=>
      (bif (zbs p (cI p.Rules.Caps i_38) l) then
       (GViolation.mk 4 (i_38:Int))
       else
       next37 (s37.1,s37.2)))
     (fun (s37:Int×Int)=>
      k34 (s37.1,s37.2)) (p.Rules.Caps.length - 0) 0 (s25.1,s25.2)))
   (fun k25=>
    dk (fun (i_29:Nat) (next28:(Int×Int)→GViolation) (s28:Int×Int)=>
     (bif (zbk (cI p.Rules.Pairs i_29) l) then
      (GViolation.mk 3 (i_29:Int))
      else
      next28 (s28.1,s28.2)))
    (fun (s28:Int×Int)=>
     k25 (s28.1,s28.2)) (p.Rules.Pairs.length - 0) 0 (s16.1,s16.2)))
  (fun k16=>
   dk (fun (i_20:Nat) (next19:(Int×Int)→GViolation) (s19:Int×Int)=>
    (bif decide ((fH p ((cI l i_20).Station))<0) then
     (GViolation.mk 2 (i_20:Int))
     else
     next19 (s19.1,s19.2)))
   (fun (s19:Int×Int)=>
    k16 (s19.1,s19.2)) (l.length - 0) 0 (s3.1,s3.2)))
 (fun k3=>
  dk (fun (i_7:Nat) (next6:(Int×Int)→GViolation) (s6:Int×Int)=>
   (bif (((decide ((gR l ((cI p.Domains i_7).Station))=0))&&all)||((decide (¬(gR l ((cI p.Domains i_7).Station))=0))&&(!(l6 ((cI p.Domains i_7).Channels) (gR l ((cI p.Domains i_7).Station)))))) then
    (GViolation.mk 1 (i_7:Int))
    else
    next6 (s6.1,s6.2)))
  (fun (s6:Int×Int)=>
   k3 (s6.1,s6.2)) (p.Domains.length - 0) 0 (0,0))
theorem zhC (F0:Frz)(w:World)(hF0:F0.At w)(p:GProblem)(vp_0:Value)(cp_0:List (List Value))(hp_0:SlD cK F0 vp_0 2 cp_0 p.Domains)(vp_1:Value)(hp_1:SlC F0 vp_1 5 (p.Rules.Pairs.map cX))(vp_2:Value)(hp_2:SlC F0 vp_2 5 (p.Rules.Loads.map c4))(vp_3:Value)(hp_3:SlC F0 vp_3 4 (p.Rules.Caps.map dg))(l:List GChoice)(vl:Value)(hl:SlC F0 vl 2 (l.map cH))(all:Bool):Calls Tryz.prog 43 #[.agg [vp_0,vp_1,vp_2,vp_3].toArray,vl, .bool all] w fun e w'=>e= .returned (.agg [.int .i64 ((zba p l all).Kind), .int .i64 ((zba p l all).At)].toArray)∧Below w.heap.size w w':=by
 obtain ⟨r,hk⟩:∃r,zba p l all=r:=⟨_,rfl⟩;rw [hk];unfold zba at hk;haveI:=hp_0.1.oneC;haveI:=hp_1.oneC;haveI:=hp_2.oneC;haveI:=hp_3.oneC;haveI:=hl.oneC;obtain ⟨S0,F1,rfl,hS0,hp0⟩:=fk hF0;refine dA Tryz.func43 rfl rfl rfl hp0 ?_;refine iL ?_;rintro _ _ ⟨g3,rfl,rfl⟩;refine iD ?_;rintro _ _ ⟨g6,rfl,rfl⟩;refine lZ ?_;have hq:=eD hk;clear hk;obtain ⟨k3,hk3,hk⟩:=hq; (try dsimp only at hk);refine c6 (ι:=Int×Int) (fun z=>[(1,vl),(3, .pointer (some ⟨g3,0,none⟩)),(6, .pointer (some ⟨g6,0,none⟩))]) (fun z=>[.row g6 90 [.int .i64 z.1, .int .i64 z.2], .row g3 31 [vp_0,vp_1,vp_2,vp_3], .fr F1]) (fun z=>k3 (z.1,z.2)=r) ?_ ?_
 ·have hq:=fJ hk;clear hk;obtain ⟨f6,kk6,hf6,hkk6,hk⟩:=hq;refine fe ?_;refine T.loop (ι:=Nat×Int×Int) (fun z=>[(1,vl),(2, .bool all),(3, .pointer (some ⟨g3,0,none⟩)),(6, .pointer (some ⟨g6,0,none⟩)),(7, .int .i64 (z.1:Int))]) (fun z=>[.row g6 90 [.int .i64 z.2.1, .int .i64 z.2.2], .row g3 31 [vp_0,vp_1,vp_2,vp_3], .fr F1]) (fun z=>dk f6 kk6 (p.Domains.length - z.1) z.1 (z.2.1,z.2.2)=r) (fun z=>p.Domains.length - z.1) (0,0,0) ?_ ?_ ?_ ?_
  ·exact hk
  ·exact mt
  ·exact eX
  ·rintro ⟨i_7,c_4,c_5⟩ hk; (try dsimp only at *);refine T.seq (df ?_);refine di ?_;refine lz ?_;refine q22 ?_;have hm15:p.Domains.length≤9223372036854775807:=hp_0.2.1▸hp_0.1.max;refine dM ?_;refine T.cond rfl (fun h8=>?_) (fun h8=>?_)
   ·have p8:=of_decide_eq_true h8;rw [fK a6] at hk;generalize hn6:dk f6 kk6 (p.Domains.length - (i_7+1)) (i_7+1)=next6 at hk;rw [←hf6] at hk; (try dsimp only at hk);refine fS ?_;refine di ?_;refine q2i ?_;refine cL (dq 2 (i:=i_7) (j:=0) rfl rfl rfl hp_0.1 hp_0.2.1 a6 rfl (GDomain.c0 (hp_0.2.2 i_7 a6))) ?_;refine c8 (cM rfl rfl rfl (fun w hw=>zdE _ w (hw.fr (i:=2) rfl) l vl hl ((cI p.Domains i_7).Station))) ?_;refine fG ?_;refine jr ?_;refine c6 (ι:=Unit) (fun z=>[(1,vl),(2, .bool all),(3, .pointer (some ⟨g3,0,none⟩)),(6, .pointer (some ⟨g6,0,none⟩)),(7, .int .i64 (i_7:Int)),(46, .bool (((decide ((gR l ((cI p.Domains i_7).Station))=0))&&all)||((decide (¬(gR l ((cI p.Domains i_7).Station))=0))&&(!(l6 ((cI p.Domains i_7).Channels) (gR l ((cI p.Domains i_7).Station)))))))]) (fun z=>[.row g6 90 [.int .i64 c_4, .int .i64 c_5], .row g3 31 [vp_0,vp_1,vp_2,vp_3], .fr F1]) (fun z=>True) ?_ ?_
    ·refine nv ?_;refine dj rfl rfl rfl (fun h9=>?_) (fun h9=>?_)
     ·have p9:=of_decide_eq_true h9;refine ft ?_;refine dj rfl rfl rfl (fun h10=>?_) (fun h10=>?_)
      ·refine TL.run 14 rfl ?_;refine ep ?_;exact cP () trivial (.c (.c (.c (.c (.c (.b (gk (fE h9 h10)).symm .nil)))))) (List.Sublist.refl _)
      ·refine ft ?_;refine dj rfl rfl rfl (fun h11=>?_) (fun h11=>?_)
       ·have p11:=of_decide_eq_true h11;refine q4i ?_;have hd41_1:=(GDomain.c1 (hp_0.2.2 i_7 a6)).2;haveI:=hd41_1.oneC;refine q2Y ?_;exact cP () trivial (.c (.c (.c (.c (.c (.b (Eq.trans (jI h11) (f9 (fE h9 h10))) .nil)))))) (List.Sublist.refl _)
       ·have p11:=of_decide_eq_false h11;refine TL.run 11 rfl ?_;refine ep ?_;exact cP () trivial (.c (.c (.c (.c (.c (.b (iE (fE h9 h10) (eH h11)).symm .nil)))))) (List.Sublist.refl _)
     ·have p9:=of_decide_eq_false h9;refine TL.run 6 rfl ?_;refine dj rfl rfl rfl (fun h12=>?_) (fun h12=>?_)
      ·have p12:=of_decide_eq_true h12;refine q4i ?_;have hd41_1:=(GDomain.c1 (hp_0.2.2 i_7 a6)).2;haveI:=hd41_1.oneC;refine q2Y ?_;exact cP () trivial (.c (.c (.c (.c (.c (.b (Eq.trans (jI h12) (f9 (eH h9))) .nil)))))) (List.Sublist.refl _)
      ·have p12:=of_decide_eq_false h12;refine TL.run 11 rfl ?_;refine ep ?_;exact cP () trivial (.c (.c (.c (.c (.c (.b (iE (eH h9) (eH h12)).symm .nil)))))) (List.Sublist.refl _)
    ·rintro _ _;refine T.cond rfl (fun h13=>?_) (fun h13=>?_)
     ·replace hk:=dy hk h13;refine q4r ?_;subst hk;exact q4O
     ·replace hk:=dz hk h13;refine gY ?_;rw [←hn6] at hk;exact K.next ((i_7+1),c_4,c_5) hk b3 (.c (.c (.c (.c (.c .nil))))) (List.Sublist.refl _)
   ·have p8:=of_decide_eq_false h8;rw [fL a6,←hkk6] at hk; (try dsimp only at hk);refine fx ?_;exact cP (c_4,c_5) hk (.c (.c (.c .nil))) (List.Sublist.refl _)
 ·rintro ⟨c_1,c_2⟩ hk; (try dsimp only at *);rw [←hk3] at hk; (try dsimp only at hk);refine mm ?_;have hq:=eD hk;clear hk;obtain ⟨k16,hk16,hk⟩:=hq; (try dsimp only at hk);refine c6 (ι:=Int×Int) (fun z=>[(1,vl),(3, .pointer (some ⟨g3,0,none⟩)),(6, .pointer (some ⟨g6,0,none⟩))]) (fun z=>[.row g6 90 [.int .i64 z.1, .int .i64 z.2], .row g3 31 [vp_0,vp_1,vp_2,vp_3], .fr F1]) (fun z=>k16 (z.1,z.2)=r) ?_ ?_
  ·have hq:=fJ hk;clear hk;obtain ⟨f19,kk19,hf19,hkk19,hk⟩:=hq;refine fe ?_;refine T.loop (ι:=Nat×Int×Int) (fun z=>[(1,vl),(3, .pointer (some ⟨g3,0,none⟩)),(6, .pointer (some ⟨g6,0,none⟩)),(9, .int .i64 (z.1:Int))]) (fun z=>[.row g6 90 [.int .i64 z.2.1, .int .i64 z.2.2], .row g3 31 [vp_0,vp_1,vp_2,vp_3], .fr F1]) (fun z=>dk f19 kk19 (l.length - z.1) z.1 (z.2.1,z.2.2)=r) (fun z=>l.length - z.1) (0,c_1,c_2) ?_ ?_ ?_ ?_
   ·exact hk
   ·exact mD
   ·exact eX
   ·rintro ⟨i_20,c_17,c_18⟩ hk; (try dsimp only at *);refine iZ ?_;refine q2K ?_;have hm51:l.length≤9223372036854775807:=(List.length_map _)▸hl.max;refine dM ?_;refine T.cond rfl (fun h21=>?_) (fun h21=>?_)
    ·have p21:=of_decide_eq_true h21;rw [fK a6] at hk;generalize hn19:dk f19 kk19 (l.length - (i_20+1)) (i_20+1)=next19 at hk;rw [←hf19] at hk; (try dsimp only at hk);refine q3V ?_;refine q3c ?_;refine gG ?_;refine cO rfl (dd (i:=i_20) rfl rfl rfl hl (List.length_map _) rfl a6) ?_;refine cO rfl (em rfl rfl hl (List.length_map _) a6) ?_;refine cO rfl (dT 2 (i:=i_20) (j:=0) rfl rfl rfl hl a6) ?_;refine dw ?_;refine cR rfl (Wt.none) rfl rfl (cM rfl rfl rfl (fun w hw=>zcc _ w (hw.fr (i:=2) rfl) p vp_0 cp_0 hp_0 vp_1 hp_1 vp_2 hp_2 vp_3 hp_3 ((cI l i_20).Station))) ?_;refine gJ ?_;refine kx ?_;refine T.cond rfl (fun h22=>?_) (fun h22=>?_)
     ·have p22:=of_decide_eq_true h22;replace hk:=dy hk h22;refine q4r ?_;subst hk;exact q4O
     ·have p22:=of_decide_eq_false h22;replace hk:=dz hk h22;refine gY ?_;rw [←hn19] at hk;exact K.next ((i_20+1),c_17,c_18) hk b3 (.c (.c (.c (.c .nil)))) (List.Sublist.refl _)
    ·have p21:=of_decide_eq_false h21;rw [fL a6,←hkk19] at hk; (try dsimp only at hk);refine fx ?_;exact cP (c_17,c_18) hk (.c (.c (.c .nil))) (List.Sublist.refl _)
  ·rintro ⟨c_14,c_15⟩ hk; (try dsimp only at *);rw [←hk16] at hk; (try dsimp only at hk);refine mm ?_;have hq:=eD hk;clear hk;obtain ⟨k25,hk25,hk⟩:=hq; (try dsimp only at hk);refine c6 (ι:=Int×Int) (fun z=>[(1,vl),(3, .pointer (some ⟨g3,0,none⟩)),(6, .pointer (some ⟨g6,0,none⟩))]) (fun z=>[.row g6 90 [.int .i64 z.1, .int .i64 z.2], .row g3 31 [vp_0,vp_1,vp_2,vp_3], .fr F1]) (fun z=>k25 (z.1,z.2)=r) ?_ ?_
   ·have hq:=fJ hk;clear hk;obtain ⟨f28,kk28,hf28,hkk28,hk⟩:=hq;refine fe ?_;refine T.loop (ι:=Nat×Int×Int) (fun z=>[(1,vl),(3, .pointer (some ⟨g3,0,none⟩)),(6, .pointer (some ⟨g6,0,none⟩)),(10, .int .i64 (z.1:Int))]) (fun z=>[.row g6 90 [.int .i64 z.2.1, .int .i64 z.2.2], .row g3 31 [vp_0,vp_1,vp_2,vp_3], .fr F1]) (fun z=>dk f28 kk28 (p.Rules.Pairs.length - z.1) z.1 (z.2.1,z.2.2)=r) (fun z=>p.Rules.Pairs.length - z.1) (0,c_14,c_15) ?_ ?_ ?_ ?_
    ·exact hk
    ·exact mD
    ·exact eX
    ·rintro ⟨i_29,c_26,c_27⟩ hk; (try dsimp only at *);refine T.seq (df ?_);refine di ?_;refine fg ?_;refine lz ?_;refine q4m ?_;have hm69:p.Rules.Pairs.length≤9223372036854775807:=(List.length_map _)▸hp_1.max;refine dM ?_;refine T.cond rfl (fun h30=>?_) (fun h30=>?_)
     ·have p30:=of_decide_eq_true h30;rw [fK a6] at hk;generalize hn28:dk f28 kk28 (p.Rules.Pairs.length - (i_29+1)) (i_29+1)=next28 at hk;rw [←hf28] at hk; (try dsimp only at hk);refine fS ?_;refine fg ?_;refine lz ?_;refine di ?_;refine cL (dd (i:=i_29) rfl rfl rfl hp_1 (List.length_map _) rfl a6) ?_;refine cL (et 2 (i:=i_29) rfl rfl rfl hp_1 a6) ?_;refine di ?_;refine c8 (cM rfl rfl rfl (fun w hw=>zfd _ w (hw.fr (i:=2) rfl) (cI p.Rules.Pairs i_29) l vl hl)) ?_;refine fG ?_;refine cS ?_;refine T.cond rfl (fun h31=>?_) (fun h31=>?_)
      ·replace hk:=dy hk h31;refine q4r ?_;subst hk;exact q4O
      ·replace hk:=dz hk h31;refine gY ?_;rw [←hn28] at hk;exact K.next ((i_29+1),c_26,c_27) hk b3 (.c (.c (.c (.c .nil)))) (List.Sublist.refl _)
     ·have p30:=of_decide_eq_false h30;rw [fL a6,←hkk28] at hk; (try dsimp only at hk);refine fx ?_;exact cP (c_26,c_27) hk (.c (.c (.c .nil))) (List.Sublist.refl _)
   ·rintro ⟨c_23,c_24⟩ hk; (try dsimp only at *);rw [←hk25] at hk; (try dsimp only at hk);refine mm ?_;have hq:=eD hk;clear hk;obtain ⟨k34,hk34,hk⟩:=hq; (try dsimp only at hk);refine c6 (ι:=Int×Int) (fun z=>[(6, .pointer (some ⟨g6,0,none⟩))]) (fun z=>[.row g6 90 [.int .i64 z.1, .int .i64 z.2], .fr F1]) (fun z=>k34 (z.1,z.2)=r) ?_ ?_
    ·have hq:=fJ hk;clear hk;obtain ⟨f37,kk37,hf37,hkk37,hk⟩:=hq;refine fe ?_;refine T.loop (ι:=Nat×Int×Int) (fun z=>[(1,vl),(3, .pointer (some ⟨g3,0,none⟩)),(6, .pointer (some ⟨g6,0,none⟩)),(11, .int .i64 (z.1:Int))]) (fun z=>[.row g6 90 [.int .i64 z.2.1, .int .i64 z.2.2], .row g3 31 [vp_0,vp_1,vp_2,vp_3], .fr F1]) (fun z=>dk f37 kk37 (p.Rules.Caps.length - z.1) z.1 (z.2.1,z.2.2)=r) (fun z=>p.Rules.Caps.length - z.1) (0,c_23,c_24) ?_ ?_ ?_ ?_
     ·exact hk
     ·exact mD
     ·exact eX
     ·rintro ⟨i_38,c_35,c_36⟩ hk; (try dsimp only at *);refine T.seq (df ?_);refine di ?_;refine fg ?_;refine lz ?_;refine q4o ?_;have hm87:p.Rules.Caps.length≤9223372036854775807:=(List.length_map _)▸hp_3.max;refine dM ?_;refine T.cond rfl (fun h39=>?_) (fun h39=>?_)
      ·have p39:=of_decide_eq_true h39;rw [fK a6] at hk;generalize hn37:dk f37 kk37 (p.Rules.Caps.length - (i_38+1)) (i_38+1)=next37 at hk;rw [←hf37] at hk; (try dsimp only at hk);refine kB ?_;refine dF (sN 0 8 (.eff 8 .done)) _ a8 (List.Sublist.refl _) ?_;refine q3c ?_;refine gg ?_;refine gg ?_;refine q2B ?_;refine cO rfl (dd (i:=i_38) rfl rfl rfl hp_3 (List.length_map _) rfl a6) ?_;refine cO rfl (et 2 (i:=i_38) rfl rfl rfl hp_3 a6) ?_;refine eY ?_;refine dw ?_;refine cR rfl (Wt.none) rfl rfl (cM rfl rfl rfl (fun w hw=>zfB _ w (hw.fr (i:=2) rfl) p vp_0 cp_0 hp_0 vp_1 hp_1 vp_2 hp_2 vp_3 hp_3 (cI p.Rules.Caps i_38) l vl hl)) ?_;refine gJ ?_;refine ij ?_;refine K.seq ?_;refine T.cond rfl (fun h40=>?_) (fun h40=>?_)
       ·replace hk:=dy hk h40;refine q4r ?_;subst hk;exact q4O
       ·replace hk:=dz hk h40;refine gY ?_;rw [←hn37] at hk;exact K.next ((i_38+1),c_35,c_36) hk b3 (.c (.c (.c (.c .nil)))) (List.Sublist.refl _)
      ·have p39:=of_decide_eq_false h39;rw [fL a6,←hkk37] at hk; (try dsimp only at hk);refine fx ?_;refine K.pick [0,2] rfl a7 ?_;exact cP (c_35,c_36) hk (.c .nil) (List.Sublist.refl _)
    ·rintro ⟨c_32,c_33⟩ hk; (try dsimp only at *);rw [←hk34] at hk; (try dsimp only at hk);refine df ?_;refine jo ?_;refine jW ?_;refine gj ?_;subst hk;exact q4O
def zbD (p:GProblem)(l:List GChoice):Bool:=
 ((mr l)&&(decide ((zba p l true).Kind=0)&&decide ((zba p l true).At=0)))
theorem zfN (F0:Frz)(w:World)(hF0:F0.At w)(p:GProblem)(vp_0:Value)(cp_0:List (List Value))(hp_0:SlD cK F0 vp_0 2 cp_0 p.Domains)(vp_1:Value)(hp_1:SlC F0 vp_1 5 (p.Rules.Pairs.map cX))(vp_2:Value)(hp_2:SlC F0 vp_2 5 (p.Rules.Loads.map c4))(vp_3:Value)(hp_3:SlC F0 vp_3 4 (p.Rules.Caps.map dg))(l:List GChoice)(vl:Value)(hl:SlC F0 vl 2 (l.map cH)):Calls Tryz.prog 19 #[.agg [vp_0,vp_1,vp_2,vp_3].toArray,vl] w fun e w'=>e= .returned (.bool (zbD p l))∧Below w.heap.size w w':=by
 obtain ⟨r,hk⟩:∃r,zbD p l=r:=⟨_,rfl⟩;rw [hk];unfold zbD at hk;haveI:=hp_0.1.oneC;haveI:=hp_1.oneC;haveI:=hp_2.oneC;haveI:=hp_3.oneC;haveI:=hl.oneC;obtain ⟨S0,F1,rfl,hS0,hp0⟩:=fk hF0;refine dA Tryz.func19 rfl rfl rfl hp0 ?_;refine iL ?_;rintro _ _ ⟨g2,rfl,rfl⟩;refine jr ?_;refine c6 (ι:=Unit) (fun z=>[(4, .bool ((mr l)&&(decide ((zba p l true).Kind=0)&&decide ((zba p l true).At=0))))]) (fun z=>[.row g2 31 [vp_0,vp_1,vp_2,vp_3], .fr F1]) (fun z=>True) ?_ ?_
 ·refine jE ?_;refine c8 (cM rfl rfl rfl (fun w hw=>zcM _ w (hw.fr (i:=1) rfl) l vl hl)) ?_;refine mh ?_;refine dj rfl rfl rfl (fun h1=>?_) (fun h1=>?_)
  ·refine iN ?_;refine di ?_;refine c8 (cM rfl rfl rfl (fun w hw=>zhC _ w (hw.fr (i:=1) rfl) p vp_0 cp_0 hp_0 vp_1 hp_1 vp_2 hp_2 vp_3 hp_3 l vl hl true)) ?_;refine fG ?_;refine jo ?_;refine cL (Yv.ck a8 rfl rfl rfl) ?_;refine ef ?_;refine ep ?_;exact q4P
  ·refine TL.run 7 rfl ?_;refine ep ?_;exact q4K
 ·refine mM ?_;subst hk;exact eh
end Go.Proofs.YtgoeeefoinkepaaGreatDoor
