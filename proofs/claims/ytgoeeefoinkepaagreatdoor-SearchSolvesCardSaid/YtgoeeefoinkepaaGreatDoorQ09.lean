/- Yb Yc Yn Sk: shortened and put together by squeeze.py. -/
import Derived.Test.YtgoeeefoinkepaaGreatDoorQ08
set_option maxRecDepth 100000
set_option maxHeartbeats 4000000
set_option linter.unusedVariables false
set_option linter.unusedSectionVars false
set_option linter.unusedSimpArgs false
namespace Go.Proofs.YtgoeeefoinkepaaGreatDoor
open Go.RowKit
theorem b7 {p:Prop}(h:p:=by rw [Vec.len];first|omega|(simp only [List.length_cons,List.length_nil];omega)):p:=h
def zbD (r_:GRules):Option Bool:=
 (bif (((decide (4096<(r_.Pairs.length:Int)))||(decide (1024<(r_.Loads.length:Int))))||(decide (1024<(r_.Caps.length:Int)))) then
  some false
  else
  dV (fun (_:Unit)=>
   dV (fun (_:Unit)=>
    dV (fun (_:Unit)=>
     some true)
    (fun k32=>
     di (fun (i_34:Nat) (next33:Unit→Option Bool) (_:Unit)=>
      dV (fun (x_36:Bool)=>
       (bif x_36 then
        some false
        else
        next33 ()))
      (fun k37=>
       (bif !(ko ((cH r_.Caps i_34).Station)) then
        k37 true
        else
        (bif decide ((cH r_.Caps i_34).Max<0) then
         k37 true
         else
         (bif decide (1099511627776<(cH r_.Caps i_34).Max) then
          k37 true
          else
          (bif !(mW ((cH r_.Caps i_34).Low) ((cH r_.Caps i_34).High)) then
           k37 true
           else
           (bif decide (0<(i_34:Int)) then
            (zbo (lL (cH r_.Caps (((i_34:Int) - 1).toNat))) (lL (cH r_.Caps i_34))).bind fun r200=>
            k37 (!r200)
            else
            k37 false)))))))
     (fun (_:Unit)=>
      k32 ()) (r_.Caps.length - 0) 0 ()))
   (fun k18=>
    di (fun (i_20:Nat) (next19:Unit→Option Bool) (_:Unit)=>
     dV (fun (x_22:Bool)=>
      (bif x_22 then
       some false
       else
       next19 ()))
     (fun k23=>
      (bif !(ko ((cH r_.Loads i_20).To)) then
       k23 true
       else
       (bif !(ko ((cH r_.Loads i_20).From)) then
        k23 true
        else
        (bif decide ((cH r_.Loads i_20).To=(cH r_.Loads i_20).From) then
         k23 true
         else
         (bif decide ((cH r_.Loads i_20).Weight<1) then
          k23 true
          else
          (bif decide (1073741824<(cH r_.Loads i_20).Weight) then
           k23 true
           else
           (bif !(mW ((cH r_.Loads i_20).Low) ((cH r_.Loads i_20).High)) then
            k23 true
            else
            (bif decide (0<(i_20:Int)) then
             (zbo (lN (cH r_.Loads (((i_20:Int) - 1).toNat))) (lN (cH r_.Loads i_20))).bind fun r149=>
             k23 (!r149)
             else
             k23 false)))))))))
    (fun (_:Unit)=>
     k18 ()) (r_.Loads.length - 0) 0 ()))
  (fun k4=>
   di (fun (i_6:Nat) (next5:Unit→Option Bool) (_:Unit)=>
    dV (fun (x_8:Bool)=>
     (bif x_8 then
      some false
      else
      next5 ()))
    (fun k9=>
     (bif !(ko ((cH r_.Pairs i_6).A)) then
      k9 true
      else
      (bif !(ko ((cH r_.Pairs i_6).B)) then
       k9 true
       else
       (bif decide ((cH r_.Pairs i_6).B≤(cH r_.Pairs i_6).A) then
        k9 true
        else
        (bif decide ((cH r_.Pairs i_6).Offset<(-1)) then
         k9 true
         else
         (bif decide (1<(cH r_.Pairs i_6).Offset) then
          k9 true
          else
          (bif !(mW ((cH r_.Pairs i_6).Low) ((cH r_.Pairs i_6).High)) then
           k9 true
           else
           (bif decide (0<(i_6:Int)) then
            (zbo (lF (cH r_.Pairs (((i_6:Int) - 1).toNat))) (lF (cH r_.Pairs i_6))).bind fun r85=>
            k9 (!r85)
            else
            k9 false)))))))))
   (fun (_:Unit)=>
    k4 ()) (r_.Pairs.length - 0) 0 ()))
theorem ze0 (F0:Frz)(w:World)(hF0:F0.At w)(r_:GRules)(vr__0:Value)(hr__0:SlC F0 vr__0 5 (r_.Pairs.map cY))(vr__1:Value)(hr__1:SlC F0 vr__1 5 (r_.Loads.map c4))(vr__2:Value)(hr__2:SlC F0 vr__2 4 (r_.Caps.map dk))(r:Bool)(hr:zbD r_=some r):Calls Tryz.prog 30 #[.agg [vr__0,vr__1,vr__2].toArray] w fun e w'=>e= .returned (.bool r)∧Below w.heap.size w w':=by
 have hk:=hr;unfold zbD at hk;haveI:=hr__0.oneC;haveI:=hr__1.oneC;haveI:=hr__2.oneC;obtain ⟨S0,F1,rfl,hS0,hp0⟩:=fx hF0;refine dz Tryz.func30 rfl rfl rfl hp0 ?_;refine iW ?_;rintro _ _ ⟨g1,rfl,rfl⟩;refine q2N ?_;refine dc (ι:=Unit) (fun z=>[(1, .pointer (some ⟨g1,0,none⟩)),(24, .bool (((decide (4096<(r_.Pairs.length:Int)))||(decide (1024<(r_.Loads.length:Int))))||(decide (1024<(r_.Caps.length:Int)))))]) (fun z=>[.row g1 29 [vr__0,vr__1,vr__2], .fr F1]) (fun z=>True) ?_ ?_
 ·refine fP ?_;refine eM ?_;refine cK (dg rfl rfl hr__0 (List.length_map _)) ?_;have hm11:r_.Pairs.length≤9223372036854775807:=(List.length_map _)▸hr__0.max;refine ed ?_;refine dB rfl rfl rfl (fun h1=>?_) (fun h1=>?_)
  ·have p1:=of_decide_eq_true h1;refine TL.run 11 rfl ?_;refine eV ?_;exact cO () trivial (.c (.b (fW (fW h1)).symm .nil)) (List.Sublist.refl _)
  ·have p1:=of_decide_eq_false h1;refine eM ?_;refine cK (dg rfl rfl hr__1 (List.length_map _)) ?_;have hm16:r_.Loads.length≤9223372036854775807:=(List.length_map _)▸hr__1.max;refine fH ?_;refine dB rfl rfl rfl (fun h2=>?_) (fun h2=>?_)
   ·have p2:=of_decide_eq_true h2;refine q2W ?_;exact cO () trivial (.c (.b (fW (gU h1 h2)).symm .nil)) (List.Sublist.refl _)
   ·have p2:=of_decide_eq_false h2;refine eM ?_;refine cK (dg rfl rfl hr__2 (List.length_map _)) ?_;have hm22:r_.Caps.length≤9223372036854775807:=(List.length_map _)▸hr__2.max;refine ed ?_;refine eV ?_;exact cO () trivial (.c (.b (gH (gU h1 h2)) .nil)) (List.Sublist.refl _)
 ·rintro _ _;have hm11:r_.Pairs.length≤9223372036854775807:=(List.length_map _)▸hr__0.max;have hm16:r_.Loads.length≤9223372036854775807:=(List.length_map _)▸hr__1.max;have hm22:r_.Caps.length≤9223372036854775807:=(List.length_map _)▸hr__2.max;refine T.cond rfl (fun h3=>?_) (fun h3=>?_)
  ·replace hk:=dC hk h3;refine jc ?_;obtain rfl:=Option.some.inj hk;exact eA
  ·have p3:=h3; (try simp only [cS] at p3);replace hk:=dD hk h3;refine ku ?_;refine dJ ?_;have hq:=eE hk;clear hk;obtain ⟨k4,hk4,hk⟩:=hq; (try dsimp only at hk);refine dc (ι:=FzB w (fun _=>False) S0) (fun z=>[(1, .pointer (some ⟨g1,0,none⟩))]) (fun z=>[.row g1 29 [vr__0,vr__1,vr__2], .fr z]) (fun z=>k4 ()=some r∧F1.toFrz.Le z.toFrz) ?_ ?_
   ·have hq:=fJ hk;clear hk;obtain ⟨f5,kk5,hf5,hkk5,hk⟩:=hq;refine eY ?_;refine T.loop (ι:=Nat×FzB w (fun _=>False) S0) (fun z=>[(1, .pointer (some ⟨g1,0,none⟩)),(3, .int .i64 (z.1:Int))]) (fun z=>[.row g1 29 [vr__0,vr__1,vr__2], .fr z.2]) (fun z=>di f5 kk5 (r_.Pairs.length - z.1) z.1 ()=some r∧F1.toFrz.Le z.2.toFrz) (fun z=>r_.Pairs.length - z.1) (0,F1) ?_ ?_ ?_ ?_
    ·exact ⟨hk,(Frz.Le.refl _)⟩
    ·exact q4D
    ·exact eN
    ·rintro ⟨i_6,F3⟩ ⟨hk,le1_3⟩; (try dsimp only at *);refine q4b ?_;refine cK (dg rfl rfl (SlC.mono hr__0 le1_3) (List.length_map _)) ?_;refine dJ ?_;refine T.cond rfl (fun h7=>?_) (fun h7=>?_)
     ·have p7:=of_decide_eq_true h7;rw [fK a6] at hk;generalize hn5:di f5 kk5 (r_.Pairs.length - (i_6+1)) (i_6+1)=next5 at hk;rw [←hf5] at hk; (try dsimp only at hk);refine fU ?_;refine mD ?_;refine cK (c7 (i:=i_6) rfl rfl rfl (SlC.mono hr__0 le1_3) (List.length_map _) rfl a6) ?_;refine cK (ei 1 (i:=i_6) rfl rfl rfl (SlC.mono hr__0 le1_3) a6) ?_;refine gR ?_;rintro _ _ ⟨g4,rfl,rfl⟩;refine mB ?_; (try dsimp only at hk);have hq:=eE hk;clear hk;obtain ⟨k9,hk9,hk⟩:=hq; (try dsimp only at hk);refine dc (ι:=Bool×FzB w (fun _=>False) S0) (fun z=>[(1, .pointer (some ⟨g1,0,none⟩)),(3, .int .i64 (i_6:Int)),(88, .bool z.1)]) (fun z=>[.row g1 29 [vr__0,vr__1,vr__2], .fr z.2]) (fun z=>k9 z.1=some r∧F3.toFrz.Le z.2.toFrz) ?_ ?_
      ·refine q1c ?_;refine cQ rfl (Wt.none) rfl rfl (cL rfl rfl rfl (fun w hw=>zbv _ w (hw.fr (i:=2) rfl) ((cH r_.Pairs i_6).A))) ?_;refine mb ?_;refine dw rfl rfl rfl rfl (fun h10=>?_) (fun h10=>?_)
       ·replace hk:=dC hk h10;refine fj ?_;refine ie ?_;refine TS.run 24 rfl ?_;refine lX ?_;exact q4G
       ·replace hk:=dD hk h10;refine mo ?_;refine cQ rfl (Wt.some) rfl rfl (cL rfl rfl rfl (fun w hw=>zbv _ w (hw.fr (i:=2) rfl) ((cH r_.Pairs i_6).B))) ?_;refine i6 ?_;refine fM ?_;refine dw rfl rfl rfl rfl (fun h11=>?_) (fun h11=>?_)
        ·replace hk:=dC hk h11;refine TS.run 21 rfl ?_;refine lX ?_;exact q4G
        ·replace hk:=dD hk h11;refine fg ?_;refine fg ?_;refine fM ?_;refine dw rfl rfl rfl rfl (fun h12=>?_) (fun h12=>?_)
         ·have p12:=of_decide_eq_true h12;replace hk:=dC hk h12;refine TS.run 14 rfl ?_;refine lX ?_;exact q4G
         ·have p12:=of_decide_eq_false h12;replace hk:=dD hk h12;refine fg ?_;refine fM ?_;refine dw rfl rfl rfl rfl (fun h13=>?_) (fun h13=>?_)
          ·have p13:=of_decide_eq_true h13;replace hk:=dC hk h13;refine TS.run 9 rfl ?_;refine lX ?_;exact q4G
          ·have p13:=of_decide_eq_false h13;replace hk:=dD hk h13;refine fg ?_;refine fM ?_;refine dw rfl rfl rfl rfl (fun h14=>?_) (fun h14=>?_)
           ·have p14:=of_decide_eq_true h14;replace hk:=dC hk h14;refine TS.run 4 rfl ?_;refine lX ?_;exact q4G
           ·have p14:=of_decide_eq_false h14;replace hk:=dD hk h14;refine fg ?_;refine mo ?_;refine cQ rfl (Wt.some) rfl rfl (cL rfl rfl rfl (fun w hw=>zee _ w (hw.fr (i:=2) rfl) ((cH r_.Pairs i_6).Low) ((cH r_.Pairs i_6).High))) ?_;refine i6 ?_;refine fM ?_;refine dw rfl rfl rfl rfl (fun h15=>?_) (fun h15=>?_)
            ·replace hk:=dC hk h15;refine TS.run 10 rfl ?_;refine q0d ?_;exact q4G
            ·replace hk:=dD hk h15;refine fM ?_;refine dw rfl rfl rfl rfl (fun h16=>?_) (fun h16=>?_)
             ·have p16:=of_decide_eq_true h16;replace hk:=dC hk h16;refine gy ?_;refine q2v ?_;refine na ?_;refine cN rfl (c7 (i:=((i_6:Int) - 1).toNat) rfl rfl rfl (SlC.mono hr__0 le1_3) (List.length_map _) a6 a6) ?_;refine cN rfl (ei 2 (i:=((i_6:Int) - 1).toNat) rfl rfl rfl (SlC.mono hr__0 le1_3) a6) ?_;refine iU ?_;refine dt ?_;refine cQ rfl (Wt.some) rfl rfl (eo 2 rfl rfl rfl rfl (fun w hw hF=>zeA _ w hF (cH r_.Pairs (((i_6:Int) - 1).toNat)))) ?_;rintro _ _ ⟨v82_0_0,F5,le3_5,hf82_0_0,hq,rfl⟩;obtain rfl:=hq.symm;haveI:=hf82_0_0.oneC;refine q28 ?_;refine dt ?_;refine cQ rfl (Wt.some) rfl rfl (eo 2 rfl rfl rfl rfl (fun w hw hF=>zeA _ w hF (cH r_.Pairs i_6))) ?_;rintro _ _ ⟨v84_0_0,F6,le5_6,hf84_0_0,hq,rfl⟩;obtain rfl:=hq.symm;have le3_6:=le3_5.trans le5_6;haveI:=hf84_0_0.oneC;refine ⟨(fun w hw=>(hw.frLe (i:=2) rfl le3_6).sub Sx),?_⟩;refine dt ?_;have hq:=eO hk;clear hk;obtain ⟨r85,hr85,hk⟩:=hq;refine cQ rfl (Wt.some) rfl rfl (cL rfl rfl rfl (fun w hw=>zek _ w (hw.fr (i:=2) rfl) (lF (cH r_.Pairs (((i_6:Int) - 1).toNat))) v82_0_0 (SlC.mono hf82_0_0 le5_6) (lF (cH r_.Pairs i_6)) v84_0_0 hf84_0_0 r85 hr85)) ?_;refine eW ?_;refine ⟨(fun w hw=>(hw.frLe (i:=2) rfl le3_6).sub Sx),?_⟩;refine fM ?_;refine eX ?_;refine mf ?_;exact cO (!r85,F6) ⟨hk,le3_6⟩ (.c (.c (.c .nil))) (List.Sublist.refl _)
             ·have p16:=of_decide_eq_false h16;replace hk:=dD hk h16;refine q3a ?_;exact cO (false,F3) ⟨hk,(Frz.Le.refl _)⟩ (.c (.c (.c .nil))) (List.Sublist.refl _)
      ·rintro ⟨x_8,F4⟩ ⟨hk,le3_4⟩; (try dsimp only at *);rw [←hk9] at hk; (try dsimp only at hk);have le1_4:=le1_3.trans le3_4;refine T.cond rfl (fun h17=>?_) (fun h17=>?_)
       ·replace hk:=dC hk h17;refine iX ?_;obtain rfl:=Option.some.inj hk;exact eA
       ·replace hk:=dD hk h17;refine gV ?_;rw [←hn5] at hk;exact K.next ((i_6+1),F4) ⟨hk,le1_4⟩ b3 (.c (.c .nil)) (List.Sublist.refl _)
     ·have p7:=of_decide_eq_false h7;rw [fL a6,←hkk5] at hk; (try dsimp only at hk);refine ft ?_;exact cO F3 ⟨hk,le1_3⟩ (.c .nil) (List.Sublist.refl _)
   ·rintro F2 ⟨hk,le1_2⟩;rw [←hk4] at hk; (try dsimp only at hk);refine q2X ?_;have hq:=eE hk;clear hk;obtain ⟨k18,hk18,hk⟩:=hq; (try dsimp only at hk);refine dc (ι:=FzB w (fun _=>False) S0) (fun z=>[(1, .pointer (some ⟨g1,0,none⟩))]) (fun z=>[.row g1 29 [vr__0,vr__1,vr__2], .fr z]) (fun z=>k18 ()=some r∧F2.toFrz.Le z.toFrz) ?_ ?_
    ·have hq:=fJ hk;clear hk;obtain ⟨f19,kk19,hf19,hkk19,hk⟩:=hq;refine eY ?_;refine T.loop (ι:=Nat×FzB w (fun _=>False) S0) (fun z=>[(1, .pointer (some ⟨g1,0,none⟩)),(5, .int .i64 (z.1:Int))]) (fun z=>[.row g1 29 [vr__0,vr__1,vr__2], .fr z.2]) (fun z=>di f19 kk19 (r_.Loads.length - z.1) z.1 ()=some r∧F2.toFrz.Le z.2.toFrz) (fun z=>r_.Loads.length - z.1) (0,F2) ?_ ?_ ?_ ?_
     ·exact ⟨hk,(Frz.Le.refl _)⟩
     ·exact q4D
     ·exact eN
     ·rintro ⟨i_20,F8⟩ ⟨hk,le2_8⟩; (try dsimp only at *);have le1_8:=le1_2.trans le2_8;refine q4b ?_;refine cK (dg rfl rfl (SlC.mono hr__1 le1_8) (List.length_map _)) ?_;refine dJ ?_;refine T.cond rfl (fun h21=>?_) (fun h21=>?_)
      ·have p21:=of_decide_eq_true h21;rw [fK a6] at hk;generalize hn19:di f19 kk19 (r_.Loads.length - (i_20+1)) (i_20+1)=next19 at hk;rw [←hf19] at hk; (try dsimp only at hk);refine fU ?_;refine mD ?_;refine cK (c7 (i:=i_20) rfl rfl rfl (SlC.mono hr__1 le1_8) (List.length_map _) rfl a6) ?_;refine cK (ei 1 (i:=i_20) rfl rfl rfl (SlC.mono hr__1 le1_8) a6) ?_;refine gR ?_;rintro _ _ ⟨g6,rfl,rfl⟩;refine mB ?_; (try dsimp only at hk);have hq:=eE hk;clear hk;obtain ⟨k23,hk23,hk⟩:=hq; (try dsimp only at hk);refine dc (ι:=Bool×FzB w (fun _=>False) S0) (fun z=>[(1, .pointer (some ⟨g1,0,none⟩)),(5, .int .i64 (i_20:Int)),(152, .bool z.1)]) (fun z=>[.row g1 29 [vr__0,vr__1,vr__2], .fr z.2]) (fun z=>k23 z.1=some r∧F8.toFrz.Le z.2.toFrz) ?_ ?_
       ·refine q1c ?_;refine cQ rfl (Wt.none) rfl rfl (cL rfl rfl rfl (fun w hw=>zbv _ w (hw.fr (i:=2) rfl) ((cH r_.Loads i_20).To))) ?_;refine mb ?_;refine dw rfl rfl rfl rfl (fun h24=>?_) (fun h24=>?_)
        ·replace hk:=dC hk h24;refine fj ?_;refine ie ?_;refine TS.run 24 rfl ?_;refine lX ?_;exact q4H
        ·replace hk:=dD hk h24;refine mo ?_;refine cQ rfl (Wt.some) rfl rfl (cL rfl rfl rfl (fun w hw=>zbv _ w (hw.fr (i:=2) rfl) ((cH r_.Loads i_20).From))) ?_;refine i6 ?_;refine fM ?_;refine dw rfl rfl rfl rfl (fun h25=>?_) (fun h25=>?_)
         ·replace hk:=dC hk h25;refine TS.run 21 rfl ?_;refine lX ?_;exact q4H
         ·replace hk:=dD hk h25;refine fg ?_;refine fg ?_;refine fM ?_;refine dw rfl rfl rfl rfl (fun h26=>?_) (fun h26=>?_)
          ·have p26:=of_decide_eq_true h26;replace hk:=dC hk h26;refine TS.run 14 rfl ?_;refine lX ?_;exact q4H
          ·have p26:=of_decide_eq_false h26;replace hk:=dD hk h26;refine fg ?_;refine fM ?_;refine dw rfl rfl rfl rfl (fun h27=>?_) (fun h27=>?_)
           ·have p27:=of_decide_eq_true h27;replace hk:=dC hk h27;refine TS.run 9 rfl ?_;refine lX ?_;exact q4H
           ·have p27:=of_decide_eq_false h27;replace hk:=dD hk h27;refine fg ?_;refine fM ?_;refine dw rfl rfl rfl rfl (fun h28=>?_) (fun h28=>?_)
            ·have p28:=of_decide_eq_true h28;replace hk:=dC hk h28;refine TS.run 4 rfl ?_;refine lX ?_;exact q4H
            ·have p28:=of_decide_eq_false h28;replace hk:=dD hk h28;refine fg ?_;refine mo ?_;refine cQ rfl (Wt.some) rfl rfl (cL rfl rfl rfl (fun w hw=>zee _ w (hw.fr (i:=2) rfl) ((cH r_.Loads i_20).Low) ((cH r_.Loads i_20).High))) ?_;refine i6 ?_;refine fM ?_;refine dw rfl rfl rfl rfl (fun h29=>?_) (fun h29=>?_)
             ·replace hk:=dC hk h29;refine TS.run 10 rfl ?_;refine q0d ?_;exact q4H
             ·replace hk:=dD hk h29;refine fM ?_;refine dw rfl rfl rfl rfl (fun h30=>?_) (fun h30=>?_)
              ·have p30:=of_decide_eq_true h30;replace hk:=dC hk h30;refine gy ?_;refine q2v ?_;refine na ?_;refine cN rfl (c7 (i:=((i_20:Int) - 1).toNat) rfl rfl rfl (SlC.mono hr__1 le1_8) (List.length_map _) a6 a6) ?_;refine cN rfl (ei 2 (i:=((i_20:Int) - 1).toNat) rfl rfl rfl (SlC.mono hr__1 le1_8) a6) ?_;refine iU ?_;refine dt ?_;refine cQ rfl (Wt.some) rfl rfl (eo 2 rfl rfl rfl rfl (fun w hw hF=>zeB _ w hF (cH r_.Loads (((i_20:Int) - 1).toNat)))) ?_;rintro _ _ ⟨v146_0_0,F10,le8_10,hf146_0_0,hq,rfl⟩;obtain rfl:=hq.symm;haveI:=hf146_0_0.oneC;refine ⟨(fun w hw=>(hw.frLe (i:=2) rfl le8_10).sub Sx),?_⟩;refine dt ?_;refine cQ rfl (Wt.some) rfl rfl (eo 2 rfl rfl rfl rfl (fun w hw hF=>zeB _ w hF (cH r_.Loads i_20))) ?_;rintro _ _ ⟨v148_0_0,F11,le10_11,hf148_0_0,hq,rfl⟩;obtain rfl:=hq.symm;have le8_11:=le8_10.trans le10_11;haveI:=hf148_0_0.oneC;refine ⟨(fun w hw=>(hw.frLe (i:=2) rfl le8_11).sub Sx),?_⟩;refine dt ?_;have hq:=eO hk;clear hk;obtain ⟨r149,hr149,hk⟩:=hq;refine cQ rfl (Wt.some) rfl rfl (cL rfl rfl rfl (fun w hw=>zek _ w (hw.fr (i:=2) rfl) (lN (cH r_.Loads (((i_20:Int) - 1).toNat))) v146_0_0 (SlC.mono hf146_0_0 le10_11) (lN (cH r_.Loads i_20)) v148_0_0 hf148_0_0 r149 hr149)) ?_;refine eW ?_;refine ⟨(fun w hw=>(hw.frLe (i:=2) rfl le8_11).sub Sx),?_⟩;refine fM ?_;refine eX ?_;refine mf ?_;exact cO (!r149,F11) ⟨hk,le8_11⟩ (.c (.c (.c .nil))) (List.Sublist.refl _)
              ·have p30:=of_decide_eq_false h30;replace hk:=dD hk h30;refine q3a ?_;exact cO (false,F8) ⟨hk,(Frz.Le.refl _)⟩ (.c (.c (.c .nil))) (List.Sublist.refl _)
       ·rintro ⟨x_22,F9⟩ ⟨hk,le8_9⟩; (try dsimp only at *);rw [←hk23] at hk; (try dsimp only at hk);have le2_9:=le2_8.trans le8_9;refine T.cond rfl (fun h31=>?_) (fun h31=>?_)
        ·replace hk:=dC hk h31;refine iX ?_;obtain rfl:=Option.some.inj hk;exact eA
        ·replace hk:=dD hk h31;refine gV ?_;rw [←hn19] at hk;exact K.next ((i_20+1),F9) ⟨hk,le2_9⟩ b3 (.c (.c .nil)) (List.Sublist.refl _)
      ·have p21:=of_decide_eq_false h21;rw [fL a6,←hkk19] at hk; (try dsimp only at hk);refine ft ?_;exact cO F8 ⟨hk,le2_8⟩ (.c .nil) (List.Sublist.refl _)
    ·rintro F7 ⟨hk,le2_7⟩;rw [←hk18] at hk; (try dsimp only at hk);have le1_7:=le1_2.trans le2_7;refine q2X ?_;have hq:=eE hk;clear hk;obtain ⟨k32,hk32,hk⟩:=hq; (try dsimp only at hk);refine dc (ι:=FzB w (fun _=>False) S0) (fun z=>[]) (fun z=>[.fr z]) (fun z=>k32 ()=some r∧F7.toFrz.Le z.toFrz) ?_ ?_
     ·have hq:=fJ hk;clear hk;obtain ⟨f33,kk33,hf33,hkk33,hk⟩:=hq;refine eY ?_;refine T.loop (ι:=Nat×FzB w (fun _=>False) S0) (fun z=>[(1, .pointer (some ⟨g1,0,none⟩)),(7, .int .i64 (z.1:Int))]) (fun z=>[.row g1 29 [vr__0,vr__1,vr__2], .fr z.2]) (fun z=>di f33 kk33 (r_.Caps.length - z.1) z.1 ()=some r∧F7.toFrz.Le z.2.toFrz) (fun z=>r_.Caps.length - z.1) (0,F7) ?_ ?_ ?_ ?_
      ·exact ⟨hk,(Frz.Le.refl _)⟩
      ·exact q4D
      ·exact eN
      ·rintro ⟨i_34,F13⟩ ⟨hk,le7_13⟩; (try dsimp only at *);have le1_13:=le1_7.trans le7_13;refine q4b ?_;refine cK (dg rfl rfl (SlC.mono hr__2 le1_13) (List.length_map _)) ?_;refine dJ ?_;refine T.cond rfl (fun h35=>?_) (fun h35=>?_)
       ·have p35:=of_decide_eq_true h35;rw [fK a6] at hk;generalize hn33:di f33 kk33 (r_.Caps.length - (i_34+1)) (i_34+1)=next33 at hk;rw [←hf33] at hk; (try dsimp only at hk);refine fU ?_;refine mD ?_;refine cK (c7 (i:=i_34) rfl rfl rfl (SlC.mono hr__2 le1_13) (List.length_map _) rfl a6) ?_;refine cK (ei 1 (i:=i_34) rfl rfl rfl (SlC.mono hr__2 le1_13) a6) ?_;refine gR ?_;rintro _ _ ⟨g8,rfl,rfl⟩;refine mB ?_; (try dsimp only at hk);have hq:=eE hk;clear hk;obtain ⟨k37,hk37,hk⟩:=hq; (try dsimp only at hk);refine dc (ι:=Bool×FzB w (fun _=>False) S0) (fun z=>[(1, .pointer (some ⟨g1,0,none⟩)),(7, .int .i64 (i_34:Int)),(203, .bool z.1)]) (fun z=>[.row g1 29 [vr__0,vr__1,vr__2], .fr z.2]) (fun z=>k37 z.1=some r∧F13.toFrz.Le z.2.toFrz) ?_ ?_
        ·refine dH (sN 0 2 (.eff 2 (sN 3 16 (.eff 19 (sN 20 12 (.still 33 (.eff 32 (.eff 34 (.eff 35 (sN 36 2 (.still 38 .done))))))))))) _ a8 (List.Sublist.refl _) ?_;refine mo ?_;refine cQ rfl (Wt.none) rfl rfl (cL rfl rfl rfl (fun w hw=>zbv _ w (hw.fr (i:=2) rfl) ((cH r_.Caps i_34).Station))) ?_;refine mb ?_;refine dw rfl rfl rfl rfl (fun h38=>?_) (fun h38=>?_)
         ·replace hk:=dC hk h38;refine TS.run 14 rfl ?_;refine lX ?_;exact q4X
         ·replace hk:=dD hk h38;refine fg ?_;refine fM ?_;refine dw rfl rfl rfl rfl (fun h39=>?_) (fun h39=>?_)
          ·have p39:=of_decide_eq_true h39;replace hk:=dC hk h39;refine TS.run 9 rfl ?_;refine lX ?_;exact q4X
          ·have p39:=of_decide_eq_false h39;replace hk:=dD hk h39;refine fg ?_;refine fM ?_;refine dw rfl rfl rfl rfl (fun h40=>?_) (fun h40=>?_)
           ·have p40:=of_decide_eq_true h40;replace hk:=dC hk h40;refine TS.run 4 rfl ?_;refine lX ?_;exact q4X
           ·have p40:=of_decide_eq_false h40;replace hk:=dD hk h40;refine fg ?_;refine mo ?_;refine cQ rfl (Wt.some) rfl rfl (cL rfl rfl rfl (fun w hw=>zee _ w (hw.fr (i:=2) rfl) ((cH r_.Caps i_34).Low) ((cH r_.Caps i_34).High))) ?_;refine i6 ?_;refine fM ?_;refine dw rfl rfl rfl rfl (fun h41=>?_) (fun h41=>?_)
            ·replace hk:=dC hk h41;refine TS.run 10 rfl ?_;refine q0d ?_;exact q4X
            ·replace hk:=dD hk h41;refine fM ?_;refine dw rfl rfl rfl rfl (fun h42=>?_) (fun h42=>?_)
             ·have p42:=of_decide_eq_true h42;replace hk:=dC hk h42;refine gy ?_;refine q2v ?_;refine na ?_;refine cN rfl (c7 (i:=((i_34:Int) - 1).toNat) rfl rfl rfl (SlC.mono hr__2 le1_13) (List.length_map _) a6 a6) ?_;refine cN rfl (ei 2 (i:=((i_34:Int) - 1).toNat) rfl rfl rfl (SlC.mono hr__2 le1_13) a6) ?_;refine iU ?_;refine dt ?_;refine cQ rfl (Wt.some) rfl rfl (eo 2 rfl rfl rfl rfl (fun w hw hF=>ze9 _ w hF (cH r_.Caps (((i_34:Int) - 1).toNat)))) ?_;rintro _ _ ⟨v197_0_0,F15,le13_15,hf197_0_0,hq,rfl⟩;obtain rfl:=hq.symm;haveI:=hf197_0_0.oneC;refine ⟨(fun w hw=>(hw.frLe (i:=2) rfl le13_15).sub Sx),?_⟩;refine dt ?_;refine cQ rfl (Wt.some) rfl rfl (eo 2 rfl rfl rfl rfl (fun w hw hF=>ze9 _ w hF (cH r_.Caps i_34))) ?_;rintro _ _ ⟨v199_0_0,F16,le15_16,hf199_0_0,hq,rfl⟩;obtain rfl:=hq.symm;have le13_16:=le13_15.trans le15_16;haveI:=hf199_0_0.oneC;refine ⟨(fun w hw=>(hw.frLe (i:=2) rfl le13_16).sub Sx),?_⟩;refine dt ?_;have hq:=eO hk;clear hk;obtain ⟨r200,hr200,hk⟩:=hq;refine cQ rfl (Wt.some) rfl rfl (cL rfl rfl rfl (fun w hw=>zek _ w (hw.fr (i:=2) rfl) (lL (cH r_.Caps (((i_34:Int) - 1).toNat))) v197_0_0 (SlC.mono hf197_0_0 le15_16) (lL (cH r_.Caps i_34)) v199_0_0 hf199_0_0 r200 hr200)) ?_;refine eW ?_;refine ⟨(fun w hw=>(hw.frLe (i:=2) rfl le13_16).sub Sx),?_⟩;refine fM ?_;refine eX ?_;refine mf ?_;exact cO (!r200,F16) ⟨hk,le13_16⟩ (.c (.c (.c .nil))) (List.Sublist.refl _)
             ·have p42:=of_decide_eq_false h42;replace hk:=dD hk h42;refine q3a ?_;exact cO (false,F13) ⟨hk,(Frz.Le.refl _)⟩ (.c (.c (.c .nil))) (List.Sublist.refl _)
        ·rintro ⟨x_36,F14⟩ ⟨hk,le13_14⟩; (try dsimp only at *);rw [←hk37] at hk; (try dsimp only at hk);have le7_14:=le7_13.trans le13_14;refine T.cond rfl (fun h43=>?_) (fun h43=>?_)
         ·replace hk:=dC hk h43;refine iX ?_;obtain rfl:=Option.some.inj hk;exact eA
         ·replace hk:=dD hk h43;refine gV ?_;rw [←hn33] at hk;exact K.next ((i_34+1),F14) ⟨hk,le7_14⟩ b3 (.c (.c .nil)) (List.Sublist.refl _)
       ·have p35:=of_decide_eq_false h35;rw [fL a6,←hkk33] at hk; (try dsimp only at hk);refine q2b ?_;exact cO F13 ⟨hk,le7_13⟩ .nil (List.Sublist.refl _)
     ·rintro F12 ⟨hk,le7_12⟩;rw [←hk32] at hk; (try dsimp only at hk);refine kn ?_;obtain rfl:=Option.some.inj hk;exact eA
def zcw (p:GProblem):Option Bool:=
 dV (fun (x_1:Bool)=>
  (bif x_1 then
   some false
   else
   dV (fun (_:Unit)=>
    dV (fun (_:Unit)=>
     dV (fun (_:Unit)=>
      dV (fun (_:Unit)=>
       some true)
      (fun k32=>
       di (fun (i_34:Nat) (next33:Unit→Option Bool) (_:Unit)=>
        (bif decide ((jh p ((cH p.Rules.Caps i_34).Station))<0) then
         some false
         else
         next33 ()))
       (fun (_:Unit)=>
        k32 ()) (p.Rules.Caps.length - 0) 0 ()))
     (fun k26=>
      di (fun (i_28:Nat) (next27:Unit→Option Bool) (_:Unit)=>
       (bif ((decide ((jh p ((cH p.Rules.Loads i_28).To))<0))||(decide ((jh p ((cH p.Rules.Loads i_28).From))<0))) then
        some false
        else
        next27 ()))
      (fun (_:Unit)=>
       k26 ()) (p.Rules.Loads.length - 0) 0 ()))
    (fun k20=>
     di (fun (i_22:Nat) (next21:Unit→Option Bool) (_:Unit)=>
      (bif ((decide ((jh p ((cH p.Rules.Pairs i_22).A))<0))||(decide ((jh p ((cH p.Rules.Pairs i_22).B))<0))) then
       some false
       else
       next21 ()))
     (fun (_:Unit)=>
      k20 ()) (p.Rules.Pairs.length - 0) 0 ()))
   (fun k5=>
    di (fun (i_7:Nat) (next6:Unit→Option Bool) (_:Unit)=>
     (bif (((!(ko ((cH p.Domains i_7).Station)))||((decide (0<(i_7:Int)))&&(decide ((cH p.Domains i_7).Station≤(cH p.Domains (((i_7:Int) - 1).toNat)).Station))))||(decide (50<(((cH p.Domains i_7).Channels).length:Int)))) then
      some false
      else
      di (fun (k_14:Nat) (next13:Unit→Option Bool) (_:Unit)=>
       (bif (((decide ((cH ((cH p.Domains i_7).Channels) k_14)<2))||(decide (51<(cH ((cH p.Domains i_7).Channels) k_14))))||((decide (0<(k_14:Int)))&&(decide ((cH ((cH p.Domains i_7).Channels) k_14)≤(cH ((cH p.Domains i_7).Channels) (((k_14:Int) - 1).toNat)))))) then
        some false
        else
        next13 ()))
      (fun (_:Unit)=>
       next6 ()) ((((cH p.Domains i_7).Channels).length) - 0) 0 ()))
    (fun (_:Unit)=>
     k5 ()) (p.Domains.length - 0) 0 ())))
 (fun k2=>
  (bif decide (512<(p.Domains.length:Int)) then
   k2 true
   else
   (zbD p.Rules).bind fun r16=>
   k2 (!r16)))
theorem zhC (F0:Frz)(w:World)(hF0:F0.At w)(p:GProblem)(vp_0:Value)(cp_0:List (List Value))(hp_0:SlD cJ F0 vp_0 2 cp_0 p.Domains)(vp_1:Value)(hp_1:SlC F0 vp_1 5 (p.Rules.Pairs.map cY))(vp_2:Value)(hp_2:SlC F0 vp_2 5 (p.Rules.Loads.map c4))(vp_3:Value)(hp_3:SlC F0 vp_3 4 (p.Rules.Caps.map dk))(r:Bool)(hr:zcw p=some r):Calls Tryz.prog 11 #[.agg [vp_0,vp_1,vp_2,vp_3].toArray] w fun e w'=>e= .returned (.bool r)∧Below w.heap.size w w':=by
 have hk:=hr;unfold zcw at hk;haveI:=hp_0.1.oneC;haveI:=hp_1.oneC;haveI:=hp_2.oneC;haveI:=hp_3.oneC;obtain ⟨S0,F1,rfl,hS0,hp0⟩:=fx hF0;refine dz Tryz.func11 rfl rfl rfl hp0 ?_;refine iW ?_;rintro _ _ ⟨g1,rfl,rfl⟩;refine q2N ?_; (try dsimp only at hk);have hq:=eE hk;clear hk;obtain ⟨k2,hk2,hk⟩:=hq; (try dsimp only at hk);refine dc (ι:=Bool) (fun z=>[(1, .pointer (some ⟨g1,0,none⟩)),(18, .bool z)]) (fun z=>[.row g1 31 [vp_0,vp_1,vp_2,vp_3], .fr F1]) (fun z=>k2 z=some r) ?_ ?_
 ·refine fP ?_;refine eM ?_;refine q20 ?_;have hm11:p.Domains.length≤9223372036854775807:=hp_0.2.1▸hp_0.1.max;refine ed ?_;refine dB rfl rfl rfl (fun h3=>?_) (fun h3=>?_)
  ·have p3:=of_decide_eq_true h3;replace hk:=dC hk h3;refine q2W ?_;exact cO true hk (.c (.c .nil)) (List.Sublist.refl _)
  ·have p3:=of_decide_eq_false h3;replace hk:=dD hk h3;refine fv ?_;refine cK (mX 0 (m:=[vp_1,vp_2,vp_3]) rfl rfl rfl rfl rfl) ?_;have hq:=eO hk;clear hk;obtain ⟨r16,hr16,hk⟩:=hq;refine cZ (cL rfl rfl rfl (fun w hw=>ze0 _ w (hw.fr (i:=1) rfl) p.Rules vp_1 hp_1 vp_2 hp_2 vp_3 hp_3 r16 hr16)) ?_;refine kK ?_;refine eV ?_;exact cO (!r16) hk (.c (.c .nil)) (List.Sublist.refl _)
 ·rintro x_1 hk;rw [←hk2] at hk; (try dsimp only at hk);refine T.cond rfl (fun h4=>?_) (fun h4=>?_)
  ·replace hk:=dC hk h4;refine jc ?_;obtain rfl:=Option.some.inj hk;exact eA
  ·replace hk:=dD hk h4;refine ku ?_;refine dJ ?_;have hq:=eE hk;clear hk;obtain ⟨k5,hk5,hk⟩:=hq; (try dsimp only at hk);refine dc (ι:=Unit) (fun z=>[(1, .pointer (some ⟨g1,0,none⟩))]) (fun z=>[.row g1 31 [vp_0,vp_1,vp_2,vp_3], .fr F1]) (fun z=>k5 ()=some r) ?_ ?_
   ·have hq:=fJ hk;clear hk;obtain ⟨f6,kk6,hf6,hkk6,hk⟩:=hq;refine eY ?_;refine T.loop (ι:=Nat) (fun z=>[(1, .pointer (some ⟨g1,0,none⟩)),(3, .int .i64 (z:Int))]) (fun z=>[.row g1 31 [vp_0,vp_1,vp_2,vp_3], .fr F1]) (fun z=>di f6 kk6 (p.Domains.length - z) z ()=some r) (fun z=>p.Domains.length - z) 0 ?_ ?_ ?_ ?_
    ·exact hk
    ·exact q4D
    ·exact eN
    ·rintro i_7 hk;refine q4b ?_;refine q20 ?_;have hm22:p.Domains.length≤9223372036854775807:=hp_0.2.1▸hp_0.1.max;refine dJ ?_;refine T.cond rfl (fun h8=>?_) (fun h8=>?_)
     ·have p8:=of_decide_eq_true h8;rw [fK a6] at hk;generalize hn6:di f6 kk6 (p.Domains.length - (i_7+1)) (i_7+1)=next6 at hk;rw [←hf6] at hk; (try dsimp only at hk);refine fU ?_;refine mD ?_;refine cK (c7 (i:=i_7) rfl rfl rfl hp_0.1 hp_0.2.1 rfl a6) ?_;refine cK (jP 1 (i:=i_7) (j:=0) rfl rfl rfl hp_0.1 hp_0.2.1 a6 rfl (eZ (hp_0.2.2 i_7 a6)) rfl) ?_;have hd30_1:=(GDomain.c1 (hp_0.2.2 i_7 a6)).2;haveI:=hd30_1.oneC;refine gR ?_;rintro _ _ ⟨g4,rfl,rfl⟩;refine kd ?_;refine cR (T.seq (T.seq ?_));refine dc (ι:=Unit) (fun z=>[(1, .pointer (some ⟨g1,0,none⟩)),(3, .int .i64 (i_7:Int)),(4, .pointer (some ⟨g4,0,none⟩)),(56, .bool (((!(ko ((cH p.Domains i_7).Station)))||((decide (0<(i_7:Int)))&&(decide ((cH p.Domains i_7).Station≤(cH p.Domains (((i_7:Int) - 1).toNat)).Station))))||(decide (50<(((cH p.Domains i_7).Channels).length:Int)))))]) (fun z=>[.row g4 59 [.int .i64 ((cH p.Domains i_7).Station),(cH (cH cp_0 i_7) 1)], .row g1 31 [vp_0,vp_1,vp_2,vp_3], .fr F1]) (fun z=>True) ?_ ?_
      ·refine dH (sN 0 2 (.eff 2 (sN 3 22 (.still 25 .done)))) _ a8 (List.Sublist.refl _) ?_;refine mo ?_;refine cQ rfl (Wt.none) rfl rfl (cL rfl rfl rfl (fun w hw=>zbv _ w (hw.fr (i:=2) rfl) ((cH p.Domains i_7).Station))) ?_;refine mb ?_;refine dw rfl rfl rfl rfl (fun h9=>?_) (fun h9=>?_)
       ·refine TS.run 21 rfl ?_;refine eX ?_;exact cO () trivial (.c (.c (.c (.b (fW (fW h9)).symm .nil)))) (List.Sublist.refl _)
       ·refine fM ?_;refine dw rfl rfl rfl rfl (fun h10=>?_) (fun h10=>?_)
        ·have p10:=of_decide_eq_true h10;refine gy ?_;refine q2v ?_;refine na ?_;refine cN rfl (c7 (i:=((i_7:Int) - 1).toNat) rfl rfl rfl hp_0.1 hp_0.2.1 a6 a6) ?_;refine cN rfl (d8 rfl rfl hp_0.1 hp_0.2.1 a6) ?_;refine cN rfl (dp 2 (i:=((i_7:Int) - 1).toNat) (j:=0) rfl rfl rfl hp_0.1 hp_0.2.1 a6 rfl (GDomain.c0 (hp_0.2.2 (((i_7:Int) - 1).toNat) a6))) ?_;refine fg ?_;refine TS.run 4 rfl ?_;refine dw rfl rfl rfl rfl (fun h11=>?_) (fun h11=>?_)
         ·have p11:=of_decide_eq_true h11;refine TS.run 5 rfl ?_;refine eX ?_;exact cO () trivial (.c (.c (.c (.b (fW (gU h9 (iE h10 h11))).symm .nil)))) (List.Sublist.refl _)
         ·have p11:=of_decide_eq_false h11;refine fg ?_;refine cN rfl (dg rfl rfl hd30_1 (List.length_map _)) ?_;have hm54:((cH p.Domains i_7).Channels).length≤9223372036854775807:=(List.length_map _)▸hd30_1.max;refine fj ?_;refine eX ?_;exact cO () trivial (.c (.c (.c (.b (gH (gU h9 (iE h10 h11))) .nil)))) (List.Sublist.refl _)
        ·have p10:=of_decide_eq_false h10;refine TS.run 13 rfl ?_;refine fg ?_;refine cN rfl (dg rfl rfl hd30_1 (List.length_map _)) ?_;have hm54:((cH p.Domains i_7).Channels).length≤9223372036854775807:=(List.length_map _)▸hd30_1.max;refine fj ?_;refine eX ?_;exact cO () trivial (.c (.c (.c (.b (gH (gU h9 (gh h10))) .nil)))) (List.Sublist.refl _)
      ·rintro _ _;have hm54:((cH p.Domains i_7).Channels).length≤9223372036854775807:=(List.length_map _)▸hd30_1.max;refine T.cond rfl (fun h12=>?_) (fun h12=>?_)
       ·replace hk:=dC hk h12;refine gX ?_;refine q3L ?_;obtain rfl:=Option.some.inj hk;exact eA
       ·have p12:=h12; (try simp only [cS] at p12);replace hk:=dD hk h12;refine i2 ?_;refine dJ ?_;have hq:=fJ hk;clear hk;obtain ⟨f13,kk13,hf13,hkk13,hk⟩:=hq;refine eY ?_;refine T.loop (ι:=Nat) (fun z=>[(1, .pointer (some ⟨g1,0,none⟩)),(3, .int .i64 (i_7:Int)),(4, .pointer (some ⟨g4,0,none⟩)),(5, .int .i64 (z:Int))]) (fun z=>[.row g4 59 [.int .i64 ((cH p.Domains i_7).Station),(cH (cH cp_0 i_7) 1)], .row g1 31 [vp_0,vp_1,vp_2,vp_3], .fr F1]) (fun z=>di f13 kk13 ((((cH p.Domains i_7).Channels).length) - z) z ()=some r) (fun z=>(((cH p.Domains i_7).Channels).length) - z) 0 ?_ ?_ ?_ ?_
        ·exact hk
        ·exact nk
        ·exact eN
        ·rintro k_14 hk;refine q4b ?_;refine cK (dg rfl rfl hd30_1 (List.length_map _)) ?_;refine dJ ?_;refine T.cond rfl (fun h15=>?_) (fun h15=>?_)
         ·have p15:=of_decide_eq_true h15;rw [fK a6] at hk;generalize hn13:di f13 kk13 ((((cH p.Domains i_7).Channels).length) - (k_14+1)) (k_14+1)=next13 at hk;rw [←hf13] at hk; (try dsimp only at hk);refine ki ?_;refine dc (ι:=Unit) (fun z=>[(1, .pointer (some ⟨g1,0,none⟩)),(3, .int .i64 (i_7:Int)),(4, .pointer (some ⟨g4,0,none⟩)),(5, .int .i64 (k_14:Int)),(95, .bool (((decide ((cH ((cH p.Domains i_7).Channels) k_14)<2))||(decide (51<(cH ((cH p.Domains i_7).Channels) k_14))))||((decide (0<(k_14:Int)))&&(decide ((cH ((cH p.Domains i_7).Channels) k_14)≤(cH ((cH p.Domains i_7).Channels) (((k_14:Int) - 1).toNat)))))))]) (fun z=>[.row g4 59 [.int .i64 ((cH p.Domains i_7).Station),(cH (cH cp_0 i_7) 1)], .row g1 31 [vp_0,vp_1,vp_2,vp_3], .fr F1]) (fun z=>True) ?_ ?_
          ·refine dH (sN 0 31 (.still 31 .done)) _ a8 (List.Sublist.refl _) ?_;refine q1T ?_;refine fj ?_;refine dw rfl rfl rfl rfl (fun h16=>?_) (fun h16=>?_)
           ·have p16:=of_decide_eq_true h16;refine TS.run 25 rfl ?_;refine eX ?_;exact cO () trivial (.c (.c (.c (.c (.b (fW (fW h16)).symm .nil))))) (List.Sublist.refl _)
           ·have p16:=of_decide_eq_false h16;refine q1T ?_;refine fM ?_;refine dw rfl rfl rfl rfl (fun h17=>?_) (fun h17=>?_)
            ·have p17:=of_decide_eq_true h17;refine TS.run 17 rfl ?_;refine eX ?_;exact cO () trivial (.c (.c (.c (.c (.b (fW (gU h16 h17)).symm .nil))))) (List.Sublist.refl _)
            ·have p17:=of_decide_eq_false h17;refine fM ?_;refine dw rfl rfl rfl rfl (fun h18=>?_) (fun h18=>?_)
             ·have p18:=of_decide_eq_true h18;refine fg ?_;refine eL ?_;refine na ?_;refine cN rfl (c7 (i:=((k_14:Int) - 1).toNat) rfl rfl rfl hd30_1 (List.length_map _) a6 a6) ?_;refine cN rfl (dT 2 (i:=((k_14:Int) - 1).toNat) (j:=0) rfl rfl rfl hd30_1 a6) ?_;refine q1T ?_;refine fM ?_;refine eX ?_;exact cO () trivial (.c (.c (.c (.c (.b (Eq.trans (kI h18) (gH (gU h16 h17))) .nil))))) (List.Sublist.refl _)
             ·have p18:=of_decide_eq_false h18;refine TS.run 14 rfl ?_;refine eX ?_;exact cO () trivial (.c (.c (.c (.c (.b (gU (gU h16 h17) (gh h18)).symm .nil))))) (List.Sublist.refl _)
          ·rintro _ _;refine T.cond rfl (fun h19=>?_) (fun h19=>?_)
           ·replace hk:=dC hk h19;refine gX ?_;refine cR (T.ret (ek (dS (dS (ek (ek (dS (dS (ek (dS ?_))))))))));obtain rfl:=Option.some.inj hk;exact eA
           ·have p19:=h19; (try simp only [cS] at p19);replace hk:=dD hk h19;refine gV ?_;rw [←hn13] at hk;exact K.next (k_14+1) hk a6 (.c (.c (.c (.c .nil)))) (List.Sublist.refl _)
         ·have p15:=of_decide_eq_false h15;rw [fL a6,←hkk13] at hk; (try dsimp only at hk);refine q3Y ?_;refine lM ?_;rw [←hn6] at hk;refine mf ?_;exact K.next (i_7+1) hk a6 (.c (.c .nil)) (List.Sublist.refl _)
     ·have p8:=of_decide_eq_false h8;rw [fL a6,←hkk6] at hk; (try dsimp only at hk);refine ft ?_;exact q4Y
   ·rintro _ hk;rw [←hk5] at hk; (try dsimp only at hk);refine q2X ?_;have hq:=eE hk;clear hk;obtain ⟨k20,hk20,hk⟩:=hq; (try dsimp only at hk);refine dc (ι:=Unit) (fun z=>[(1, .pointer (some ⟨g1,0,none⟩))]) (fun z=>[.row g1 31 [vp_0,vp_1,vp_2,vp_3], .fr F1]) (fun z=>k20 ()=some r) ?_ ?_
    ·have hq:=fJ hk;clear hk;obtain ⟨f21,kk21,hf21,hkk21,hk⟩:=hq;refine eY ?_;refine T.loop (ι:=Nat) (fun z=>[(1, .pointer (some ⟨g1,0,none⟩)),(6, .int .i64 (z:Int))]) (fun z=>[.row g1 31 [vp_0,vp_1,vp_2,vp_3], .fr F1]) (fun z=>di f21 kk21 (p.Rules.Pairs.length - z) z ()=some r) (fun z=>p.Rules.Pairs.length - z) 0 ?_ ?_ ?_ ?_
     ·exact hk
     ·exact q4D
     ·exact eN
     ·rintro i_22 hk;refine q2c ?_;refine cK (dg rfl rfl hp_1 (List.length_map _)) ?_;have hm100:p.Rules.Pairs.length≤9223372036854775807:=(List.length_map _)▸hp_1.max;refine dJ ?_;refine T.cond rfl (fun h23=>?_) (fun h23=>?_)
      ·have p23:=of_decide_eq_true h23;rw [fK a6] at hk;generalize hn21:di f21 kk21 (p.Rules.Pairs.length - (i_22+1)) (i_22+1)=next21 at hk;rw [←hf21] at hk; (try dsimp only at hk);refine ki ?_;refine dc (ι:=Unit) (fun z=>[(1, .pointer (some ⟨g1,0,none⟩)),(6, .int .i64 (i_22:Int)),(125, .bool ((decide ((jh p ((cH p.Rules.Pairs i_22).A))<0))||(decide ((jh p ((cH p.Rules.Pairs i_22).B))<0))))]) (fun z=>[.row g1 31 [vp_0,vp_1,vp_2,vp_3], .fr F1]) (fun z=>True) ?_ ?_
       ·refine q11 ?_;refine q30 ?_;refine cN rfl (dT 1 (i:=i_22) (j:=0) rfl rfl rfl hp_1 a6) ?_;refine dt ?_;refine cQ rfl (Wt.none) rfl rfl (cL rfl rfl rfl (fun w hw=>zc0 _ w (hw.fr (i:=1) rfl) p vp_0 cp_0 hp_0 vp_1 hp_1 vp_2 hp_2 vp_3 hp_3 ((cH p.Rules.Pairs i_22).A))) ?_;refine mb ?_;refine dw rfl rfl rfl rfl (fun h24=>?_) (fun h24=>?_)
        ·have p24:=of_decide_eq_true h24;refine TS.run 8 rfl ?_;refine ie ?_;refine fj ?_;refine eX ?_;exact cO () trivial (.c (.c (.b (fW h24).symm .nil))) (List.Sublist.refl _)
        ·have p24:=of_decide_eq_false h24;refine iU ?_;refine gy ?_;refine fg ?_;refine eL ?_;refine q30 ?_;refine cN rfl (dT 1 (i:=i_22) (j:=1) rfl rfl rfl hp_1 a6) ?_;refine dt ?_;refine cQ rfl (Wt.some) rfl rfl (cL rfl rfl rfl (fun w hw=>zc0 _ w (hw.fr (i:=1) rfl) p vp_0 cp_0 hp_0 vp_1 hp_1 vp_2 hp_2 vp_3 hp_3 ((cH p.Rules.Pairs i_22).B))) ?_;refine mb ?_;refine eX ?_;exact cO () trivial (.c (.c (.b (gH h24) .nil))) (List.Sublist.refl _)
       ·rintro _ _;refine T.cond rfl (fun h25=>?_) (fun h25=>?_)
        ·replace hk:=dC hk h25;refine iX ?_;obtain rfl:=Option.some.inj hk;exact eA
        ·have p25:=h25; (try simp only [cS] at p25);replace hk:=dD hk h25;refine gV ?_;rw [←hn21] at hk;exact K.next (i_22+1) hk a6 (.c (.c .nil)) (List.Sublist.refl _)
      ·have p23:=of_decide_eq_false h23;rw [fL a6,←hkk21] at hk; (try dsimp only at hk);refine ft ?_;exact q4Y
    ·rintro _ hk;rw [←hk20] at hk; (try dsimp only at hk);refine q2X ?_;have hq:=eE hk;clear hk;obtain ⟨k26,hk26,hk⟩:=hq; (try dsimp only at hk);refine dc (ι:=Unit) (fun z=>[(1, .pointer (some ⟨g1,0,none⟩))]) (fun z=>[.row g1 31 [vp_0,vp_1,vp_2,vp_3], .fr F1]) (fun z=>k26 ()=some r) ?_ ?_
     ·have hq:=fJ hk;clear hk;obtain ⟨f27,kk27,hf27,hkk27,hk⟩:=hq;refine eY ?_;refine T.loop (ι:=Nat) (fun z=>[(1, .pointer (some ⟨g1,0,none⟩)),(7, .int .i64 (z:Int))]) (fun z=>[.row g1 31 [vp_0,vp_1,vp_2,vp_3], .fr F1]) (fun z=>di f27 kk27 (p.Rules.Loads.length - z) z ()=some r) (fun z=>p.Rules.Loads.length - z) 0 ?_ ?_ ?_ ?_
      ·exact hk
      ·exact q4D
      ·exact eN
      ·rintro i_28 hk;refine q2c ?_;refine q4m ?_;have hm130:p.Rules.Loads.length≤9223372036854775807:=(List.length_map _)▸hp_2.max;refine dJ ?_;refine T.cond rfl (fun h29=>?_) (fun h29=>?_)
       ·have p29:=of_decide_eq_true h29;rw [fK a6] at hk;generalize hn27:di f27 kk27 (p.Rules.Loads.length - (i_28+1)) (i_28+1)=next27 at hk;rw [←hf27] at hk; (try dsimp only at hk);refine ki ?_;refine dc (ι:=Unit) (fun z=>[(1, .pointer (some ⟨g1,0,none⟩)),(7, .int .i64 (i_28:Int)),(155, .bool ((decide ((jh p ((cH p.Rules.Loads i_28).To))<0))||(decide ((jh p ((cH p.Rules.Loads i_28).From))<0))))]) (fun z=>[.row g1 31 [vp_0,vp_1,vp_2,vp_3], .fr F1]) (fun z=>True) ?_ ?_
        ·refine q11 ?_;refine q31 ?_;refine cN rfl (dT 1 (i:=i_28) (j:=0) rfl rfl rfl hp_2 a6) ?_;refine dt ?_;refine cQ rfl (Wt.none) rfl rfl (cL rfl rfl rfl (fun w hw=>zc0 _ w (hw.fr (i:=1) rfl) p vp_0 cp_0 hp_0 vp_1 hp_1 vp_2 hp_2 vp_3 hp_3 ((cH p.Rules.Loads i_28).To))) ?_;refine mb ?_;refine dw rfl rfl rfl rfl (fun h30=>?_) (fun h30=>?_)
         ·have p30:=of_decide_eq_true h30;refine TS.run 8 rfl ?_;refine ie ?_;refine fj ?_;refine eX ?_;exact cO () trivial (.c (.c (.b (fW h30).symm .nil))) (List.Sublist.refl _)
         ·have p30:=of_decide_eq_false h30;refine iU ?_;refine gy ?_;refine fg ?_;refine eL ?_;refine q31 ?_;refine cN rfl (dT 1 (i:=i_28) (j:=1) rfl rfl rfl hp_2 a6) ?_;refine dt ?_;refine cQ rfl (Wt.some) rfl rfl (cL rfl rfl rfl (fun w hw=>zc0 _ w (hw.fr (i:=1) rfl) p vp_0 cp_0 hp_0 vp_1 hp_1 vp_2 hp_2 vp_3 hp_3 ((cH p.Rules.Loads i_28).From))) ?_;refine mb ?_;refine eX ?_;exact cO () trivial (.c (.c (.b (gH h30) .nil))) (List.Sublist.refl _)
        ·rintro _ _;refine T.cond rfl (fun h31=>?_) (fun h31=>?_)
         ·replace hk:=dC hk h31;refine iX ?_;obtain rfl:=Option.some.inj hk;exact eA
         ·have p31:=h31; (try simp only [cS] at p31);replace hk:=dD hk h31;refine gV ?_;rw [←hn27] at hk;exact K.next (i_28+1) hk a6 (.c (.c .nil)) (List.Sublist.refl _)
       ·have p29:=of_decide_eq_false h29;rw [fL a6,←hkk27] at hk; (try dsimp only at hk);refine ft ?_;exact q4Y
     ·rintro _ hk;rw [←hk26] at hk; (try dsimp only at hk);refine q2X ?_;have hq:=eE hk;clear hk;obtain ⟨k32,hk32,hk⟩:=hq; (try dsimp only at hk);refine dc (ι:=Unit) (fun z=>[]) (fun z=>[.fr F1]) (fun z=>k32 ()=some r) ?_ ?_
      ·have hq:=fJ hk;clear hk;obtain ⟨f33,kk33,hf33,hkk33,hk⟩:=hq;refine eY ?_;refine T.loop (ι:=Nat) (fun z=>[(1, .pointer (some ⟨g1,0,none⟩)),(8, .int .i64 (z:Int))]) (fun z=>[.row g1 31 [vp_0,vp_1,vp_2,vp_3], .fr F1]) (fun z=>di f33 kk33 (p.Rules.Caps.length - z) z ()=some r) (fun z=>p.Rules.Caps.length - z) 0 ?_ ?_ ?_ ?_
       ·exact hk
       ·exact q4D
       ·exact eN
       ·rintro i_34 hk;refine q2c ?_;refine cK (dg rfl rfl hp_3 (List.length_map _)) ?_;have hm160:p.Rules.Caps.length≤9223372036854775807:=(List.length_map _)▸hp_3.max;refine dJ ?_;refine T.cond rfl (fun h35=>?_) (fun h35=>?_)
        ·have p35:=of_decide_eq_true h35;rw [fK a6] at hk;generalize hn33:di f33 kk33 (p.Rules.Caps.length - (i_34+1)) (i_34+1)=next33 at hk;rw [←hf33] at hk; (try dsimp only at hk);refine q3u ?_;refine iU ?_;refine gy ?_;refine fg ?_;refine eL ?_;refine cN rfl (c7 (i:=i_34) rfl rfl rfl hp_3 (List.length_map _) rfl a6) ?_;refine cN rfl (d8 rfl rfl hp_3 (List.length_map _) a6) ?_;refine cN rfl (dT 1 (i:=i_34) (j:=0) rfl rfl rfl hp_3 a6) ?_;refine dt ?_;refine cQ rfl (Wt.none) rfl rfl (cL rfl rfl rfl (fun w hw=>zc0 _ w (hw.fr (i:=1) rfl) p vp_0 cp_0 hp_0 vp_1 hp_1 vp_2 hp_2 vp_3 hp_3 ((cH p.Rules.Caps i_34).Station))) ?_;refine i6 ?_;refine kB ?_;refine T.cond rfl (fun h36=>?_) (fun h36=>?_)
         ·have p36:=of_decide_eq_true h36;replace hk:=dC hk h36;refine iX ?_;obtain rfl:=Option.some.inj hk;exact eA
         ·have p36:=of_decide_eq_false h36;replace hk:=dD hk h36;refine gV ?_;rw [←hn33] at hk;exact K.next (i_34+1) hk a6 (.c (.c .nil)) (List.Sublist.refl _)
        ·have p35:=of_decide_eq_false h35;rw [fL a6,←hkk33] at hk; (try dsimp only at hk);refine q2b ?_;exact kv
      ·rintro _ hk;rw [←hk32] at hk; (try dsimp only at hk);refine kn ?_;obtain rfl:=Option.some.inj hk;exact eA
structure GViolation where
 Kind:Int
 At:Int
deriving DecidableEq,Inhabited
abbrev jy (x:GViolation):List Value:=[.int .i64 x.Kind, .int .i64 x.At]
theorem GViolation.len (x:GViolation):(jy x).length=2:=rfl
def zcs (fuel:Nat)(p:GProblem)(domains:Int)(rules:Int):Option Bool:=
 dV (fun (_:Unit)=>
  some ((((decide ((p.Domains.length:Int)≤domains))&&(decide ((p.Rules.Pairs.length:Int)≤rules)))&&(decide ((p.Rules.Loads.length:Int)≤rules)))&&(decide ((p.Rules.Caps.length:Int)≤rules))))
 (fun k1=>
  gJ (fun (next3:Int→Option Bool) (i_2:Int)=>
   (bif ((decide (i_2<(p.Domains.length:Int)))&&(decide (i_2<600))) then
    em (0≤i_2∧i_2<(p.Domains.length:Int)) <|
    (bif decide (60<(((cH p.Domains i_2.toNat).Channels).length:Int)) then
     some false
     else
     next3 (i_2+1))
    else
    k1 ())) fuel 0)
theorem zhx (F0:Frz)(w:World)(hF0:F0.At w)(p:GProblem)(vp_0:Value)(cp_0:List (List Value))(hp_0:SlD cJ F0 vp_0 2 cp_0 p.Domains)(vp_1:Value)(hp_1:SlC F0 vp_1 5 (p.Rules.Pairs.map cY))(vp_2:Value)(hp_2:SlC F0 vp_2 5 (p.Rules.Loads.map c4))(vp_3:Value)(hp_3:SlC F0 vp_3 4 (p.Rules.Caps.map dk))(domains:Int)(rules:Int)(fuel:Nat)(r:Bool)(hr:zcs fuel p domains rules=some r):Calls Tryz.prog 8 #[.agg [vp_0,vp_1,vp_2,vp_3].toArray, .int .i64 domains, .int .i64 rules] w fun e w'=>e= .returned (.bool r)∧Below w.heap.size w w':=by
 have hk:=hr;unfold zcs at hk;haveI:=hp_0.1.oneC;haveI:=hp_1.oneC;haveI:=hp_2.oneC;haveI:=hp_3.oneC;obtain ⟨S0,F1,rfl,hS0,hp0⟩:=fx hF0;refine dz Tryz.func8 rfl rfl rfl hp0 ?_;refine iW ?_;rintro _ _ ⟨g3,rfl,rfl⟩;refine mj ?_;have hq:=eE hk;clear hk;obtain ⟨k1,hk1,hk⟩:=hq; (try dsimp only at hk);refine dc (ι:=Unit) (fun z=>[(1, .int .i64 domains),(2, .int .i64 rules),(3, .pointer (some ⟨g3,0,none⟩))]) (fun z=>[.row g3 31 [vp_0,vp_1,vp_2,vp_3], .fr F1]) (fun z=>k1 ()=some r) ?_ ?_
 ·have hq:=zcM hk;clear hk;obtain ⟨f3,hf3,hk⟩:=hq;refine eY ?_;refine T.loop (ι:=Nat×Int) (fun z=>[(1, .int .i64 domains),(2, .int .i64 rules),(3, .pointer (some ⟨g3,0,none⟩)),(7, .int .i64 z.2)]) (fun z=>[.row g3 31 [vp_0,vp_1,vp_2,vp_3], .fr F1]) (fun z=>gJ f3 z.1 z.2=some r) (fun z=>z.1) (fuel,0) ?_ ?_ ?_ ?_
  ·exact hk
  ·exact nk
  ·exact eN
  ·rintro ⟨m_4,i_2⟩ hk; (try dsimp only at *);have hq:=zc9 hk;clear hk;obtain ⟨m_4',rfl,hk⟩:=hq;generalize hn3:gJ f3 m_4'=next3 at hk;rw [←hf3] at hk; (try dsimp only at hk);refine T.seq (T.seq ?_);refine dc (ι:=Unit) (fun z=>[(1, .int .i64 domains),(2, .int .i64 rules),(3, .pointer (some ⟨g3,0,none⟩)),(7, .int .i64 i_2),(16, .bool ((decide (i_2<(p.Domains.length:Int)))&&(decide (i_2<600))))]) (fun z=>[.row g3 31 [vp_0,vp_1,vp_2,vp_3], .fr F1]) (fun z=>True) ?_ ?_
   ·refine iK ?_;refine eM ?_;refine q20 ?_;have hm11:p.Domains.length≤9223372036854775807:=hp_0.2.1▸hp_0.1.max;refine ed ?_;refine dB rfl rfl rfl (fun h5=>?_) (fun h5=>?_)
    ·have p5:=of_decide_eq_true h5;refine fH ?_;refine eV ?_;exact cO () trivial (.c (.c (.c (.c (.b (kI h5) .nil))))) (List.Sublist.refl _)
    ·have p5:=of_decide_eq_false h5;refine fH ?_;refine eV ?_;exact cO () trivial (.c (.c (.c (.c (.b (gh h5).symm .nil))))) (List.Sublist.refl _)
   ·rintro _ _;have hm11:p.Domains.length≤9223372036854775807:=hp_0.2.1▸hp_0.1.max;refine T.cond rfl (fun h6=>?_) (fun h6=>?_)
    ·have p6:=h6; (try simp only [cS] at p6);replace hk:=dC hk h6;refine ki ?_;have hq:(0≤i_2∧i_2<(p.Domains.length:Int))∧_:=fD hk;clear hk;obtain ⟨g22,hk⟩:=hq; (try dsimp only at hk);refine fP ?_;refine mD ?_;refine cK (c7 (i:=i_2.toNat) rfl rfl rfl hp_0.1 hp_0.2.1 a6 a6) ?_;refine cK (d8 rfl rfl hp_0.1 hp_0.2.1 a6) ?_;refine cK (dp 1 (i:=i_2.toNat) (j:=1) rfl rfl rfl hp_0.1 hp_0.2.1 a6 rfl (GDomain.c1 (hp_0.2.2 i_2.toNat a6)).1) ?_;have hd24_1:=(GDomain.c1 (hp_0.2.2 i_2.toNat a6)).2;haveI:=hd24_1.oneC;refine cK (dg rfl rfl hd24_1 (List.length_map _)) ?_;have hm25:((cH p.Domains i_2.toNat).Channels).length≤9223372036854775807:=(List.length_map _)▸hd24_1.max;refine dJ ?_;refine T.cond rfl (fun h7=>?_) (fun h7=>?_)
     ·have p7:=of_decide_eq_true h7;replace hk:=dC hk h7;refine iX ?_;obtain rfl:=Option.some.inj hk;exact eA
     ·have p7:=of_decide_eq_false h7;replace hk:=dD hk h7;refine gV ?_;rw [←hn3] at hk;exact K.next (m_4',(i_2+1)) hk b3 (.c (.c (.c (.c .nil)))) (List.Sublist.refl _)
    ·replace hk:=dD hk h6;refine ft ?_;exact cO () hk (.c (.c (.c .nil))) (List.Sublist.refl _)
 ·rintro _ hk;rw [←hk1] at hk; (try dsimp only at hk);refine T.seq ?_;refine dc (ι:=Unit) (fun z=>[(6, .bool ((((decide ((p.Domains.length:Int)≤domains))&&(decide ((p.Rules.Pairs.length:Int)≤rules)))&&(decide ((p.Rules.Loads.length:Int)≤rules)))&&(decide ((p.Rules.Caps.length:Int)≤rules))))]) (fun z=>[.row g3 31 [vp_0,vp_1,vp_2,vp_3], .fr F1]) (fun z=>True) ?_ ?_
  ·refine fP ?_;refine eM ?_;refine q20 ?_;have hm29:p.Domains.length≤9223372036854775807:=hp_0.2.1▸hp_0.1.max;refine fH ?_;refine dB rfl rfl rfl (fun h8=>?_) (fun h8=>?_)
   ·have p8:=of_decide_eq_true h8;refine fv ?_;refine eM ?_;refine cK (dg rfl rfl hp_1 (List.length_map _)) ?_;have hm36:p.Rules.Pairs.length≤9223372036854775807:=(List.length_map _)▸hp_1.max;refine TL.run 4 rfl ?_;refine dB rfl rfl rfl (fun h9=>?_) (fun h9=>?_)
    ·have p9:=of_decide_eq_true h9;refine fv ?_;refine eM ?_;refine q4m ?_;have hm44:p.Rules.Loads.length≤9223372036854775807:=(List.length_map _)▸hp_2.max;refine TL.run 4 rfl ?_;refine dB rfl rfl rfl (fun h10=>?_) (fun h10=>?_)
     ·have p10:=of_decide_eq_true h10;refine fv ?_;refine eM ?_;refine cK (dg rfl rfl hp_3 (List.length_map _)) ?_;have hm52:p.Rules.Caps.length≤9223372036854775807:=(List.length_map _)▸hp_3.max;refine nb ?_;exact cO () trivial (.b (kI (iE (iE h8 h9) h10)) .nil) (List.Sublist.refl _)
     ·have p10:=of_decide_eq_false h10;refine TL.run 8 rfl ?_;refine eV ?_;exact cO () trivial (.b (gh (iE (iE h8 h9) h10)).symm .nil) (List.Sublist.refl _)
    ·have p9:=of_decide_eq_false h9;refine TL.run 16 rfl ?_;refine eV ?_;exact cO () trivial (.b (gh (gh (iE h8 h9))).symm .nil) (List.Sublist.refl _)
   ·have p8:=of_decide_eq_false h8;refine TL.run 24 rfl ?_;refine eV ?_;exact cO () trivial (.b (gh (gh (gh h8))).symm .nil) (List.Sublist.refl _)
  ·rintro _ _;have hm29:p.Domains.length≤9223372036854775807:=hp_0.2.1▸hp_0.1.max;have hm36:p.Rules.Pairs.length≤9223372036854775807:=(List.length_map _)▸hp_1.max;have hm44:p.Rules.Loads.length≤9223372036854775807:=(List.length_map _)▸hp_2.max;have hm52:p.Rules.Caps.length≤9223372036854775807:=(List.length_map _)▸hp_3.max;refine T.ret ?_;obtain rfl:=Option.some.inj hk;exact eA
def cI (F:Frz)(c:List Value)(x:List GChoice):Prop:=∃(v0:Value),c=[v0]∧SlC F v0 2 (x.map cG)
theorem R_List_GChoice.mono {F G:Frz}{c:List Value}{x:List GChoice}(hle:F.Le G)(h:cI F c x):cI G c x:=by
 obtain ⟨v0,h0,h1⟩:=h;exact ⟨v0,h0,h1.mono hle⟩
theorem R_List_GChoice.len {F:Frz}{c:List Value}{x:List GChoice}(h:cI F c x):c.length=1:=by
 obtain ⟨v0,h0,h1⟩:=h;subst h0;rfl
theorem R_List_GChoice.one {F:Frz}{c:List Value}{x:List GChoice}(h:cI F c x):OneCs c:=by
 obtain ⟨v0,h0,h1⟩:=h;subst h0;haveI:=h1.oneC
 infer_instance
theorem R_List_GChoice.c0 {F:Frz}{c:List Value}{x:List GChoice}(h:cI F c x):c[0]?=some (cH c 0)∧SlC F (cH c 0) 2 (x.map cG):=by
 obtain ⟨v0,h0,h1⟩:=h;subst h0;exact ⟨rfl,h1⟩
theorem kS {F:Frz}{c:List Value}{x:List GChoice}(h:cI F c x):(c.drop 0).take 1=[cH c 0]:=by
 obtain ⟨v0,h0,h1⟩:=h;subst h0;rfl
def zbj (d:List GDomain)(g_:List GChoice)(s:Int)(c:Int):Bool:=
 dV (fun (has_1:Bool)=>
  has_1)
 (fun k2=>
  di (fun (i_5:Nat) (next4:Bool→Bool) (has_3:Bool)=>
   (bif decide ((cH g_ i_5).Station=s) then
    next4 (decide ((cH g_ i_5).Channel=c))
    else
    (bif !(lw d ((cH g_ i_5).Station) ((cH g_ i_5).Channel)) then
     false
     else
     next4 has_3)))
  (fun (has_3:Bool)=>
   k2 has_3) (g_.length - 0) 0 false)
theorem zfM (F0:Frz)(w:World)(hF0:F0.At w)(d:List GDomain)(vd:Value)(cd:List (List Value))(hd:SlD cJ F0 vd 2 cd d)(g_:List GChoice)(vg_:Value)(hg_:SlC F0 vg_ 2 (g_.map cG))(s:Int)(c:Int):Calls Tryz.prog 130 #[vd,vg_, .int .i64 s, .int .i64 c] w fun e w'=>e= .returned (.bool (zbj d g_ s c))∧Below w.heap.size w w':=by
 obtain ⟨r,hk⟩:∃r,zbj d g_ s c=r:=⟨_,rfl⟩;rw [hk];unfold zbj at hk;haveI:=hd.1.oneC;haveI:=hg_.oneC;obtain ⟨S0,F1,rfl,hS0,hp0⟩:=fx hF0;refine dz Tryz.func130 rfl rfl rfl hp0 ?_;refine lY ?_;refine mj ?_;have hq:=eE hk;clear hk;obtain ⟨k2,hk2,hk⟩:=hq; (try dsimp only at hk);refine dc (ι:=Bool) (fun z=>[(9, .bool z)]) (fun z=>[.fr F1]) (fun z=>k2 z=r) ?_ ?_
 ·have hq:=fJ hk;clear hk;obtain ⟨f4,kk4,hf4,hkk4,hk⟩:=hq;refine eY ?_;refine T.loop (ι:=Nat×Bool) (fun z=>[(0,vd),(1,vg_),(2, .int .i64 s),(3, .int .i64 c),(9, .bool z.2),(10, .int .i64 (z.1:Int))]) (fun z=>[.fr F1]) (fun z=>di f4 kk4 (g_.length - z.1) z.1 z.2=r) (fun z=>g_.length - z.1) (0,false) ?_ ?_ ?_ ?_
  ·exact hk
  ·exact q4Z
  ·exact eN
  ·rintro ⟨i_5,has_3⟩ hk; (try dsimp only at *);refine im ?_;refine q4q ?_;have hm13:g_.length≤9223372036854775807:=(List.length_map _)▸hg_.max;refine dJ ?_;refine T.cond rfl (fun h6=>?_) (fun h6=>?_)
   ·have p6:=of_decide_eq_true h6;rw [fK a6] at hk;generalize hn4:di f4 kk4 (g_.length - (i_5+1)) (i_5+1)=next4 at hk;rw [←hf4] at hk; (try dsimp only at hk);refine my ?_;refine q4f ?_;refine cK (dT 0 (i:=i_5) (j:=0) rfl rfl rfl hg_ a6) ?_;refine jg ?_;refine T.cond rfl (fun h7=>?_) (fun h7=>?_)
    ·have p7:=of_decide_eq_true h7;replace hk:=dC hk h7;refine iA ?_;refine q4f ?_;refine cK (dT 0 (i:=i_5) (j:=1) rfl rfl rfl hg_ a6) ?_;refine fH ?_;refine mp ?_;refine lM ?_;rw [←hn4] at hk;exact K.next ((i_5+1),decide ((cH g_ i_5).Channel=c)) hk b3 (.c (.c (.c (.c (.c (.c .nil)))))) (List.Sublist.refl _)
    ·have p7:=of_decide_eq_false h7;replace hk:=dD hk h7;refine T.seq ?_;refine q1K ?_;refine q37 ?_;refine cN rfl (dT 0 (i:=i_5) (j:=0) rfl rfl rfl hg_ a6) ?_;refine fj ?_;refine q37 ?_;refine cN rfl (dT 0 (i:=i_5) (j:=1) rfl rfl rfl hg_ a6) ?_;refine dt ?_;refine cQ rfl (Wt.none) rfl rfl (cL rfl rfl rfl (fun w hw=>zcX _ w (hw.fr (i:=0) rfl) d vd cd hd ((cH g_ i_5).Station) ((cH g_ i_5).Channel))) ?_;refine i6 ?_;refine kB ?_;refine T.cond rfl (fun h8=>?_) (fun h8=>?_)
     ·replace hk:=dC hk h8;refine iX ?_;subst hk;exact eA
     ·replace hk:=dD hk h8;refine gV ?_;rw [←hn4] at hk;exact K.next ((i_5+1),has_3) hk b3 (.c (.c (.c (.c (.c (.c .nil)))))) (List.Sublist.refl _)
   ·have p6:=of_decide_eq_false h6;rw [fL a6,←hkk4] at hk; (try dsimp only at hk);refine ft ?_;exact cO has_3 hk (.c .nil) (List.Sublist.refl _)
 ·rintro has_1 hk;rw [←hk2] at hk; (try dsimp only at hk);refine ip ?_;refine gk ?_;subst hk;exact eA
def zdc (p:GProblem)(store:List (List GChoice))(d:List GDomain)(s:Int)(c:Int):Bool:=
 dV (fun (_:Unit)=>
  (zbc p d s c))
 (fun k1=>
  di (fun (i_3:Nat) (next2:Unit→Bool) (_:Unit)=>
   (bif (zbj d (cH store i_3) s c) then
    true
    else
    next2 ()))
  (fun (_:Unit)=>
   k1 ()) (store.length - 0) 0 ())
def zcD (fuel:Nat)(p:GProblem)(store:List (List GChoice))(d:List GDomain):Option (List GDomain×Bool):=
 dV (fun (d_1:List GDomain)=>
  dV (fun (_:Unit)=>
   dV (fun (_:Unit)=>
    some (d_1,true))
   (fun k25=>
    di (fun (i_27:Nat) (next26:Unit→Option (List GDomain×Bool)) (_:Unit)=>
     (bif decide (((cH store i_27).length:Int)=0) then
      some ([],false)
      else
      next26 ()))
    (fun (_:Unit)=>
     k25 ()) (store.length - 0) 0 ()))
  (fun k20=>
   di (fun (i_22:Nat) (next21:Unit→Option (List GDomain×Bool)) (_:Unit)=>
    (bif decide ((((cH d_1 i_22).Channels).length:Int)=0) then
     some ([],false)
     else
     next21 ()))
   (fun (_:Unit)=>
    k20 ()) (d_1.length - 0) 0 ()))
 (fun k2=>
  gJ (fun (next5:(List GDomain×Bool)→Option (List GDomain×Bool)) (s5:List GDomain×Bool)=>
   (bif s5.2 then
    gJ (fun (next11:(List GDomain×Bool×Int)→Option (List GDomain×Bool)) (s11:List GDomain×Bool×Int)=>
     (bif decide (s11.2.2<(s11.1.length:Int)) then
      em (0≤s11.2.2∧s11.2.2<(s11.1.length:Int)) <|
      jD (fun (k_17:Nat) (next16:(List GDomain×Bool)→Option (List GDomain×Bool)) (s16:List GDomain×Bool)=>
       em (0≤s11.2.2∧s11.2.2<(s16.1.length:Int)) <|
       em (0≤(k_17:Int)∧(k_17:Int)<(((cH s16.1 s11.2.2.toNat).Channels).length:Int)) <|
       (bif (zdc p store s16.1 ((cH s16.1 s11.2.2.toNat).Station) (cH ((cH s16.1 s11.2.2.toNat).Channels) k_17)) then
        (mP s16.1 ((cH s16.1 s11.2.2.toNat).Station) (cH ((cH s16.1 s11.2.2.toNat).Channels) k_17)).bind fun r55=>
        next16 (r55,true)
        else
        next16 (s16.1,s16.2)))
      (fun (s16:List GDomain×Bool)=>
       next11 (s16.1,s16.2,(s11.2.2+1))) (((cH s11.1 s11.2.2.toNat).Channels).length) (s11.1,s11.2.1)
      else
      next5 (s11.1,s11.2.1))) fuel (s5.1,false,0)
    else
    k2 s5.1)) fuel (d,true))
def zcb (fuel:Nat)(p:GProblem)(store:List (List GChoice))(l:List GChoice):Option (List GDomain×Bool):=
 dV (fun (d_1:List GDomain)=>
  (zcD fuel p store d_1).bind fun r33=>
  some (r33.1,r33.2))
 (fun k2=>
  di (fun (i_5:Nat) (next4:List GDomain→Option (List GDomain×Bool)) (d_3:List GDomain)=>
   (zbp d_3 ((cH l i_5).Station) ((cH l i_5).Channel)).bind fun r29=>
   next4 r29)
  (fun (d_3:List GDomain)=>
   k2 d_3) (l.length - 0) 0 p.Domains)
def zb8 (a:List (List GChoice))(b:List (List GChoice)):Bool:=
 (bif decide (¬(a.length:Int)=(b.length:Int)) then
  false
  else
  dV (fun (_:Unit)=>
   true)
  (fun k2=>
   di (fun (i_4:Nat) (next3:Unit→Bool) (_:Unit)=>
    (bif !(zaV (cH a i_4) (cH b i_4)) then
     false
     else
     next3 ()))
   (fun (_:Unit)=>
    k2 ()) (a.length - 0) 0 ()))
theorem ziL (F0:Frz)(w:World)(hF0:F0.At w)(a:List (List GChoice))(va:Value)(ca:List (List Value))(ha:SlD cI F0 va 1 ca a)(b:List (List GChoice))(vb:Value)(cb:List (List Value))(hb:SlD cI F0 vb 1 cb b):Calls Tryz.prog 37 #[va,vb] w fun e w'=>e= .returned (.bool (zb8 a b))∧Below w.heap.size w w':=by
 obtain ⟨r,hk⟩:∃r,zb8 a b=r:=⟨_,rfl⟩;rw [hk];unfold zb8 at hk;haveI:=ha.1.oneC;haveI:=hb.1.oneC;obtain ⟨S0,F1,rfl,hS0,hp0⟩:=fx hF0;refine dz Tryz.func37 rfl rfl rfl hp0 ?_;refine jE ?_;refine cK (dg rfl rfl ha.1 ha.2.1) ?_;have hm7:a.length≤9223372036854775807:=ha.2.1▸ha.1.max;refine dn ?_;refine cK (dg rfl rfl hb.1 hb.2.1) ?_;have hm9:b.length≤9223372036854775807:=hb.2.1▸hb.1.max;refine dJ ?_;refine T.cond rfl (fun h1=>?_) (fun h1=>?_)
 ·have p1:=of_decide_eq_true h1;replace hk:=dC hk h1;refine jc ?_;subst hk;exact eA
 ·have p1:=of_decide_eq_false h1;replace hk:=dD hk h1;refine ku ?_;refine dJ ?_;have hq:=eE hk;clear hk;obtain ⟨k2,hk2,hk⟩:=hq; (try dsimp only at hk);refine dc (ι:=Unit) (fun z=>[]) (fun z=>[.fr F1]) (fun z=>k2 ()=r) ?_ ?_
  ·have hq:=fJ hk;clear hk;obtain ⟨f3,kk3,hf3,hkk3,hk⟩:=hq;refine eY ?_;refine T.loop (ι:=Nat) (fun z=>[(0,va),(1,vb),(5, .int .i64 (z:Int))]) (fun z=>[.fr F1]) (fun z=>di f3 kk3 (a.length - z) z ()=r) (fun z=>a.length - z) 0 ?_ ?_ ?_ ?_
   ·exact hk
   ·exact mr
   ·exact eN
   ·rintro i_4 hk;refine im ?_;refine cK (dg rfl rfl ha.1 ha.2.1) ?_;refine dJ ?_;refine T.cond rfl (fun h5=>?_) (fun h5=>?_)
    ·have p5:=of_decide_eq_true h5;rw [fK a6] at hk;generalize hn3:di f3 kk3 (a.length - (i_4+1)) (i_4+1)=next3 at hk;rw [←hf3] at hk; (try dsimp only at hk);refine q3u ?_;refine fj ?_;refine cN rfl (c7 (i:=i_4) rfl rfl rfl ha.1 ha.2.1 rfl a6) ?_;refine cN rfl (dp 0 (i:=i_4) (j:=0) rfl rfl rfl ha.1 ha.2.1 a6 rfl (R_List_GChoice.c0 (ha.2.2 i_4 a6)).1) ?_;have hd20_0:=(R_List_GChoice.c0 (ha.2.2 i_4 a6)).2;haveI:=hd20_0.oneC;refine fj ?_;refine cN rfl (c7 (i:=i_4) rfl rfl rfl hb.1 hb.2.1 rfl a6) ?_;refine cN rfl (dp 0 (i:=i_4) (j:=0) rfl rfl rfl hb.1 hb.2.1 a6 rfl (R_List_GChoice.c0 (hb.2.2 i_4 a6)).1) ?_;have hd24_0:=(R_List_GChoice.c0 (hb.2.2 i_4 a6)).2;haveI:=hd24_0.oneC;refine dt ?_;refine cQ rfl (Wt.none) rfl rfl (cL rfl rfl rfl (fun w hw=>zc2 _ w (hw.fr (i:=0) rfl) (cH a i_4) (cH (cH ca i_4) 0) hd20_0 (cH b i_4) (cH (cH cb i_4) 0) hd24_0)) ?_;refine i6 ?_;refine kB ?_;refine T.cond rfl (fun h6=>?_) (fun h6=>?_)
     ·replace hk:=dC hk h6;refine iX ?_;subst hk;exact eA
     ·replace hk:=dD hk h6;refine gV ?_;rw [←hn3] at hk;exact K.next (i_4+1) hk a6 (.c (.c (.c .nil))) (List.Sublist.refl _)
    ·have p5:=of_decide_eq_false h5;rw [fL a6,←hkk3] at hk; (try dsimp only at hk);refine ft ?_;exact kv
  ·rintro _ hk;rw [←hk2] at hk; (try dsimp only at hk);refine kn ?_;subst hk;exact eA
theorem zea (F0:Frz)(w:World)(hF0:F0.At w)(l:List GChoice)(vl:Value)(hl:SlC F0 vl 2 (l.map cG))(hr:dv l.length 16):Calls Tryz.prog 99 #[vl] w fun e w'=>∃v':Value,True∧e= .returned v'∧Hp w (fun _=>False) [.sl v' 34 2 l.length (l.flatMap cG)] w':=by
 haveI:=hl.oneC;have hl0:=hl;obtain ⟨A,cap,hv,hlc,hcm,hcl,hcs⟩:=hl0;have hlen:(l.map cG).length=l.length:=List.length_map _;obtain ⟨S0,F1,hF1,hS0,hp0⟩:=fx hF0
 cases hA:A with
 |none=>
  have h0:l=[]:=by
   cases l with
   |nil=>rfl
   |cons x r=>
    obtain ⟨g,off,h1,_⟩:=hcs b2;rw [hA] at h1;cases h1
  subst h0;refine dz (M:=fun _=>False) (hs:=[.fr F1]) Tryz.func99 rfl rfl rfl hp0 ?_;refine jE ?_;refine cK (lP (v:= .bool true) rfl rfl rfl (fun w=>by rw [hv,hA];kernel_rfl)) ?_;refine ms ?_;refine gX ?_;refine lQ ?_;refine ly ?_;exact cU rfl rfl (fun w' hw=>⟨.slice none 0 0,trivial,rfl,hw.sub Sx⟩)
 |some a=>
  rw [←hF1] at hl;refine dz (M:=fun _=>False) (hs:=[.fr F1]) Tryz.func99 rfl rfl rfl hp0 ?_;refine jE ?_;refine cK (lP (v:= .bool false) rfl rfl rfl (fun w=>by rw [hv,hA];kernel_rfl)) ?_;refine nj ?_;refine i2 ?_;refine cZ (Ew.bE rfl) ?_;rintro _ _ ⟨g,rfl,rfl⟩;refine dn ?_;refine cZ (ja 0 1 (k':=l.length) (l':=l.flatMap cG) (zec (enc:=cG) (fun _=>inferInstance)) rfl rfl rfl rfl rfl hl cC (by rw [List.nil_append,←List.flatMap_def]) hr a7) ?_;rintro v' _ ⟨hv',rfl⟩;refine fI ?_;exact cU rfl rfl (fun w' hw=>⟨v',trivial,rfl,hw.sub Sx⟩)
theorem ziK (F0:Frz)(w:World)(hF0:F0.At w)(l:List GChoice)(vl:Value)(hl:SlC F0 vl 2 (l.map cG))(hr:dv l.length 16):Calls Tryz.prog 99 #[vl] w fun e w'=>∃(y:Value) (G:Frz),SlC G y 2 (l.map cG)∧e= .returned y∧Fx F0 w G w':=by
 refine (zea F0 w hF0 l vl hl hr).mono ?_;rintro e w' ⟨v',_,rfl,hw⟩;obtain ⟨G,h1,h2,h3⟩:=Fx.hp hF0 hw;have h4:=iT (G:=G) (hw.own (.sl v' 34 2 l.length (l.flatMap cG)) b2) h2 (h3 _ b2);exact ⟨v',G,h4.toF rfl (fun _=>rfl),rfl,h1⟩
theorem zjB {F0 : Frz} {w : World} {vd vp vl vc : Value} {cd : List (List Value)} {p : GProblem} (hF0 : F0.At w) (h : PbF F0 vd cd vp vl vc p) :
    Calls Tryz.prog 25 #[.agg [vd, vp, vl, vc].toArray] w fun e w' => e = .returned (.bool (eD p)) ∧ Below w.heap.size w w' := by
  obtain ⟨P, rfl, hP⟩ := zjc h hF0; rw [← znv]; exact zgn P vd vp vl vc w hP
end Go.Proofs.YtgoeeefoinkepaaGreatDoor
