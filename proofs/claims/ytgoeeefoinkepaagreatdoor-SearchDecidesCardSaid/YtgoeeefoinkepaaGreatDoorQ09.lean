/- Yc Yn Sk: shortened and put together by squeeze.py. -/
import Derived.Test.YtgoeeefoinkepaaGreatDoorQ08
set_option maxRecDepth 100000
set_option maxHeartbeats 4000000
set_option linter.unusedVariables false
set_option linter.unusedSectionVars false
set_option linter.unusedSimpArgs false
namespace Go.Proofs.YtgoeeefoinkepaaGreatDoor
open Go.RowKit
theorem b7 {p:Prop}(h:p:=by rw [Vec.len];first|omega|(simp only [List.length_cons,List.length_nil];omega)):p:=h
structure GViolation where
 Kind:Int
 At:Int
deriving DecidableEq,Inhabited
abbrev ju (x:GViolation):List Value:=[.int .i64 x.Kind, .int .i64 x.At]
theorem GViolation.len (x:GViolation):(ju x).length=2:=rfl
def zcq (fuel:Nat)(p:GProblem)(domains:Int)(rules:Int):Option Bool:=
 dO (fun (_:Unit)=>
  some ((((decide ((p.Domains.length:Int)≤domains))&&(decide ((p.Rules.Pairs.length:Int)≤rules)))&&(decide ((p.Rules.Loads.length:Int)≤rules)))&&(decide ((p.Rules.Caps.length:Int)≤rules))))
 (fun k1=>
  iP (fun (next3:Int→Option Bool) (i_2:Int)=>
   (bif ((decide (i_2<(p.Domains.length:Int)))&&(decide (i_2<600))) then
    ex (0≤i_2∧i_2<(p.Domains.length:Int)) <|
    (bif decide (60<(((cH p.Domains i_2.toNat).Channels).length:Int)) then
     some false
     else
     next3 (i_2+1))
    else
    k1 ())) fuel 0)
theorem zhz (F0:Frz)(w:World)(hF0:F0.At w)(p:GProblem)(vp_0:Value)(cp_0:List (List Value))(hp_0:SlD cJ F0 vp_0 2 cp_0 p.Domains)(vp_1:Value)(hp_1:SlC F0 vp_1 5 (p.Rules.Pairs.map da))(vp_2:Value)(hp_2:SlC F0 vp_2 5 (p.Rules.Loads.map de))(vp_3:Value)(hp_3:SlC F0 vp_3 4 (p.Rules.Caps.map dk))(domains:Int)(rules:Int)(fuel:Nat)(r:Bool)(hr:zcq fuel p domains rules=some r):Calls Tryz.prog 8 #[.agg [vp_0,vp_1,vp_2,vp_3].toArray, .int .i64 domains, .int .i64 rules] w fun e w'=>e= .returned (.bool r)∧Below w.heap.size w w':=by
 have hk:=hr;unfold zcq at hk;haveI:=hp_0.1.oneC;haveI:=hp_1.oneC;haveI:=hp_2.oneC;haveI:=hp_3.oneC;obtain ⟨S0,F1,rfl,hS0,hp0⟩:=fX hF0;refine dB Tryz.func8 rfl rfl rfl hp0 ?_;refine jI ?_;rintro _ _ ⟨g3,rfl,rfl⟩;refine jD ?_;refine dR ?_;have hq:=fq hk;clear hk;obtain ⟨k1,hk1,hk⟩:=hq; (try dsimp only at hk);refine dg (ι:=Unit) (fun z=>[(1, .int .i64 domains),(2, .int .i64 rules),(3, .pointer (some ⟨g3,0,none⟩))]) (fun z=>[.row g3 31 [vp_0,vp_1,vp_2,vp_3], .fr F1]) (fun z=>k1 ()=some r) ?_ ?_
 ·have hq:=zeI hk;clear hk;obtain ⟨f3,hf3,hk⟩:=hq;refine fV ?_;refine T.loop (ι:=Nat×Int) (fun z=>[(1, .int .i64 domains),(2, .int .i64 rules),(3, .pointer (some ⟨g3,0,none⟩)),(7, .int .i64 z.2)]) (fun z=>[.row g3 31 [vp_0,vp_1,vp_2,vp_3], .fr F1]) (fun z=>iP f3 z.1 z.2=some r) (fun z=>z.1) (fuel,0) ?_ ?_ ?_ ?_
  ·exact hk
  ·exact mc
  ·exact fQ
  ·rintro ⟨m_4,i_2⟩ hk; (try dsimp only at *);have hq:=zfi hk;clear hk;obtain ⟨m_4',rfl,hk⟩:=hq;generalize hn3:iP f3 m_4'=next3 at hk;rw [←hf3] at hk; (try dsimp only at hk);refine T.seq (T.seq ?_);refine dg (ι:=Unit) (fun z=>[(1, .int .i64 domains),(2, .int .i64 rules),(3, .pointer (some ⟨g3,0,none⟩)),(7, .int .i64 i_2),(16, .bool ((decide (i_2<(p.Domains.length:Int)))&&(decide (i_2<600))))]) (fun z=>[.row g3 31 [vp_0,vp_1,vp_2,vp_3], .fr F1]) (fun z=>True) ?_ ?_
   ·refine fN ?_;refine i7 ?_;refine q2l ?_;have hm11:p.Domains.length≤9223372036854775807:=hp_0.2.1▸hp_0.1.max;refine ec ?_;refine du rfl rfl rfl (fun h5=>?_) (fun h5=>?_)
    ·have p5:=of_decide_eq_true h5;refine fb ?_;refine fO ?_;exact cP () trivial (.c (.c (.c (.c (.b (kJ h5) .nil))))) (List.Sublist.refl _)
    ·have p5:=of_decide_eq_false h5;refine fb ?_;refine fO ?_;exact cP () trivial (.c (.c (.c (.c (.b (fA h5).symm .nil))))) (List.Sublist.refl _)
   ·rintro _ _;have hm11:p.Domains.length≤9223372036854775807:=hp_0.2.1▸hp_0.1.max;refine T.cond rfl (fun h6=>?_) (fun h6=>?_)
    ·have p6:=h6; (try simp only [cT] at p6);replace hk:=dH hk h6;refine lA ?_;have hq:(0≤i_2∧i_2<(p.Domains.length:Int))∧_:=gZ hk;clear hk;obtain ⟨g22,hk⟩:=hq; (try dsimp only at hk);refine fN ?_;refine em ?_;refine dc ?_;refine cK (dj (i:=i_2.toNat) rfl rfl rfl hp_0.1 hp_0.2.1 a6 a6) ?_;refine cK (fI rfl rfl hp_0.1 hp_0.2.1 a6) ?_;refine cK (d9 1 (i:=i_2.toNat) (j:=1) rfl rfl rfl hp_0.1 hp_0.2.1 a6 rfl (GDomain.c1 (hp_0.2.2 i_2.toNat a6)).1) ?_;have hd24_1:=(GDomain.c1 (hp_0.2.2 i_2.toNat a6)).2;haveI:=hd24_1.oneC;refine cK (dn rfl rfl hd24_1 (List.length_map _)) ?_;have hm25:((cH p.Domains i_2.toNat).Channels).length≤9223372036854775807:=(List.length_map _)▸hd24_1.max;refine dR ?_;refine T.cond rfl (fun h7=>?_) (fun h7=>?_)
     ·have p7:=of_decide_eq_true h7;replace hk:=dH hk h7;refine jc ?_;obtain rfl:=Option.some.inj hk;exact eX
     ·have p7:=of_decide_eq_false h7;replace hk:=dL hk h7;refine iS ?_;rw [←hn3] at hk;exact K.next (m_4',(i_2+1)) hk b3 (.c (.c (.c (.c .nil)))) (List.Sublist.refl _)
    ·replace hk:=dL hk h6;refine fu ?_;exact cP () hk (.c (.c (.c .nil))) (List.Sublist.refl _)
 ·rintro _ hk;rw [←hk1] at hk; (try dsimp only at hk);refine T.seq ?_;refine dg (ι:=Unit) (fun z=>[(6, .bool ((((decide ((p.Domains.length:Int)≤domains))&&(decide ((p.Rules.Pairs.length:Int)≤rules)))&&(decide ((p.Rules.Loads.length:Int)≤rules)))&&(decide ((p.Rules.Caps.length:Int)≤rules))))]) (fun z=>[.row g3 31 [vp_0,vp_1,vp_2,vp_3], .fr F1]) (fun z=>True) ?_ ?_
  ·refine fN ?_;refine em ?_;refine q2l ?_;have hm29:p.Domains.length≤9223372036854775807:=hp_0.2.1▸hp_0.1.max;refine fb ?_;refine du rfl rfl rfl (fun h8=>?_) (fun h8=>?_)
   ·have p8:=of_decide_eq_true h8;refine ft ?_;refine em ?_;refine cK (dn rfl rfl hp_1 (List.length_map _)) ?_;have hm36:p.Rules.Pairs.length≤9223372036854775807:=(List.length_map _)▸hp_1.max;refine TL.run 4 rfl ?_;refine du rfl rfl rfl (fun h9=>?_) (fun h9=>?_)
    ·have p9:=of_decide_eq_true h9;refine ft ?_;refine em ?_;refine cK (dn rfl rfl hp_2 (List.length_map _)) ?_;have hm44:p.Rules.Loads.length≤9223372036854775807:=(List.length_map _)▸hp_2.max;refine TL.run 4 rfl ?_;refine du rfl rfl rfl (fun h10=>?_) (fun h10=>?_)
     ·have p10:=of_decide_eq_true h10;refine ft ?_;refine em ?_;refine cK (dn rfl rfl hp_3 (List.length_map _)) ?_;have hm52:p.Rules.Caps.length≤9223372036854775807:=(List.length_map _)▸hp_3.max;refine mv ?_;exact cP () trivial (.b (kJ (gG (gG h8 h9) h10)) .nil) (List.Sublist.refl _)
     ·have p10:=of_decide_eq_false h10;refine TL.run 8 rfl ?_;refine fO ?_;exact cP () trivial (.b (fA (gG (gG h8 h9) h10)).symm .nil) (List.Sublist.refl _)
    ·have p9:=of_decide_eq_false h9;refine TL.run 16 rfl ?_;refine fO ?_;exact cP () trivial (.b (fA (fA (gG h8 h9))).symm .nil) (List.Sublist.refl _)
   ·have p8:=of_decide_eq_false h8;refine TL.run 24 rfl ?_;refine fO ?_;exact cP () trivial (.b (fA (fA (fA h8))).symm .nil) (List.Sublist.refl _)
  ·rintro _ _;have hm29:p.Domains.length≤9223372036854775807:=hp_0.2.1▸hp_0.1.max;have hm36:p.Rules.Pairs.length≤9223372036854775807:=(List.length_map _)▸hp_1.max;have hm44:p.Rules.Loads.length≤9223372036854775807:=(List.length_map _)▸hp_2.max;have hm52:p.Rules.Caps.length≤9223372036854775807:=(List.length_map _)▸hp_3.max;refine T.ret ?_;obtain rfl:=Option.some.inj hk;exact eX
def zbe (x_:GPair)(l:List GChoice):Bool:=
 (((((decide (¬(gw l x_.A)=0))&&(decide (¬(gw l x_.B)=0)))&&(decide (x_.Low≤(gw l x_.A))))&&(decide ((gw l x_.A)≤x_.High)))&&(decide ((gw l x_.B)=wI ((gw l x_.A)+x_.Offset))))
theorem zeY (F0:Frz)(w:World)(hF0:F0.At w)(x_:GPair)(l:List GChoice)(vl:Value)(hl:SlC F0 vl 2 (l.map cG)):Calls Tryz.prog 76 #[.agg [.int .i64 x_.A, .int .i64 x_.B, .int .i64 x_.Offset, .int .i64 x_.Low, .int .i64 x_.High].toArray,vl] w fun e w'=>e= .returned (.bool (zbe x_ l))∧Below w.heap.size w w':=by
 obtain ⟨r,hk⟩:∃r,zbe x_ l=r:=⟨_,rfl⟩;rw [hk];unfold zbe at hk;haveI:=hl.oneC;obtain ⟨S0,F1,rfl,hS0,hp0⟩:=fX hF0;refine dB Tryz.func76 rfl rfl rfl hp0 ?_;refine jI ?_;rintro _ _ ⟨g2,rfl,rfl⟩;refine j6 ?_;refine dF (sN 0 3 (sN 4 3 (.eff 3 (.eff 7 (.still 8 (.still 9 .done)))))) _ a8 (List.Sublist.refl _) ?_;refine eR ?_;refine eW ?_;refine eR ?_;refine lR ?_;refine cQ rfl (Wt.none) rfl rfl (cL rfl rfl rfl (fun w hw=>zdm _ w (hw.fr (i:=1) rfl) l vl hl x_.A)) ?_;refine jh ?_;refine dx ?_;refine cQ rfl (Wt.none) rfl rfl (cL rfl rfl rfl (fun w hw=>zdm _ w (hw.fr (i:=1) rfl) l vl hl x_.B)) ?_;refine q3M ?_;refine fv ?_;refine K.seq (T.seq ?_);refine dg (ι:=Unit) (fun z=>[(4, .bool (((((decide (¬(gw l x_.A)=0))&&(decide (¬(gw l x_.B)=0)))&&(decide (x_.Low≤(gw l x_.A))))&&(decide ((gw l x_.A)≤x_.High)))&&(decide ((gw l x_.B)=wI ((gw l x_.A)+x_.Offset)))))]) (fun z=>[.row g2 69 [.int .i64 x_.A, .int .i64 x_.B, .int .i64 x_.Offset, .int .i64 x_.Low, .int .i64 x_.High], .fr F1]) (fun z=>True) ?_ ?_
 ·refine q3L ?_;refine du rfl rfl rfl (fun h1=>?_) (fun h1=>?_)
  ·have p1:=of_decide_eq_true h1;refine TL.run 4 rfl ?_;refine du rfl rfl rfl (fun h2=>?_) (fun h2=>?_)
   ·have p2:=of_decide_eq_true h2;refine em ?_;refine TL.run 4 rfl ?_;refine du rfl rfl rfl (fun h3=>?_) (fun h3=>?_)
    ·have p3:=of_decide_eq_true h3;refine i7 ?_;refine fb ?_;refine du rfl rfl rfl (fun h4=>?_) (fun h4=>?_)
     ·have p4:=of_decide_eq_true h4;refine ec ?_;refine em ?_;refine mv ?_;exact cP () trivial (.b (kJ (gG (gG (gG h1 h2) h3) h4)) .nil) (List.Sublist.refl _)
     ·have p4:=of_decide_eq_false h4;refine TL.run 8 rfl ?_;refine fO ?_;exact cP () trivial (.b (fA (gG (gG (gG h1 h2) h3) h4)).symm .nil) (List.Sublist.refl _)
    ·have p3:=of_decide_eq_false h3;refine TL.run 14 rfl ?_;refine fO ?_;exact cP () trivial (.b (fA (fA (gG (gG h1 h2) h3))).symm .nil) (List.Sublist.refl _)
   ·have p2:=of_decide_eq_false h2;refine TL.run 20 rfl ?_;refine fO ?_;exact cP () trivial (.b (fA (fA (fA (gG h1 h2)))).symm .nil) (List.Sublist.refl _)
  ·have p1:=of_decide_eq_false h1;refine TL.run 24 rfl ?_;refine fO ?_;exact cP () trivial (.b (fA (fA (fA (fA h1)))).symm .nil) (List.Sublist.refl _)
 ·rintro _ _;refine T.ret ?_;subst hk;exact eX
def zb1 (p:GProblem)(n:Int)(channel:Int)(l:List GChoice):Int:=
 dO (fun (sum_1:Int)=>
  sum_1)
 (fun k2=>
  dh (fun (i_5:Nat) (next4:Int→Int) (sum_3:Int)=>
   (bif ((((decide ((cH p.Rules.Loads i_5).To=n))&&(decide ((gw l ((cH p.Rules.Loads i_5).From))=channel)))&&(decide ((cH p.Rules.Loads i_5).Low≤channel)))&&(decide (channel≤(cH p.Rules.Loads i_5).High))) then
    next4 (wI (sum_3+((cH p.Rules.Loads i_5).Weight)))
    else
    next4 sum_3))
  (fun (sum_3:Int)=>
   k2 sum_3) (p.Rules.Loads.length - 0) 0 0)
theorem zia (F0:Frz)(w:World)(hF0:F0.At w)(p:GProblem)(vp_0:Value)(cp_0:List (List Value))(hp_0:SlD cJ F0 vp_0 2 cp_0 p.Domains)(vp_1:Value)(hp_1:SlC F0 vp_1 5 (p.Rules.Pairs.map da))(vp_2:Value)(hp_2:SlC F0 vp_2 5 (p.Rules.Loads.map de))(vp_3:Value)(hp_3:SlC F0 vp_3 4 (p.Rules.Caps.map dk))(n:Int)(channel:Int)(l:List GChoice)(vl:Value)(hl:SlC F0 vl 2 (l.map cG)):Calls Tryz.prog 109 #[.agg [vp_0,vp_1,vp_2,vp_3].toArray, .int .i64 n, .int .i64 channel,vl] w fun e w'=>e= .returned (.int .i64 (zb1 p n channel l))∧Below w.heap.size w w':=by
 obtain ⟨r,hk⟩:∃r,zb1 p n channel l=r:=⟨_,rfl⟩;rw [hk];unfold zb1 at hk;haveI:=hp_0.1.oneC;haveI:=hp_1.oneC;haveI:=hp_2.oneC;haveI:=hp_3.oneC;haveI:=hl.oneC;obtain ⟨S0,F1,rfl,hS0,hp0⟩:=fX hF0;refine dB Tryz.func109 rfl rfl rfl hp0 ?_;refine jI ?_;rintro _ _ ⟨g4,rfl,rfl⟩;refine gN ?_;refine jD ?_;refine dR ?_;have hq:=fq hk;clear hk;obtain ⟨k2,hk2,hk⟩:=hq; (try dsimp only at hk);refine dg (ι:=Int) (fun z=>[(9, .int .i64 z)]) (fun z=>[.fr F1]) (fun z=>k2 z=r) ?_ ?_
 ·have hq:=gF hk;clear hk;obtain ⟨f4,kk4,hf4,hkk4,hk⟩:=hq;refine fV ?_;refine T.loop (ι:=Nat×Int) (fun z=>[(1, .int .i64 n),(2, .int .i64 channel),(3,vl),(4, .pointer (some ⟨g4,0,none⟩)),(9, .int .i64 z.2),(10, .int .i64 (z.1:Int))]) (fun z=>[.row g4 31 [vp_0,vp_1,vp_2,vp_3], .fr F1]) (fun z=>dh f4 kk4 (p.Rules.Loads.length - z.1) z.1 z.2=r) (fun z=>p.Rules.Loads.length - z.1) (0,0) ?_ ?_ ?_ ?_
  ·exact hk
  ·exact (.c (.c (.c (.c (.c (.c .nil))))))
  ·exact fQ
  ·rintro ⟨i_5,sum_3⟩ hk; (try dsimp only at *);refine q3E ?_;refine em ?_;refine cK (dn rfl rfl hp_2 (List.length_map _)) ?_;have hm16:p.Rules.Loads.length≤9223372036854775807:=(List.length_map _)▸hp_2.max;refine dR ?_;refine T.cond rfl (fun h6=>?_) (fun h6=>?_)
   ·have p6:=of_decide_eq_true h6;rw [gH a6] at hk;generalize hn4:dh f4 kk4 (p.Rules.Loads.length - (i_5+1)) (i_5+1)=next4 at hk;rw [←hf4] at hk; (try dsimp only at hk);refine fT ?_;refine ft ?_;refine em ?_;refine dc ?_;refine cK (dj (i:=i_5) rfl rfl rfl hp_2 (List.length_map _) rfl a6) ?_;refine cK (eD 1 (i:=i_5) rfl rfl rfl hp_2 a6) ?_;refine iJ ?_;rintro _ _ ⟨g11,rfl,rfl⟩;refine q2H ?_;refine dg (ι:=Unit) (fun z=>[(1, .int .i64 n),(2, .int .i64 channel),(3,vl),(4, .pointer (some ⟨g4,0,none⟩)),(9, .int .i64 sum_3),(10, .int .i64 (i_5:Int)),(11, .pointer (some ⟨g11,0,none⟩)),(49, .bool ((((decide ((cH p.Rules.Loads i_5).To=n))&&(decide ((gw l ((cH p.Rules.Loads i_5).From))=channel)))&&(decide ((cH p.Rules.Loads i_5).Low≤channel)))&&(decide (channel≤(cH p.Rules.Loads i_5).High))))]) (fun z=>[.row g11 71 [.int .i64 ((cH p.Rules.Loads i_5).To), .int .i64 ((cH p.Rules.Loads i_5).From), .int .i64 ((cH p.Rules.Loads i_5).Weight), .int .i64 ((cH p.Rules.Loads i_5).Low), .int .i64 ((cH p.Rules.Loads i_5).High)], .row g4 31 [vp_0,vp_1,vp_2,vp_3], .fr F1]) (fun z=>True) ?_ ?_
    ·refine fN ?_;refine em ?_;refine fb ?_;refine du rfl rfl rfl (fun h7=>?_) (fun h7=>?_)
     ·have p7:=of_decide_eq_true h7;refine i7 ?_;refine df (cL rfl rfl rfl (fun w hw=>zdm _ w (hw.fr (i:=2) rfl) l vl hl ((cH p.Rules.Loads i_5).From))) ?_;refine eB ?_;refine TL.run 4 rfl ?_;refine du rfl rfl rfl (fun h8=>?_) (fun h8=>?_)
      ·have p8:=of_decide_eq_true h8;refine em ?_;refine TL.run 4 rfl ?_;refine du rfl rfl rfl (fun h9=>?_) (fun h9=>?_)
       ·have p9:=of_decide_eq_true h9;refine i7 ?_;refine lH ?_;exact cP () trivial (.c (.c (.c (.c (.c (.c (.c (.b (kJ (gG (gG h7 h8) h9)) .nil)))))))) (List.Sublist.refl _)
       ·have p9:=of_decide_eq_false h9;refine q3k ?_;exact cP () trivial (.c (.c (.c (.c (.c (.c (.c (.b (fA (gG (gG h7 h8) h9)).symm .nil)))))))) (List.Sublist.refl _)
      ·have p8:=of_decide_eq_false h8;refine TL.run 11 rfl ?_;refine fO ?_;exact cP () trivial (.c (.c (.c (.c (.c (.c (.c (.b (fA (fA (gG h7 h8))).symm .nil)))))))) (List.Sublist.refl _)
     ·have p7:=of_decide_eq_false h7;refine TL.run 19 rfl ?_;refine fO ?_;exact cP () trivial (.c (.c (.c (.c (.c (.c (.c (.b (fA (fA (fA h7))).symm .nil)))))))) (List.Sublist.refl _)
    ·rintro _ _;refine T.cond rfl (fun h10=>?_) (fun h10=>?_)
     ·have p10:=h10; (try simp only [cT] at p10);replace hk:=dH hk h10;refine fN ?_;refine i7 ?_;refine ec ?_;refine TL.nil (eQ (K.seq (T.region ?_)));refine dc ?_;refine ku ?_;rw [←hn4] at hk;refine K.pick [1,2] rfl a7 ?_;exact K.next ((i_5+1),wI (sum_3+((cH p.Rules.Loads i_5).Weight))) hk b3 (.c (.c (.c (.c (.c (.c .nil)))))) (List.Sublist.refl _)
     ·replace hk:=dL hk h10;refine iS ?_;rw [←hn4] at hk;refine K.pick [1,2] rfl a7 ?_;exact K.next ((i_5+1),sum_3) hk b3 (.c (.c (.c (.c (.c (.c .nil)))))) (List.Sublist.refl _)
   ·have p6:=of_decide_eq_false h6;rw [gK a6,←hkk4] at hk; (try dsimp only at hk);refine fu ?_;refine mY ?_;exact cP sum_3 hk (.c .nil) (List.Sublist.refl _)
 ·rintro sum_1 hk;rw [←hk2] at hk; (try dsimp only at hk);refine i4 ?_;refine gM ?_;subst hk;exact eX
def zbl (p:GProblem)(x_:GCap)(l:List GChoice):Bool:=
 ((((decide (¬(gw l x_.Station)=0))&&(decide (x_.Low≤(gw l x_.Station))))&&(decide ((gw l x_.Station)≤x_.High)))&&(decide (x_.Max<(zb1 p x_.Station (gw l x_.Station) l))))
theorem zfa (F0:Frz)(w:World)(hF0:F0.At w)(p:GProblem)(vp_0:Value)(cp_0:List (List Value))(hp_0:SlD cJ F0 vp_0 2 cp_0 p.Domains)(vp_1:Value)(hp_1:SlC F0 vp_1 5 (p.Rules.Pairs.map da))(vp_2:Value)(hp_2:SlC F0 vp_2 5 (p.Rules.Loads.map de))(vp_3:Value)(hp_3:SlC F0 vp_3 4 (p.Rules.Caps.map dk))(x_:GCap)(l:List GChoice)(vl:Value)(hl:SlC F0 vl 2 (l.map cG)):Calls Tryz.prog 77 #[.agg [vp_0,vp_1,vp_2,vp_3].toArray, .agg [.int .i64 x_.Station, .int .i64 x_.Max, .int .i64 x_.Low, .int .i64 x_.High].toArray,vl] w fun e w'=>e= .returned (.bool (zbl p x_ l))∧Below w.heap.size w w':=by
 obtain ⟨r,hk⟩:∃r,zbl p x_ l=r:=⟨_,rfl⟩;rw [hk];unfold zbl at hk;haveI:=hp_0.1.oneC;haveI:=hp_1.oneC;haveI:=hp_2.oneC;haveI:=hp_3.oneC;haveI:=hl.oneC;obtain ⟨S0,F1,rfl,hS0,hp0⟩:=fX hF0;refine dB Tryz.func77 rfl rfl rfl hp0 ?_;refine jI ?_;rintro _ _ ⟨g3,rfl,rfl⟩;refine df (dv) ?_;rintro _ _ ⟨g4,rfl,rfl⟩;refine gN ?_;refine i7 ?_;refine df (cL rfl rfl rfl (fun w hw=>zdm _ w (hw.fr (i:=2) rfl) l vl hl x_.Station)) ?_;refine eB ?_;refine j6 ?_;refine dg (ι:=Unit) (fun z=>[(6, .bool ((((decide (¬(gw l x_.Station)=0))&&(decide (x_.Low≤(gw l x_.Station))))&&(decide ((gw l x_.Station)≤x_.High)))&&(decide (x_.Max<(zb1 p x_.Station (gw l x_.Station) l)))))]) (fun z=>[.row g4 73 [.int .i64 x_.Station, .int .i64 x_.Max, .int .i64 x_.Low, .int .i64 x_.High], .row g3 31 [vp_0,vp_1,vp_2,vp_3], .fr F1]) (fun z=>True) ?_ ?_
 ·refine dF (sN 0 20 (sN 21 2 (.eff 20 (sN 23 2 (.still 25 .done))))) _ a8 (List.Sublist.refl _) ?_;refine fU ?_;refine dz rfl rfl rfl rfl (fun h1=>?_) (fun h1=>?_)
  ·have p1:=of_decide_eq_true h1;refine eW ?_;refine TS.run 4 rfl ?_;refine dz rfl rfl rfl rfl (fun h2=>?_) (fun h2=>?_)
   ·have p2:=of_decide_eq_true h2;refine eR ?_;refine eW ?_;refine fU ?_;refine dz rfl rfl rfl rfl (fun h3=>?_) (fun h3=>?_)
    ·have p3:=of_decide_eq_true h3;refine cN rfl (fx 1) ?_;refine eW ?_;refine gE ?_;refine lR ?_;refine cQ rfl (Wt.some) rfl rfl (cL rfl rfl rfl (fun w hw=>zia _ w (hw.fr (i:=2) rfl) p vp_0 cp_0 hp_0 vp_1 hp_1 vp_2 hp_2 vp_3 hp_3 x_.Station (gw l x_.Station) l vl hl)) ?_;refine jh ?_;refine fU ?_;refine fv ?_;exact cP () trivial (.b (kJ (gG (gG h1 h2) h3)) .nil) (List.Sublist.refl _)
    ·have p3:=of_decide_eq_false h3;refine q2U ?_;refine fU ?_;refine fv ?_;exact cP () trivial (.b (fA (gG (gG h1 h2) h3)).symm .nil) (List.Sublist.refl _)
   ·have p2:=of_decide_eq_false h2;refine TS.run 13 rfl ?_;refine iZ ?_;refine fU ?_;refine fv ?_;exact cP () trivial (.b (fA (fA (gG h1 h2))).symm .nil) (List.Sublist.refl _)
  ·have p1:=of_decide_eq_false h1;refine TS.run 19 rfl ?_;refine iZ ?_;refine fU ?_;refine fv ?_;exact cP () trivial (.b (fA (fA (fA h1))).symm .nil) (List.Sublist.refl _)
 ·rintro _ _;refine T.ret ?_;subst hk;exact eX
def za7 (p:GProblem)(l:List GChoice)(all:Bool):GViolation:=
 dO (fun (s3:Int×Int)=>
  dO (fun (s16:Int×Int)=>
   dO (fun (s25:Int×Int)=>
    dO (fun (s34:Int×Int)=>
     (GViolation.mk 0 0))
    (fun k34=>
     dh (fun (i_38:Nat) (next37:(Int×Int)→GViolation) (s37:Int×Int)=>
      (bif (zbl p (cH p.Rules.Caps i_38) l) then
       (GViolation.mk 4 (i_38:Int))
       else
       next37 (s37.1,s37.2)))
     (fun (s37:Int×Int)=>
      k34 (s37.1,s37.2)) (p.Rules.Caps.length - 0) 0 (s25.1,s25.2)))
   (fun k25=>
    dh (fun (i_29:Nat) (next28:(Int×Int)→GViolation) (s28:Int×Int)=>
     (bif (zbe (cH p.Rules.Pairs i_29) l) then
      (GViolation.mk 3 (i_29:Int))
      else
      next28 (s28.1,s28.2)))
    (fun (s28:Int×Int)=>
     k25 (s28.1,s28.2)) (p.Rules.Pairs.length - 0) 0 (s16.1,s16.2)))
  (fun k16=>
   dh (fun (i_20:Nat) (next19:(Int×Int)→GViolation) (s19:Int×Int)=>
    (bif decide ((iT p ((cH l i_20).Station))<0) then
     (GViolation.mk 2 (i_20:Int))
     else
     next19 (s19.1,s19.2)))
   (fun (s19:Int×Int)=>
    k16 (s19.1,s19.2)) (l.length - 0) 0 (s3.1,s3.2)))
 (fun k3=>
  dh (fun (i_7:Nat) (next6:(Int×Int)→GViolation) (s6:Int×Int)=>
   (bif (((decide ((gw l ((cH p.Domains i_7).Station))=0))&&all)||((decide (¬(gw l ((cH p.Domains i_7).Station))=0))&&(!(zbC ((cH p.Domains i_7).Channels) (gw l ((cH p.Domains i_7).Station)))))) then
    (GViolation.mk 1 (i_7:Int))
    else
    next6 (s6.1,s6.2)))
  (fun (s6:Int×Int)=>
   k3 (s6.1,s6.2)) (p.Domains.length - 0) 0 (0,0))
theorem zhg (F0:Frz)(w:World)(hF0:F0.At w)(p:GProblem)(vp_0:Value)(cp_0:List (List Value))(hp_0:SlD cJ F0 vp_0 2 cp_0 p.Domains)(vp_1:Value)(hp_1:SlC F0 vp_1 5 (p.Rules.Pairs.map da))(vp_2:Value)(hp_2:SlC F0 vp_2 5 (p.Rules.Loads.map de))(vp_3:Value)(hp_3:SlC F0 vp_3 4 (p.Rules.Caps.map dk))(l:List GChoice)(vl:Value)(hl:SlC F0 vl 2 (l.map cG))(all:Bool):Calls Tryz.prog 43 #[.agg [vp_0,vp_1,vp_2,vp_3].toArray,vl, .bool all] w fun e w'=>e= .returned (.agg [.int .i64 ((za7 p l all).Kind), .int .i64 ((za7 p l all).At)].toArray)∧Below w.heap.size w w':=by
 obtain ⟨r,hk⟩:∃r,za7 p l all=r:=⟨_,rfl⟩;rw [hk];unfold za7 at hk;haveI:=hp_0.1.oneC;haveI:=hp_1.oneC;haveI:=hp_2.oneC;haveI:=hp_3.oneC;haveI:=hl.oneC;obtain ⟨S0,F1,rfl,hS0,hp0⟩:=fX hF0;refine dB Tryz.func43 rfl rfl rfl hp0 ?_;refine jI ?_;rintro _ _ ⟨g3,rfl,rfl⟩;refine iJ ?_;rintro _ _ ⟨g6,rfl,rfl⟩;refine ij ?_;refine dR ?_;have hq:=fq hk;clear hk;obtain ⟨k3,hk3,hk⟩:=hq; (try dsimp only at hk);refine dg (ι:=Int×Int) (fun z=>[(1,vl),(3, .pointer (some ⟨g3,0,none⟩)),(6, .pointer (some ⟨g6,0,none⟩))]) (fun z=>[.row g6 90 [.int .i64 z.1, .int .i64 z.2], .row g3 31 [vp_0,vp_1,vp_2,vp_3], .fr F1]) (fun z=>k3 (z.1,z.2)=r) ?_ ?_
 ·have hq:=gF hk;clear hk;obtain ⟨f6,kk6,hf6,hkk6,hk⟩:=hq;refine fV ?_;refine T.loop (ι:=Nat×Int×Int) (fun z=>[(1,vl),(2, .bool all),(3, .pointer (some ⟨g3,0,none⟩)),(6, .pointer (some ⟨g6,0,none⟩)),(7, .int .i64 (z.1:Int))]) (fun z=>[.row g6 90 [.int .i64 z.2.1, .int .i64 z.2.2], .row g3 31 [vp_0,vp_1,vp_2,vp_3], .fr F1]) (fun z=>dh f6 kk6 (p.Domains.length - z.1) z.1 (z.2.1,z.2.2)=r) (fun z=>p.Domains.length - z.1) (0,0,0) ?_ ?_ ?_ ?_
  ·exact hk
  ·exact q4h
  ·exact fQ
  ·rintro ⟨i_7,c_4,c_5⟩ hk; (try dsimp only at *);refine iX ?_;refine dc ?_;refine kS ?_;refine q2l ?_;have hm15:p.Domains.length≤9223372036854775807:=hp_0.2.1▸hp_0.1.max;refine dR ?_;refine T.cond rfl (fun h8=>?_) (fun h8=>?_)
   ·have p8:=of_decide_eq_true h8;rw [gH a6] at hk;generalize hn6:dh f6 kk6 (p.Domains.length - (i_7+1)) (i_7+1)=next6 at hk;rw [←hf6] at hk; (try dsimp only at hk);refine fT ?_;refine dc ?_;refine q13 ?_;refine cK (d9 2 (i:=i_7) (j:=0) rfl rfl rfl hp_0.1 hp_0.2.1 a6 rfl (GDomain.c0 (hp_0.2.2 i_7 a6))) ?_;refine df (cL rfl rfl rfl (fun w hw=>zdm _ w (hw.fr (i:=2) rfl) l vl hl ((cH p.Domains i_7).Station))) ?_;refine eB ?_;refine j6 ?_;refine dg (ι:=Unit) (fun z=>[(1,vl),(2, .bool all),(3, .pointer (some ⟨g3,0,none⟩)),(6, .pointer (some ⟨g6,0,none⟩)),(7, .int .i64 (i_7:Int)),(46, .bool (((decide ((gw l ((cH p.Domains i_7).Station))=0))&&all)||((decide (¬(gw l ((cH p.Domains i_7).Station))=0))&&(!(zbC ((cH p.Domains i_7).Channels) (gw l ((cH p.Domains i_7).Station)))))))]) (fun z=>[.row g6 90 [.int .i64 c_4, .int .i64 c_5], .row g3 31 [vp_0,vp_1,vp_2,vp_3], .fr F1]) (fun z=>True) ?_ ?_
    ·refine q3L ?_;refine du rfl rfl rfl (fun h9=>?_) (fun h9=>?_)
     ·have p9:=of_decide_eq_true h9;refine fb ?_;refine du rfl rfl rfl (fun h10=>?_) (fun h10=>?_)
      ·refine TL.run 14 rfl ?_;refine fO ?_;exact cP () trivial (.c (.c (.c (.c (.c (.b (iz (gG h9 h10)).symm .nil)))))) (List.Sublist.refl _)
      ·refine fb ?_;refine du rfl rfl rfl (fun h11=>?_) (fun h11=>?_)
       ·have p11:=of_decide_eq_true h11;refine q3I ?_;have hd41_1:=(GDomain.c1 (hp_0.2.2 i_7 a6)).2;haveI:=hd41_1.oneC;refine q2G ?_;exact cP () trivial (.c (.c (.c (.c (.c (.b (Eq.trans (kJ h11) (iA (gG h9 h10))) .nil)))))) (List.Sublist.refl _)
       ·have p11:=of_decide_eq_false h11;refine TL.run 11 rfl ?_;refine fO ?_;exact cP () trivial (.c (.c (.c (.c (.c (.b (i2 (gG h9 h10) (fA h11)).symm .nil)))))) (List.Sublist.refl _)
     ·have p9:=of_decide_eq_false h9;refine TL.run 6 rfl ?_;refine du rfl rfl rfl (fun h12=>?_) (fun h12=>?_)
      ·have p12:=of_decide_eq_true h12;refine q3I ?_;have hd41_1:=(GDomain.c1 (hp_0.2.2 i_7 a6)).2;haveI:=hd41_1.oneC;refine q2G ?_;exact cP () trivial (.c (.c (.c (.c (.c (.b (Eq.trans (kJ h12) (iA (fA h9))) .nil)))))) (List.Sublist.refl _)
      ·have p12:=of_decide_eq_false h12;refine TL.run 11 rfl ?_;refine fO ?_;exact cP () trivial (.c (.c (.c (.c (.c (.b (i2 (fA h9) (fA h12)).symm .nil)))))) (List.Sublist.refl _)
    ·rintro _ _;refine T.cond rfl (fun h13=>?_) (fun h13=>?_)
     ·replace hk:=dH hk h13;refine q3P ?_;subst hk;exact q36
     ·replace hk:=dL hk h13;refine iS ?_;rw [←hn6] at hk;exact K.next ((i_7+1),c_4,c_5) hk b3 (.c (.c (.c (.c (.c .nil))))) (List.Sublist.refl _)
   ·have p8:=of_decide_eq_false h8;rw [gK a6,←hkk6] at hk; (try dsimp only at hk);refine fu ?_;exact cP (c_4,c_5) hk (.c (.c (.c .nil))) (List.Sublist.refl _)
 ·rintro ⟨c_1,c_2⟩ hk; (try dsimp only at *);rw [←hk3] at hk; (try dsimp only at hk);refine q3O ?_;have hq:=fq hk;clear hk;obtain ⟨k16,hk16,hk⟩:=hq; (try dsimp only at hk);refine dg (ι:=Int×Int) (fun z=>[(1,vl),(3, .pointer (some ⟨g3,0,none⟩)),(6, .pointer (some ⟨g6,0,none⟩))]) (fun z=>[.row g6 90 [.int .i64 z.1, .int .i64 z.2], .row g3 31 [vp_0,vp_1,vp_2,vp_3], .fr F1]) (fun z=>k16 (z.1,z.2)=r) ?_ ?_
  ·have hq:=gF hk;clear hk;obtain ⟨f19,kk19,hf19,hkk19,hk⟩:=hq;refine fV ?_;refine T.loop (ι:=Nat×Int×Int) (fun z=>[(1,vl),(3, .pointer (some ⟨g3,0,none⟩)),(6, .pointer (some ⟨g6,0,none⟩)),(9, .int .i64 (z.1:Int))]) (fun z=>[.row g6 90 [.int .i64 z.2.1, .int .i64 z.2.2], .row g3 31 [vp_0,vp_1,vp_2,vp_3], .fr F1]) (fun z=>dh f19 kk19 (l.length - z.1) z.1 (z.2.1,z.2.2)=r) (fun z=>l.length - z.1) (0,c_1,c_2) ?_ ?_ ?_ ?_
   ·exact hk
   ·exact mc
   ·exact fQ
   ·rintro ⟨i_20,c_17,c_18⟩ hk; (try dsimp only at *);refine iX ?_;refine ec ?_;refine q2c ?_;have hm51:l.length≤9223372036854775807:=(List.length_map _)▸hl.max;refine dR ?_;refine T.cond rfl (fun h21=>?_) (fun h21=>?_)
    ·have p21:=of_decide_eq_true h21;rw [gH a6] at hk;generalize hn19:dh f19 kk19 (l.length - (i_20+1)) (i_20+1)=next19 at hk;rw [←hf19] at hk; (try dsimp only at hk);refine lA ?_;refine dF (sN 0 6 (.eff 6 (.still 7 .done))) _ a8 (List.Sublist.refl _) ?_;refine cN rfl (fx 1) ?_;refine gE ?_;refine cN rfl (dj (i:=i_20) rfl rfl rfl hl (List.length_map _) rfl a6) ?_;refine cN rfl (fI rfl rfl hl (List.length_map _) a6) ?_;refine cN rfl (ek 2 (i:=i_20) (j:=0) rfl rfl rfl hl a6) ?_;refine dx ?_;refine cQ rfl (Wt.none) rfl rfl (cL rfl rfl rfl (fun w hw=>zck _ w (hw.fr (i:=2) rfl) p vp_0 cp_0 hp_0 vp_1 hp_1 vp_2 hp_2 vp_3 hp_3 ((cH l i_20).Station))) ?_;refine jh ?_;refine kM ?_;refine T.cond rfl (fun h22=>?_) (fun h22=>?_)
     ·have p22:=of_decide_eq_true h22;replace hk:=dH hk h22;refine q3P ?_;subst hk;exact q36
     ·have p22:=of_decide_eq_false h22;replace hk:=dL hk h22;refine iS ?_;rw [←hn19] at hk;exact K.next ((i_20+1),c_17,c_18) hk b3 (.c (.c (.c (.c .nil)))) (List.Sublist.refl _)
    ·have p21:=of_decide_eq_false h21;rw [gK a6,←hkk19] at hk; (try dsimp only at hk);refine fu ?_;exact cP (c_17,c_18) hk (.c (.c (.c .nil))) (List.Sublist.refl _)
  ·rintro ⟨c_14,c_15⟩ hk; (try dsimp only at *);rw [←hk16] at hk; (try dsimp only at hk);refine q3O ?_;have hq:=fq hk;clear hk;obtain ⟨k25,hk25,hk⟩:=hq; (try dsimp only at hk);refine dg (ι:=Int×Int) (fun z=>[(1,vl),(3, .pointer (some ⟨g3,0,none⟩)),(6, .pointer (some ⟨g6,0,none⟩))]) (fun z=>[.row g6 90 [.int .i64 z.1, .int .i64 z.2], .row g3 31 [vp_0,vp_1,vp_2,vp_3], .fr F1]) (fun z=>k25 (z.1,z.2)=r) ?_ ?_
   ·have hq:=gF hk;clear hk;obtain ⟨f28,kk28,hf28,hkk28,hk⟩:=hq;refine fV ?_;refine T.loop (ι:=Nat×Int×Int) (fun z=>[(1,vl),(3, .pointer (some ⟨g3,0,none⟩)),(6, .pointer (some ⟨g6,0,none⟩)),(10, .int .i64 (z.1:Int))]) (fun z=>[.row g6 90 [.int .i64 z.2.1, .int .i64 z.2.2], .row g3 31 [vp_0,vp_1,vp_2,vp_3], .fr F1]) (fun z=>dh f28 kk28 (p.Rules.Pairs.length - z.1) z.1 (z.2.1,z.2.2)=r) (fun z=>p.Rules.Pairs.length - z.1) (0,c_14,c_15) ?_ ?_ ?_ ?_
    ·exact hk
    ·exact mc
    ·exact fQ
    ·rintro ⟨i_29,c_26,c_27⟩ hk; (try dsimp only at *);refine q3E ?_;refine kS ?_;refine cK (dn rfl rfl hp_1 (List.length_map _)) ?_;have hm69:p.Rules.Pairs.length≤9223372036854775807:=(List.length_map _)▸hp_1.max;refine dR ?_;refine T.cond rfl (fun h30=>?_) (fun h30=>?_)
     ·have p30:=of_decide_eq_true h30;rw [gH a6] at hk;generalize hn28:dh f28 kk28 (p.Rules.Pairs.length - (i_29+1)) (i_29+1)=next28 at hk;rw [←hf28] at hk; (try dsimp only at hk);refine fT ?_;refine ft ?_;refine kS ?_;refine dc ?_;refine cK (dj (i:=i_29) rfl rfl rfl hp_1 (List.length_map _) rfl a6) ?_;refine cK (eD 2 (i:=i_29) rfl rfl rfl hp_1 a6) ?_;refine dc ?_;refine df (cL rfl rfl rfl (fun w hw=>zeY _ w (hw.fr (i:=2) rfl) (cH p.Rules.Pairs i_29) l vl hl)) ?_;refine eB ?_;refine cR ?_;refine T.cond rfl (fun h31=>?_) (fun h31=>?_)
      ·replace hk:=dH hk h31;refine q3P ?_;subst hk;exact q36
      ·replace hk:=dL hk h31;refine iS ?_;rw [←hn28] at hk;exact K.next ((i_29+1),c_26,c_27) hk b3 (.c (.c (.c (.c .nil)))) (List.Sublist.refl _)
     ·have p30:=of_decide_eq_false h30;rw [gK a6,←hkk28] at hk; (try dsimp only at hk);refine fu ?_;exact cP (c_26,c_27) hk (.c (.c (.c .nil))) (List.Sublist.refl _)
   ·rintro ⟨c_23,c_24⟩ hk; (try dsimp only at *);rw [←hk25] at hk; (try dsimp only at hk);refine q3O ?_;have hq:=fq hk;clear hk;obtain ⟨k34,hk34,hk⟩:=hq; (try dsimp only at hk);refine dg (ι:=Int×Int) (fun z=>[(6, .pointer (some ⟨g6,0,none⟩))]) (fun z=>[.row g6 90 [.int .i64 z.1, .int .i64 z.2], .fr F1]) (fun z=>k34 (z.1,z.2)=r) ?_ ?_
    ·have hq:=gF hk;clear hk;obtain ⟨f37,kk37,hf37,hkk37,hk⟩:=hq;refine fV ?_;refine T.loop (ι:=Nat×Int×Int) (fun z=>[(1,vl),(3, .pointer (some ⟨g3,0,none⟩)),(6, .pointer (some ⟨g6,0,none⟩)),(11, .int .i64 (z.1:Int))]) (fun z=>[.row g6 90 [.int .i64 z.2.1, .int .i64 z.2.2], .row g3 31 [vp_0,vp_1,vp_2,vp_3], .fr F1]) (fun z=>dh f37 kk37 (p.Rules.Caps.length - z.1) z.1 (z.2.1,z.2.2)=r) (fun z=>p.Rules.Caps.length - z.1) (0,c_23,c_24) ?_ ?_ ?_ ?_
     ·exact hk
     ·exact mc
     ·exact fQ
     ·rintro ⟨i_38,c_35,c_36⟩ hk; (try dsimp only at *);refine q3E ?_;refine kS ?_;refine cK (dn rfl rfl hp_3 (List.length_map _)) ?_;have hm87:p.Rules.Caps.length≤9223372036854775807:=(List.length_map _)▸hp_3.max;refine dR ?_;refine T.cond rfl (fun h39=>?_) (fun h39=>?_)
      ·have p39:=of_decide_eq_true h39;rw [gH a6] at hk;generalize hn37:dh f37 kk37 (p.Rules.Caps.length - (i_38+1)) (i_38+1)=next37 at hk;rw [←hf37] at hk; (try dsimp only at hk);refine lA ?_;refine dF (sN 0 8 (.eff 8 .done)) _ a8 (List.Sublist.refl _) ?_;refine cN rfl (fx 1) ?_;refine gu ?_;refine gu ?_;refine q2k ?_;refine cN rfl (dj (i:=i_38) rfl rfl rfl hp_3 (List.length_map _) rfl a6) ?_;refine cN rfl (eD 2 (i:=i_38) rfl rfl rfl hp_3 a6) ?_;refine eR ?_;refine dx ?_;refine cQ rfl (Wt.none) rfl rfl (cL rfl rfl rfl (fun w hw=>zfa _ w (hw.fr (i:=2) rfl) p vp_0 cp_0 hp_0 vp_1 hp_1 vp_2 hp_2 vp_3 hp_3 (cH p.Rules.Caps i_38) l vl hl)) ?_;refine jh ?_;refine fv ?_;refine K.seq ?_;refine T.cond rfl (fun h40=>?_) (fun h40=>?_)
       ·replace hk:=dH hk h40;refine q3P ?_;subst hk;exact q36
       ·replace hk:=dL hk h40;refine iS ?_;rw [←hn37] at hk;exact K.next ((i_38+1),c_35,c_36) hk b3 (.c (.c (.c (.c .nil)))) (List.Sublist.refl _)
      ·have p39:=of_decide_eq_false h39;rw [gK a6,←hkk37] at hk; (try dsimp only at hk);refine fu ?_;refine K.pick [0,2] rfl a7 ?_;exact cP (c_35,c_36) hk (.c .nil) (List.Sublist.refl _)
    ·rintro ⟨c_32,c_33⟩ hk; (try dsimp only at *);rw [←hk34] at hk; (try dsimp only at hk);refine dd ?_;refine jm ?_;refine jX ?_;refine gM ?_;subst hk;exact q36
def zcm (p:GProblem)(l:List GChoice):Bool:=
 ((mR l)&&(decide ((za7 p l true).Kind=0)&&decide ((za7 p l true).At=0)))
theorem zh8 (F0:Frz)(w:World)(hF0:F0.At w)(p:GProblem)(vp_0:Value)(cp_0:List (List Value))(hp_0:SlD cJ F0 vp_0 2 cp_0 p.Domains)(vp_1:Value)(hp_1:SlC F0 vp_1 5 (p.Rules.Pairs.map da))(vp_2:Value)(hp_2:SlC F0 vp_2 5 (p.Rules.Loads.map de))(vp_3:Value)(hp_3:SlC F0 vp_3 4 (p.Rules.Caps.map dk))(l:List GChoice)(vl:Value)(hl:SlC F0 vl 2 (l.map cG)):Calls Tryz.prog 19 #[.agg [vp_0,vp_1,vp_2,vp_3].toArray,vl] w fun e w'=>e= .returned (.bool (zcm p l))∧Below w.heap.size w w':=by
 obtain ⟨r,hk⟩:∃r,zcm p l=r:=⟨_,rfl⟩;rw [hk];unfold zcm at hk;haveI:=hp_0.1.oneC;haveI:=hp_1.oneC;haveI:=hp_2.oneC;haveI:=hp_3.oneC;haveI:=hl.oneC;obtain ⟨S0,F1,rfl,hS0,hp0⟩:=fX hF0;refine dB Tryz.func19 rfl rfl rfl hp0 ?_;refine jI ?_;rintro _ _ ⟨g2,rfl,rfl⟩;refine j6 ?_;refine dg (ι:=Unit) (fun z=>[(4, .bool ((mR l)&&(decide ((za7 p l true).Kind=0)&&decide ((za7 p l true).At=0))))]) (fun z=>[.row g2 31 [vp_0,vp_1,vp_2,vp_3], .fr F1]) (fun z=>True) ?_ ?_
 ·refine kd ?_;refine df (cL rfl rfl rfl (fun w hw=>zdo _ w (hw.fr (i:=1) rfl) l vl hl)) ?_;refine eB ?_;refine dc ?_;refine du rfl rfl rfl (fun h1=>?_) (fun h1=>?_)
  ·refine jd ?_;refine dc ?_;refine df (cL rfl rfl rfl (fun w hw=>zhg _ w (hw.fr (i:=1) rfl) p vp_0 cp_0 hp_0 vp_1 hp_1 vp_2 hp_2 vp_3 hp_3 l vl hl true)) ?_;refine eB ?_;refine jm ?_;refine cK (Yv.ck a8 rfl rfl rfl) ?_;refine lH ?_;exact q4j
  ·refine TL.run 7 rfl ?_;refine fO ?_;exact q37
 ·rintro _ _;refine T.ret ?_;subst hk;exact eX
def cI (F:Frz)(c:List Value)(x:List GChoice):Prop:=∃(v0:Value),c=[v0]∧SlC F v0 2 (x.map cG)
theorem R_List_GChoice.mono {F G:Frz}{c:List Value}{x:List GChoice}(hle:F.Le G)(h:cI F c x):cI G c x:=by
 obtain ⟨v0,h0,h1⟩:=h;exact ⟨v0,h0,h1.mono hle⟩
theorem R_List_GChoice.len {F:Frz}{c:List Value}{x:List GChoice}(h:cI F c x):c.length=1:=by
 obtain ⟨v0,h0,h1⟩:=h;subst h0;rfl
theorem R_List_GChoice.one {F:Frz}{c:List Value}{x:List GChoice}(h:cI F c x):OneCs c:=by
 obtain ⟨v0,h0,h1⟩:=h;subst h0;haveI:=h1.oneC
 infer_instance
theorem R_List_GChoice.c0 {F:Frz}{c:List Value}{x:List GChoice}(h:cI F c x):c[0]?=some (cH c 0)∧SlC F (cH c 0) 2 (x.map cG):=by
 obtain ⟨v0,h0,h1⟩:=h;subst h0;exact ⟨rfl,h1⟩
theorem kL {F:Frz}{c:List Value}{x:List GChoice}(h:cI F c x):(c.drop 0).take 1=[cH c 0]:=by
 obtain ⟨v0,h0,h1⟩:=h;subst h0;rfl
def zcc (d:List GDomain)(g_:List GChoice)(s:Int)(c:Int):Bool:=
 dO (fun (has_1:Bool)=>
  has_1)
 (fun k2=>
  dh (fun (i_5:Nat) (next4:Bool→Bool) (has_3:Bool)=>
   (bif decide ((cH g_ i_5).Station=s) then
    next4 (decide ((cH g_ i_5).Channel=c))
    else
    (bif !(zbV d ((cH g_ i_5).Station) ((cH g_ i_5).Channel)) then
     false
     else
     next4 has_3)))
  (fun (has_3:Bool)=>
   k2 has_3) (g_.length - 0) 0 false)
def zc3 (p:GProblem)(store:List (List GChoice))(d:List GDomain)(s:Int)(c:Int):Bool:=
 dO (fun (_:Unit)=>
  (zbX p d s c))
 (fun k1=>
  dh (fun (i_3:Nat) (next2:Unit→Bool) (_:Unit)=>
   (bif (zcc d (cH store i_3) s c) then
    true
    else
    next2 ()))
  (fun (_:Unit)=>
   k1 ()) (store.length - 0) 0 ())
def zcz (fuel:Nat)(p:GProblem)(store:List (List GChoice))(d:List GDomain):Option (List GDomain×Bool):=
 dO (fun (d_1:List GDomain)=>
  dO (fun (_:Unit)=>
   dO (fun (_:Unit)=>
    some (d_1,true))
   (fun k25=>
    dh (fun (i_27:Nat) (next26:Unit→Option (List GDomain×Bool)) (_:Unit)=>
     (bif decide (((cH store i_27).length:Int)=0) then
      some ([],false)
      else
      next26 ()))
    (fun (_:Unit)=>
     k25 ()) (store.length - 0) 0 ()))
  (fun k20=>
   dh (fun (i_22:Nat) (next21:Unit→Option (List GDomain×Bool)) (_:Unit)=>
    (bif decide ((((cH d_1 i_22).Channels).length:Int)=0) then
     some ([],false)
     else
     next21 ()))
   (fun (_:Unit)=>
    k20 ()) (d_1.length - 0) 0 ()))
 (fun k2=>
  iP (fun (next5:(List GDomain×Bool)→Option (List GDomain×Bool)) (s5:List GDomain×Bool)=>
   (bif s5.2 then
    iP (fun (next11:(List GDomain×Bool×Int)→Option (List GDomain×Bool)) (s11:List GDomain×Bool×Int)=>
     (bif decide (s11.2.2<(s11.1.length:Int)) then
      ex (0≤s11.2.2∧s11.2.2<(s11.1.length:Int)) <|
      kF (fun (k_17:Nat) (next16:(List GDomain×Bool)→Option (List GDomain×Bool)) (s16:List GDomain×Bool)=>
       ex (0≤s11.2.2∧s11.2.2<(s16.1.length:Int)) <|
       ex (0≤(k_17:Int)∧(k_17:Int)<(((cH s16.1 s11.2.2.toNat).Channels).length:Int)) <|
       (bif (zc3 p store s16.1 ((cH s16.1 s11.2.2.toNat).Station) (cH ((cH s16.1 s11.2.2.toNat).Channels) k_17)) then
        (zby s16.1 ((cH s16.1 s11.2.2.toNat).Station) (cH ((cH s16.1 s11.2.2.toNat).Channels) k_17)).bind fun r55=>
        next16 (r55,true)
        else
        next16 (s16.1,s16.2)))
      (fun (s16:List GDomain×Bool)=>
       next11 (s16.1,s16.2,(s11.2.2+1))) (((cH s11.1 s11.2.2.toNat).Channels).length) (s11.1,s11.2.1)
      else
      next5 (s11.1,s11.2.1))) fuel (s5.1,false,0)
    else
    k2 s5.1)) fuel (d,true))
def zce (fuel:Nat)(p:GProblem)(store:List (List GChoice))(l:List GChoice):Option (List GDomain×Bool):=
 dO (fun (d_1:List GDomain)=>
  (zcz fuel p store d_1).bind fun r33=>
  some (r33.1,r33.2))
 (fun k2=>
  dh (fun (i_5:Nat) (next4:List GDomain→Option (List GDomain×Bool)) (d_3:List GDomain)=>
   (zbW d_3 ((cH l i_5).Station) ((cH l i_5).Channel)).bind fun r29=>
   next4 r29)
  (fun (d_3:List GDomain)=>
   k2 d_3) (l.length - 0) 0 p.Domains)
def zcO (a:List (List GChoice))(b:List (List GChoice)):Bool:=
 (bif decide (¬(a.length:Int)=(b.length:Int)) then
  false
  else
  dO (fun (_:Unit)=>
   true)
  (fun k2=>
   dh (fun (i_4:Nat) (next3:Unit→Bool) (_:Unit)=>
    (bif !(zbs (cH a i_4) (cH b i_4)) then
     false
     else
     next3 ()))
   (fun (_:Unit)=>
    k2 ()) (a.length - 0) 0 ()))
theorem zib (F0:Frz)(w:World)(hF0:F0.At w)(a:List (List GChoice))(va:Value)(ca:List (List Value))(ha:SlD cI F0 va 1 ca a)(b:List (List GChoice))(vb:Value)(cb:List (List Value))(hb:SlD cI F0 vb 1 cb b):Calls Tryz.prog 37 #[va,vb] w fun e w'=>e= .returned (.bool (zcO a b))∧Below w.heap.size w w':=by
 obtain ⟨r,hk⟩:∃r,zcO a b=r:=⟨_,rfl⟩;rw [hk];unfold zcO at hk;haveI:=ha.1.oneC;haveI:=hb.1.oneC;obtain ⟨S0,F1,rfl,hS0,hp0⟩:=fX hF0;refine dB Tryz.func37 rfl rfl rfl hp0 ?_;refine jB ?_;refine cK (dn rfl rfl ha.1 ha.2.1) ?_;have hm7:a.length≤9223372036854775807:=ha.2.1▸ha.1.max;refine dc ?_;refine cK (dn rfl rfl hb.1 hb.2.1) ?_;have hm9:b.length≤9223372036854775807:=hb.2.1▸hb.1.max;refine dR ?_;refine T.cond rfl (fun h1=>?_) (fun h1=>?_)
 ·have p1:=of_decide_eq_true h1;replace hk:=dH hk h1;refine ja ?_;subst hk;exact eX
 ·have p1:=of_decide_eq_false h1;replace hk:=dL hk h1;refine kh ?_;refine dR ?_;have hq:=fq hk;clear hk;obtain ⟨k2,hk2,hk⟩:=hq; (try dsimp only at hk);refine dg (ι:=Unit) (fun z=>[]) (fun z=>[.fr F1]) (fun z=>k2 ()=r) ?_ ?_
  ·have hq:=gF hk;clear hk;obtain ⟨f3,kk3,hf3,hkk3,hk⟩:=hq;refine fV ?_;refine T.loop (ι:=Nat) (fun z=>[(0,va),(1,vb),(5, .int .i64 (z:Int))]) (fun z=>[.fr F1]) (fun z=>dh f3 kk3 (a.length - z) z ()=r) (fun z=>a.length - z) 0 ?_ ?_ ?_ ?_
   ·exact hk
   ·exact q32
   ·exact fQ
   ·rintro i_4 hk;refine iX ?_;refine ec ?_;refine cK (dn rfl rfl ha.1 ha.2.1) ?_;refine dR ?_;refine T.cond rfl (fun h5=>?_) (fun h5=>?_)
    ·have p5:=of_decide_eq_true h5;rw [gH a6] at hk;generalize hn3:dh f3 kk3 (a.length - (i_4+1)) (i_4+1)=next3 at hk;rw [←hf3] at hk; (try dsimp only at hk);refine q26 ?_;refine gE ?_;refine cN rfl (dj (i:=i_4) rfl rfl rfl ha.1 ha.2.1 rfl a6) ?_;refine cN rfl (d9 0 (i:=i_4) (j:=0) rfl rfl rfl ha.1 ha.2.1 a6 rfl (R_List_GChoice.c0 (ha.2.2 i_4 a6)).1) ?_;have hd20_0:=(R_List_GChoice.c0 (ha.2.2 i_4 a6)).2;haveI:=hd20_0.oneC;refine gE ?_;refine cN rfl (dj (i:=i_4) rfl rfl rfl hb.1 hb.2.1 rfl a6) ?_;refine cN rfl (d9 0 (i:=i_4) (j:=0) rfl rfl rfl hb.1 hb.2.1 a6 rfl (R_List_GChoice.c0 (hb.2.2 i_4 a6)).1) ?_;have hd24_0:=(R_List_GChoice.c0 (hb.2.2 i_4 a6)).2;haveI:=hd24_0.oneC;refine dx ?_;refine cQ rfl (Wt.none) rfl rfl (cL rfl rfl rfl (fun w hw=>zdO _ w (hw.fr (i:=0) rfl) (cH a i_4) (cH (cH ca i_4) 0) hd20_0 (cH b i_4) (cH (cH cb i_4) 0) hd24_0)) ?_;refine jh ?_;refine kM ?_;refine T.cond rfl (fun h6=>?_) (fun h6=>?_)
     ·replace hk:=dH hk h6;refine jc ?_;subst hk;exact eX
     ·replace hk:=dL hk h6;refine iS ?_;rw [←hn3] at hk;exact K.next (i_4+1) hk a6 (.c (.c (.c .nil))) (List.Sublist.refl _)
    ·have p5:=of_decide_eq_false h5;rw [gK a6,←hkk3] at hk; (try dsimp only at hk);refine fu ?_;exact mg
  ·rintro _ hk;rw [←hk2] at hk; (try dsimp only at hk);refine ld ?_;subst hk;exact eX
theorem zd8 (F0:Frz)(w:World)(hF0:F0.At w)(l:List GChoice)(vl:Value)(hl:SlC F0 vl 2 (l.map cG))(hr:dQ l.length 16):Calls Tryz.prog 99 #[vl] w fun e w'=>∃v':Value,True∧e= .returned v'∧Hp w (fun _=>False) [.sl v' 34 2 l.length (l.flatMap cG)] w':=by
 haveI:=hl.oneC;have hl0:=hl;obtain ⟨A,cap,hv,hlc,hcm,hcl,hcs⟩:=hl0;have hlen:(l.map cG).length=l.length:=List.length_map _;obtain ⟨S0,F1,hF1,hS0,hp0⟩:=fX hF0
 cases hA:A with
 |none=>
  have h0:l=[]:=by
   cases l with
   |nil=>rfl
   |cons x r=>
    obtain ⟨g,off,h1,_⟩:=hcs b2;rw [hA] at h1;cases h1
  subst h0;refine dB (M:=fun _=>False) (hs:=[.fr F1]) Tryz.func99 rfl rfl rfl hp0 ?_;refine jB ?_;refine cK (ll (v:= .bool true) rfl rfl rfl (fun w=>by rw [hv,hA];kernel_rfl)) ?_;refine mi ?_;refine ic ?_;refine TL.slNil 34 2 ?_;refine ky ?_;exact cU rfl rfl (fun w' hw=>⟨.slice none 0 0,trivial,rfl,hw.sub Sx⟩)
 |some a=>
  rw [←hF1] at hl;refine dB (M:=fun _=>False) (hs:=[.fr F1]) Tryz.func99 rfl rfl rfl hp0 ?_;refine jB ?_;refine cK (ll (v:= .bool false) rfl rfl rfl (fun w=>by rw [hv,hA];kernel_rfl)) ?_;refine mJ ?_;refine i1 ?_;refine df (Ew.bC rfl) ?_;rintro _ _ ⟨g,rfl,rfl⟩;refine dc ?_;refine df (lG 0 1 (k':=l.length) (l':=l.flatMap cG) (zhE (enc:=cG) (fun _=>inferInstance)) rfl rfl rfl rfl rfl hl cC (by rw [List.nil_append,←List.flatMap_def]) hr a7) ?_;rintro v' _ ⟨hv',rfl⟩;refine fB ?_;exact cU rfl rfl (fun w' hw=>⟨v',trivial,rfl,hw.sub Sx⟩)
theorem zhJ (F0:Frz)(w:World)(hF0:F0.At w)(l:List GChoice)(vl:Value)(hl:SlC F0 vl 2 (l.map cG))(hr:dQ l.length 16):Calls Tryz.prog 99 #[vl] w fun e w'=>∃(y:Value) (G:Frz),SlC G y 2 (l.map cG)∧e= .returned y∧Fx F0 w G w':=by
 refine (zd8 F0 w hF0 l vl hl hr).mono ?_;rintro e w' ⟨v',_,rfl,hw⟩;obtain ⟨G,h1,h2,h3⟩:=Fx.hp hF0 hw;have h4:=iF (G:=G) (hw.own (.sl v' 34 2 l.length (l.flatMap cG)) b2) h2 (h3 _ b2);exact ⟨v',G,h4.toF rfl (fun _=>rfl),rfl,h1⟩
theorem zjs {F0 : Frz} {w : World} {vd vp vl vc : Value} {cd : List (List Value)} {p : GProblem} (hF0 : F0.At w) (h : PbF F0 vd cd vp vl vc p) :
    Calls Tryz.prog 25 #[.agg [vd, vp, vl, vc].toArray] w fun e w' => e = .returned (.bool (eF p)) ∧ Below w.heap.size w w' := by
  obtain ⟨P, rfl, hP⟩ := zjf h hF0; rw [← znP]; exact zf6 P vd vp vl vc w hP
end Go.Proofs.YtgoeeefoinkepaaGreatDoor
