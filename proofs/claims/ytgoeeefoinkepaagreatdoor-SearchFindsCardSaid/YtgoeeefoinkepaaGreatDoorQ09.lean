/- Yc Yn Sk: shortened and put together by squeeze.py. -/
import Derived.Test.YtgoeeefoinkepaaGreatDoorQ08
set_option maxRecDepth 100000
set_option maxHeartbeats 4000000
set_option linter.unusedVariables false
set_option linter.unusedSectionVars false
set_option linter.unusedSimpArgs false
namespace Go.Proofs.YtgoeeefoinkepaaGreatDoor
open Go.RowKit
theorem b7 {p:Prop}(h:p:=by rw [Vec.len];first|omega|(simp only [List.length_cons,List.length_nil];omega)):p:=h
structure GViolation where
 Kind:Int
 At:Int
deriving DecidableEq,Inhabited
abbrev jm (x:GViolation):List Value:=[.int .i64 x.Kind, .int .i64 x.At]
theorem GViolation.len (x:GViolation):(jm x).length=2:=rfl
def zct (fuel:Nat)(p:GProblem)(domains:Int)(rules:Int):Option Bool:=
 dP (fun (_:Unit)=>
  some ((((decide ((p.Domains.length:Int)≤domains))&&(decide ((p.Rules.Pairs.length:Int)≤rules)))&&(decide ((p.Rules.Loads.length:Int)≤rules)))&&(decide ((p.Rules.Caps.length:Int)≤rules))))
 (fun k1=>
  iQ (fun (next3:Int→Option Bool) (i_2:Int)=>
   (bif ((decide (i_2<(p.Domains.length:Int)))&&(decide (i_2<600))) then
    ez (0≤i_2∧i_2<(p.Domains.length:Int)) <|
    (bif decide (60<(((cH p.Domains i_2.toNat).Channels).length:Int)) then
     some false
     else
     next3 (i_2+1))
    else
    k1 ())) fuel 0)
theorem zg9 (F0:Frz)(w:World)(hF0:F0.At w)(p:GProblem)(vp_0:Value)(cp_0:List (List Value))(hp_0:SlD cJ F0 vp_0 2 cp_0 p.Domains)(vp_1:Value)(hp_1:SlC F0 vp_1 5 (p.Rules.Pairs.map de))(vp_2:Value)(hp_2:SlC F0 vp_2 5 (p.Rules.Loads.map dg))(vp_3:Value)(hp_3:SlC F0 vp_3 4 (p.Rules.Caps.map dq))(domains:Int)(rules:Int)(fuel:Nat)(r:Bool)(hr:zct fuel p domains rules=some r):Calls Tryz.prog 8 #[.agg [vp_0,vp_1,vp_2,vp_3].toArray, .int .i64 domains, .int .i64 rules] w fun e w'=>e= .returned (.bool r)∧Below w.heap.size w w':=by
 have hk:=hr;unfold zct at hk;haveI:=hp_0.1.oneC;haveI:=hp_1.oneC;haveI:=hp_2.oneC;haveI:=hp_3.oneC;obtain ⟨S0,F1,rfl,hS0,hp0⟩:=fY hF0;refine dC Tryz.func8 rfl rfl rfl hp0 ?_;refine jE ?_;rintro _ _ ⟨g3,rfl,rfl⟩;refine j1 ?_;refine dQ ?_;have hq:=fR hk;clear hk;obtain ⟨k1,hk1,hk⟩:=hq; (try dsimp only at hk);refine dh (ι:=Unit) (fun z=>[(1, .int .i64 domains),(2, .int .i64 rules),(3, .pointer (some ⟨g3,0,none⟩))]) (fun z=>[.row g3 31 [vp_0,vp_1,vp_2,vp_3], .fr F1]) (fun z=>k1 ()=some r) ?_ ?_
 ·have hq:=zet hk;clear hk;obtain ⟨f3,hf3,hk⟩:=hq;refine gA ?_;refine T.loop (ι:=Nat×Int) (fun z=>[(1, .int .i64 domains),(2, .int .i64 rules),(3, .pointer (some ⟨g3,0,none⟩)),(7, .int .i64 z.2)]) (fun z=>[.row g3 31 [vp_0,vp_1,vp_2,vp_3], .fr F1]) (fun z=>iQ f3 z.1 z.2=some r) (fun z=>z.1) (fuel,0) ?_ ?_ ?_ ?_
  ·exact hk
  ·exact q30
  ·exact fX
  ·rintro ⟨m_4,i_2⟩ hk; (try dsimp only at *);have hq:=zff hk;clear hk;obtain ⟨m_4',rfl,hk⟩:=hq;generalize hn3:iQ f3 m_4'=next3 at hk;rw [←hf3] at hk; (try dsimp only at hk);refine T.seq (T.seq ?_);refine dh (ι:=Unit) (fun z=>[(1, .int .i64 domains),(2, .int .i64 rules),(3, .pointer (some ⟨g3,0,none⟩)),(7, .int .i64 i_2),(16, .bool ((decide (i_2<(p.Domains.length:Int)))&&(decide (i_2<600))))]) (fun z=>[.row g3 31 [vp_0,vp_1,vp_2,vp_3], .fr F1]) (fun z=>True) ?_ ?_
   ·refine fI ?_;refine jn ?_;refine q2I ?_;have hm11:p.Domains.length≤9223372036854775807:=hp_0.2.1▸hp_0.1.max;refine d8 ?_;refine df rfl rfl rfl (fun h5=>?_) (fun h5=>?_)
    ·have p5:=of_decide_eq_true h5;refine eX ?_;refine eV ?_;exact cP () trivial (.c (.c (.c (.c (.b (jw h5) .nil))))) (List.Sublist.refl _)
    ·have p5:=of_decide_eq_false h5;refine eX ?_;refine eV ?_;exact cP () trivial (.c (.c (.c (.c (.b (eY h5).symm .nil))))) (List.Sublist.refl _)
   ·rintro _ _;have hm11:p.Domains.length≤9223372036854775807:=hp_0.2.1▸hp_0.1.max;refine T.cond rfl (fun h6=>?_) (fun h6=>?_)
    ·have p6:=h6; (try simp only [cT] at p6);replace hk:=dN hk h6;refine l6 ?_;have hq:(0≤i_2∧i_2<(p.Domains.length:Int))∧_:=iB hk;clear hk;obtain ⟨g22,hk⟩:=hq; (try dsimp only at hk);refine fI ?_;refine ej ?_;refine da ?_;refine cK (dp (i:=i_2.toNat) rfl rfl rfl hp_0.1 hp_0.2.1 a6 a6) ?_;refine cK (fT rfl rfl hp_0.1 hp_0.2.1 a6) ?_;refine cK (ei 1 (i:=i_2.toNat) (j:=1) rfl rfl rfl hp_0.1 hp_0.2.1 a6 rfl (GDomain.c1 (hp_0.2.2 i_2.toNat a6)).1) ?_;have hd24_1:=(GDomain.c1 (hp_0.2.2 i_2.toNat a6)).2;haveI:=hd24_1.oneC;refine cK (dk rfl rfl hd24_1 (List.length_map _)) ?_;have hm25:((cH p.Domains i_2.toNat).Channels).length≤9223372036854775807:=(List.length_map _)▸hd24_1.max;refine dQ ?_;refine T.cond rfl (fun h7=>?_) (fun h7=>?_)
     ·have p7:=of_decide_eq_true h7;replace hk:=dN hk h7;refine jo ?_;obtain rfl:=Option.some.inj hk;exact fb
     ·have p7:=of_decide_eq_false h7;replace hk:=dL hk h7;refine i2 ?_;rw [←hn3] at hk;exact K.next (m_4',(i_2+1)) hk b3 (.c (.c (.c (.c .nil)))) (List.Sublist.refl _)
    ·replace hk:=dL hk h6;refine fE ?_;exact cP () hk (.c (.c (.c .nil))) (List.Sublist.refl _)
 ·rintro _ hk;rw [←hk1] at hk; (try dsimp only at hk);refine T.seq ?_;refine dh (ι:=Unit) (fun z=>[(6, .bool ((((decide ((p.Domains.length:Int)≤domains))&&(decide ((p.Rules.Pairs.length:Int)≤rules)))&&(decide ((p.Rules.Loads.length:Int)≤rules)))&&(decide ((p.Rules.Caps.length:Int)≤rules))))]) (fun z=>[.row g3 31 [vp_0,vp_1,vp_2,vp_3], .fr F1]) (fun z=>True) ?_ ?_
  ·refine fI ?_;refine ej ?_;refine q2I ?_;have hm29:p.Domains.length≤9223372036854775807:=hp_0.2.1▸hp_0.1.max;refine eX ?_;refine df rfl rfl rfl (fun h8=>?_) (fun h8=>?_)
   ·have p8:=of_decide_eq_true h8;refine fw ?_;refine ej ?_;refine cK (dk rfl rfl hp_1 (List.length_map _)) ?_;have hm36:p.Rules.Pairs.length≤9223372036854775807:=(List.length_map _)▸hp_1.max;refine kj ?_;refine df rfl rfl rfl (fun h9=>?_) (fun h9=>?_)
    ·have p9:=of_decide_eq_true h9;refine fw ?_;refine ej ?_;refine cK (dk rfl rfl hp_2 (List.length_map _)) ?_;have hm44:p.Rules.Loads.length≤9223372036854775807:=(List.length_map _)▸hp_2.max;refine kj ?_;refine df rfl rfl rfl (fun h10=>?_) (fun h10=>?_)
     ·have p10:=of_decide_eq_true h10;refine fw ?_;refine ej ?_;refine cK (dk rfl rfl hp_3 (List.length_map _)) ?_;have hm52:p.Rules.Caps.length≤9223372036854775807:=(List.length_map _)▸hp_3.max;refine lT ?_;exact cP () trivial (.b (jw (fP (fP h8 h9) h10)) .nil) (List.Sublist.refl _)
     ·have p10:=of_decide_eq_false h10;refine TL.run 8 rfl ?_;refine eV ?_;exact cP () trivial (.b (eY (fP (fP h8 h9) h10)).symm .nil) (List.Sublist.refl _)
    ·have p9:=of_decide_eq_false h9;refine TL.run 16 rfl ?_;refine eV ?_;exact cP () trivial (.b (eY (eY (fP h8 h9))).symm .nil) (List.Sublist.refl _)
   ·have p8:=of_decide_eq_false h8;refine TL.run 24 rfl ?_;refine eV ?_;exact cP () trivial (.b (eY (eY (eY h8))).symm .nil) (List.Sublist.refl _)
  ·rintro _ _;have hm29:p.Domains.length≤9223372036854775807:=hp_0.2.1▸hp_0.1.max;have hm36:p.Rules.Pairs.length≤9223372036854775807:=(List.length_map _)▸hp_1.max;have hm44:p.Rules.Loads.length≤9223372036854775807:=(List.length_map _)▸hp_2.max;have hm52:p.Rules.Caps.length≤9223372036854775807:=(List.length_map _)▸hp_3.max;refine T.ret ?_;obtain rfl:=Option.some.inj hk;exact fb
def zbd (x_:GPair)(l:List GChoice):Bool:=
 (((((decide (¬(gE l x_.A)=0))&&(decide (¬(gE l x_.B)=0)))&&(decide (x_.Low≤(gE l x_.A))))&&(decide ((gE l x_.A)≤x_.High)))&&(decide ((gE l x_.B)=wI ((gE l x_.A)+x_.Offset))))
theorem ze1 (F0:Frz)(w:World)(hF0:F0.At w)(x_:GPair)(l:List GChoice)(vl:Value)(hl:SlC F0 vl 2 (l.map cG)):Calls Tryz.prog 76 #[.agg [.int .i64 x_.A, .int .i64 x_.B, .int .i64 x_.Offset, .int .i64 x_.Low, .int .i64 x_.High].toArray,vl] w fun e w'=>e= .returned (.bool (zbd x_ l))∧Below w.heap.size w w':=by
 obtain ⟨r,hk⟩:∃r,zbd x_ l=r:=⟨_,rfl⟩;rw [hk];unfold zbd at hk;haveI:=hl.oneC;obtain ⟨S0,F1,rfl,hS0,hp0⟩:=fY hF0;refine dC Tryz.func76 rfl rfl rfl hp0 ?_;refine jE ?_;rintro _ _ ⟨g2,rfl,rfl⟩;refine jK ?_;refine dG (sN 0 3 (sN 4 3 (.eff 3 (.eff 7 (.still 8 (.still 9 .done)))))) _ a8 (List.Sublist.refl _) ?_;refine eZ ?_;refine ff ?_;refine eZ ?_;refine lJ ?_;refine cQ rfl (Wt.none) rfl rfl (cL rfl rfl rfl (fun w hw=>zdr _ w (hw.fr (i:=1) rfl) l vl hl x_.A)) ?_;refine je ?_;refine dz ?_;refine cQ rfl (Wt.none) rfl rfl (cL rfl rfl rfl (fun w hw=>zdr _ w (hw.fr (i:=1) rfl) l vl hl x_.B)) ?_;refine q3M ?_;refine fC ?_;refine K.seq (T.seq ?_);refine dh (ι:=Unit) (fun z=>[(4, .bool (((((decide (¬(gE l x_.A)=0))&&(decide (¬(gE l x_.B)=0)))&&(decide (x_.Low≤(gE l x_.A))))&&(decide ((gE l x_.A)≤x_.High)))&&(decide ((gE l x_.B)=wI ((gE l x_.A)+x_.Offset)))))]) (fun z=>[.row g2 69 [.int .i64 x_.A, .int .i64 x_.B, .int .i64 x_.Offset, .int .i64 x_.Low, .int .i64 x_.High], .fr F1]) (fun z=>True) ?_ ?_
 ·refine q3L ?_;refine df rfl rfl rfl (fun h1=>?_) (fun h1=>?_)
  ·have p1:=of_decide_eq_true h1;refine kj ?_;refine df rfl rfl rfl (fun h2=>?_) (fun h2=>?_)
   ·have p2:=of_decide_eq_true h2;refine ej ?_;refine kj ?_;refine df rfl rfl rfl (fun h3=>?_) (fun h3=>?_)
    ·have p3:=of_decide_eq_true h3;refine jn ?_;refine eX ?_;refine df rfl rfl rfl (fun h4=>?_) (fun h4=>?_)
     ·have p4:=of_decide_eq_true h4;refine d8 ?_;refine ej ?_;refine lT ?_;exact cP () trivial (.b (jw (fP (fP (fP h1 h2) h3) h4)) .nil) (List.Sublist.refl _)
     ·have p4:=of_decide_eq_false h4;refine TL.run 8 rfl ?_;refine eV ?_;exact cP () trivial (.b (eY (fP (fP (fP h1 h2) h3) h4)).symm .nil) (List.Sublist.refl _)
    ·have p3:=of_decide_eq_false h3;refine TL.run 14 rfl ?_;refine eV ?_;exact cP () trivial (.b (eY (eY (fP (fP h1 h2) h3))).symm .nil) (List.Sublist.refl _)
   ·have p2:=of_decide_eq_false h2;refine TL.run 20 rfl ?_;refine eV ?_;exact cP () trivial (.b (eY (eY (eY (fP h1 h2)))).symm .nil) (List.Sublist.refl _)
  ·have p1:=of_decide_eq_false h1;refine TL.run 24 rfl ?_;refine eV ?_;exact cP () trivial (.b (eY (eY (eY (eY h1)))).symm .nil) (List.Sublist.refl _)
 ·rintro _ _;refine T.ret ?_;subst hk;exact fb
def zb2 (p:GProblem)(n:Int)(channel:Int)(l:List GChoice):Int:=
 dP (fun (sum_1:Int)=>
  sum_1)
 (fun k2=>
  dj (fun (i_5:Nat) (next4:Int→Int) (sum_3:Int)=>
   (bif ((((decide ((cH p.Rules.Loads i_5).To=n))&&(decide ((gE l ((cH p.Rules.Loads i_5).From))=channel)))&&(decide ((cH p.Rules.Loads i_5).Low≤channel)))&&(decide (channel≤(cH p.Rules.Loads i_5).High))) then
    next4 (wI (sum_3+((cH p.Rules.Loads i_5).Weight)))
    else
    next4 sum_3))
  (fun (sum_3:Int)=>
   k2 sum_3) (p.Rules.Loads.length - 0) 0 0)
theorem ziD (F0:Frz)(w:World)(hF0:F0.At w)(p:GProblem)(vp_0:Value)(cp_0:List (List Value))(hp_0:SlD cJ F0 vp_0 2 cp_0 p.Domains)(vp_1:Value)(hp_1:SlC F0 vp_1 5 (p.Rules.Pairs.map de))(vp_2:Value)(hp_2:SlC F0 vp_2 5 (p.Rules.Loads.map dg))(vp_3:Value)(hp_3:SlC F0 vp_3 4 (p.Rules.Caps.map dq))(n:Int)(channel:Int)(l:List GChoice)(vl:Value)(hl:SlC F0 vl 2 (l.map cG)):Calls Tryz.prog 109 #[.agg [vp_0,vp_1,vp_2,vp_3].toArray, .int .i64 n, .int .i64 channel,vl] w fun e w'=>e= .returned (.int .i64 (zb2 p n channel l))∧Below w.heap.size w w':=by
 obtain ⟨r,hk⟩:∃r,zb2 p n channel l=r:=⟨_,rfl⟩;rw [hk];unfold zb2 at hk;haveI:=hp_0.1.oneC;haveI:=hp_1.oneC;haveI:=hp_2.oneC;haveI:=hp_3.oneC;haveI:=hl.oneC;obtain ⟨S0,F1,rfl,hS0,hp0⟩:=fY hF0;refine dC Tryz.func109 rfl rfl rfl hp0 ?_;refine jE ?_;rintro _ _ ⟨g4,rfl,rfl⟩;refine ii ?_;refine j1 ?_;refine dQ ?_;have hq:=fR hk;clear hk;obtain ⟨k2,hk2,hk⟩:=hq; (try dsimp only at hk);refine dh (ι:=Int) (fun z=>[(9, .int .i64 z)]) (fun z=>[.fr F1]) (fun z=>k2 z=r) ?_ ?_
 ·have hq:=gT hk;clear hk;obtain ⟨f4,kk4,hf4,hkk4,hk⟩:=hq;refine gA ?_;refine T.loop (ι:=Nat×Int) (fun z=>[(1, .int .i64 n),(2, .int .i64 channel),(3,vl),(4, .pointer (some ⟨g4,0,none⟩)),(9, .int .i64 z.2),(10, .int .i64 (z.1:Int))]) (fun z=>[.row g4 31 [vp_0,vp_1,vp_2,vp_3], .fr F1]) (fun z=>dj f4 kk4 (p.Rules.Loads.length - z.1) z.1 z.2=r) (fun z=>p.Rules.Loads.length - z.1) (0,0) ?_ ?_ ?_ ?_
  ·exact hk
  ·exact (.c (.c (.c (.c (.c (.c .nil))))))
  ·exact fX
  ·rintro ⟨i_5,sum_3⟩ hk; (try dsimp only at *);refine q3E ?_;refine ej ?_;refine cK (dk rfl rfl hp_2 (List.length_map _)) ?_;have hm16:p.Rules.Loads.length≤9223372036854775807:=(List.length_map _)▸hp_2.max;refine dQ ?_;refine T.cond rfl (fun h6=>?_) (fun h6=>?_)
   ·have p6:=of_decide_eq_true h6;rw [gN a6] at hk;generalize hn4:dj f4 kk4 (p.Rules.Loads.length - (i_5+1)) (i_5+1)=next4 at hk;rw [←hf4] at hk; (try dsimp only at hk);refine fM ?_;refine fw ?_;refine ej ?_;refine da ?_;refine cK (dp (i:=i_5) rfl rfl rfl hp_2 (List.length_map _) rfl a6) ?_;refine cK (eB 1 (i:=i_5) rfl rfl rfl hp_2 a6) ?_;refine iJ ?_;rintro _ _ ⟨g11,rfl,rfl⟩;refine q2D ?_;refine dh (ι:=Unit) (fun z=>[(1, .int .i64 n),(2, .int .i64 channel),(3,vl),(4, .pointer (some ⟨g4,0,none⟩)),(9, .int .i64 sum_3),(10, .int .i64 (i_5:Int)),(11, .pointer (some ⟨g11,0,none⟩)),(49, .bool ((((decide ((cH p.Rules.Loads i_5).To=n))&&(decide ((gE l ((cH p.Rules.Loads i_5).From))=channel)))&&(decide ((cH p.Rules.Loads i_5).Low≤channel)))&&(decide (channel≤(cH p.Rules.Loads i_5).High))))]) (fun z=>[.row g11 71 [.int .i64 ((cH p.Rules.Loads i_5).To), .int .i64 ((cH p.Rules.Loads i_5).From), .int .i64 ((cH p.Rules.Loads i_5).Weight), .int .i64 ((cH p.Rules.Loads i_5).Low), .int .i64 ((cH p.Rules.Loads i_5).High)], .row g4 31 [vp_0,vp_1,vp_2,vp_3], .fr F1]) (fun z=>True) ?_ ?_
    ·refine fI ?_;refine ej ?_;refine eX ?_;refine df rfl rfl rfl (fun h7=>?_) (fun h7=>?_)
     ·have p7:=of_decide_eq_true h7;refine jn ?_;refine dd (cL rfl rfl rfl (fun w hw=>zdr _ w (hw.fr (i:=2) rfl) l vl hl ((cH p.Rules.Loads i_5).From))) ?_;refine eE ?_;refine kj ?_;refine df rfl rfl rfl (fun h8=>?_) (fun h8=>?_)
      ·have p8:=of_decide_eq_true h8;refine ej ?_;refine kj ?_;refine df rfl rfl rfl (fun h9=>?_) (fun h9=>?_)
       ·have p9:=of_decide_eq_true h9;refine jn ?_;refine lV ?_;exact cP () trivial (.c (.c (.c (.c (.c (.c (.c (.b (jw (fP (fP h7 h8) h9)) .nil)))))))) (List.Sublist.refl _)
       ·have p9:=of_decide_eq_false h9;refine q3B ?_;exact cP () trivial (.c (.c (.c (.c (.c (.c (.c (.b (eY (fP (fP h7 h8) h9)).symm .nil)))))))) (List.Sublist.refl _)
      ·have p8:=of_decide_eq_false h8;refine TL.run 11 rfl ?_;refine eV ?_;exact cP () trivial (.c (.c (.c (.c (.c (.c (.c (.b (eY (eY (fP h7 h8))).symm .nil)))))))) (List.Sublist.refl _)
     ·have p7:=of_decide_eq_false h7;refine TL.run 19 rfl ?_;refine eV ?_;exact cP () trivial (.c (.c (.c (.c (.c (.c (.c (.b (eY (eY (eY h7))).symm .nil)))))))) (List.Sublist.refl _)
    ·rintro _ _;refine T.cond rfl (fun h10=>?_) (fun h10=>?_)
     ·have p10:=h10; (try simp only [cT] at p10);replace hk:=dN hk h10;refine fI ?_;refine jn ?_;refine d8 ?_;refine TL.nil (eQ (K.seq (T.region ?_)));refine da ?_;refine ko ?_;rw [←hn4] at hk;refine K.pick [1,2] rfl a7 ?_;exact K.next ((i_5+1),wI (sum_3+((cH p.Rules.Loads i_5).Weight))) hk b3 (.c (.c (.c (.c (.c (.c .nil)))))) (List.Sublist.refl _)
     ·replace hk:=dL hk h10;refine i2 ?_;rw [←hn4] at hk;refine K.pick [1,2] rfl a7 ?_;exact K.next ((i_5+1),sum_3) hk b3 (.c (.c (.c (.c (.c (.c .nil)))))) (List.Sublist.refl _)
   ·have p6:=of_decide_eq_false h6;rw [gR a6,←hkk4] at hk; (try dsimp only at hk);refine fE ?_;refine q3h ?_;exact cP sum_3 hk (.c .nil) (List.Sublist.refl _)
 ·rintro sum_1 hk;rw [←hk2] at hk; (try dsimp only at hk);refine i4 ?_;refine gM ?_;subst hk;exact fb
def zbm (p:GProblem)(x_:GCap)(l:List GChoice):Bool:=
 ((((decide (¬(gE l x_.Station)=0))&&(decide (x_.Low≤(gE l x_.Station))))&&(decide ((gE l x_.Station)≤x_.High)))&&(decide (x_.Max<(zb2 p x_.Station (gE l x_.Station) l))))
theorem zfp (F0:Frz)(w:World)(hF0:F0.At w)(p:GProblem)(vp_0:Value)(cp_0:List (List Value))(hp_0:SlD cJ F0 vp_0 2 cp_0 p.Domains)(vp_1:Value)(hp_1:SlC F0 vp_1 5 (p.Rules.Pairs.map de))(vp_2:Value)(hp_2:SlC F0 vp_2 5 (p.Rules.Loads.map dg))(vp_3:Value)(hp_3:SlC F0 vp_3 4 (p.Rules.Caps.map dq))(x_:GCap)(l:List GChoice)(vl:Value)(hl:SlC F0 vl 2 (l.map cG)):Calls Tryz.prog 77 #[.agg [vp_0,vp_1,vp_2,vp_3].toArray, .agg [.int .i64 x_.Station, .int .i64 x_.Max, .int .i64 x_.Low, .int .i64 x_.High].toArray,vl] w fun e w'=>e= .returned (.bool (zbm p x_ l))∧Below w.heap.size w w':=by
 obtain ⟨r,hk⟩:∃r,zbm p x_ l=r:=⟨_,rfl⟩;rw [hk];unfold zbm at hk;haveI:=hp_0.1.oneC;haveI:=hp_1.oneC;haveI:=hp_2.oneC;haveI:=hp_3.oneC;haveI:=hl.oneC;obtain ⟨S0,F1,rfl,hS0,hp0⟩:=fY hF0;refine dC Tryz.func77 rfl rfl rfl hp0 ?_;refine jE ?_;rintro _ _ ⟨g3,rfl,rfl⟩;refine dd (dv) ?_;rintro _ _ ⟨g4,rfl,rfl⟩;refine ii ?_;refine jn ?_;refine dd (cL rfl rfl rfl (fun w hw=>zdr _ w (hw.fr (i:=2) rfl) l vl hl x_.Station)) ?_;refine eE ?_;refine jK ?_;refine dh (ι:=Unit) (fun z=>[(6, .bool ((((decide (¬(gE l x_.Station)=0))&&(decide (x_.Low≤(gE l x_.Station))))&&(decide ((gE l x_.Station)≤x_.High)))&&(decide (x_.Max<(zb2 p x_.Station (gE l x_.Station) l)))))]) (fun z=>[.row g4 73 [.int .i64 x_.Station, .int .i64 x_.Max, .int .i64 x_.Low, .int .i64 x_.High], .row g3 31 [vp_0,vp_1,vp_2,vp_3], .fr F1]) (fun z=>True) ?_ ?_
 ·refine dG (sN 0 20 (sN 21 2 (.eff 20 (sN 23 2 (.still 25 .done))))) _ a8 (List.Sublist.refl _) ?_;refine fW ?_;refine dy rfl rfl rfl rfl (fun h1=>?_) (fun h1=>?_)
  ·have p1:=of_decide_eq_true h1;refine ff ?_;refine TS.run 4 rfl ?_;refine dy rfl rfl rfl rfl (fun h2=>?_) (fun h2=>?_)
   ·have p2:=of_decide_eq_true h2;refine eZ ?_;refine ff ?_;refine fW ?_;refine dy rfl rfl rfl rfl (fun h3=>?_) (fun h3=>?_)
    ·have p3:=of_decide_eq_true h3;refine cN rfl (fv 1) ?_;refine ff ?_;refine gK ?_;refine lJ ?_;refine cQ rfl (Wt.some) rfl rfl (cL rfl rfl rfl (fun w hw=>ziD _ w (hw.fr (i:=2) rfl) p vp_0 cp_0 hp_0 vp_1 hp_1 vp_2 hp_2 vp_3 hp_3 x_.Station (gE l x_.Station) l vl hl)) ?_;refine je ?_;refine fW ?_;refine fC ?_;exact cP () trivial (.b (jw (fP (fP h1 h2) h3)) .nil) (List.Sublist.refl _)
    ·have p3:=of_decide_eq_false h3;refine q2R ?_;refine fW ?_;refine fC ?_;exact cP () trivial (.b (eY (fP (fP h1 h2) h3)).symm .nil) (List.Sublist.refl _)
   ·have p2:=of_decide_eq_false h2;refine TS.run 13 rfl ?_;refine i3 ?_;refine fW ?_;refine fC ?_;exact cP () trivial (.b (eY (eY (fP h1 h2))).symm .nil) (List.Sublist.refl _)
  ·have p1:=of_decide_eq_false h1;refine TS.run 19 rfl ?_;refine i3 ?_;refine fW ?_;refine fC ?_;exact cP () trivial (.b (eY (eY (eY h1))).symm .nil) (List.Sublist.refl _)
 ·rintro _ _;refine T.ret ?_;subst hk;exact fb
def za8 (p:GProblem)(l:List GChoice)(all:Bool):GViolation:=
 dP (fun (s3:Int×Int)=>
  dP (fun (s16:Int×Int)=>
   dP (fun (s25:Int×Int)=>
    dP (fun (s34:Int×Int)=>
     (GViolation.mk 0 0))
    (fun k34=>
     dj (fun (i_38:Nat) (next37:(Int×Int)→GViolation) (s37:Int×Int)=>
      (bif (zbm p (cH p.Rules.Caps i_38) l) then
       (GViolation.mk 4 (i_38:Int))
       else
       next37 (s37.1,s37.2)))
     (fun (s37:Int×Int)=>
      k34 (s37.1,s37.2)) (p.Rules.Caps.length - 0) 0 (s25.1,s25.2)))
   (fun k25=>
    dj (fun (i_29:Nat) (next28:(Int×Int)→GViolation) (s28:Int×Int)=>
     (bif (zbd (cH p.Rules.Pairs i_29) l) then
      (GViolation.mk 3 (i_29:Int))
      else
      next28 (s28.1,s28.2)))
    (fun (s28:Int×Int)=>
     k25 (s28.1,s28.2)) (p.Rules.Pairs.length - 0) 0 (s16.1,s16.2)))
  (fun k16=>
   dj (fun (i_20:Nat) (next19:(Int×Int)→GViolation) (s19:Int×Int)=>
    (bif decide ((iS p ((cH l i_20).Station))<0) then
     (GViolation.mk 2 (i_20:Int))
     else
     next19 (s19.1,s19.2)))
   (fun (s19:Int×Int)=>
    k16 (s19.1,s19.2)) (l.length - 0) 0 (s3.1,s3.2)))
 (fun k3=>
  dj (fun (i_7:Nat) (next6:(Int×Int)→GViolation) (s6:Int×Int)=>
   (bif (((decide ((gE l ((cH p.Domains i_7).Station))=0))&&all)||((decide (¬(gE l ((cH p.Domains i_7).Station))=0))&&(!(zbF ((cH p.Domains i_7).Channels) (gE l ((cH p.Domains i_7).Station)))))) then
    (GViolation.mk 1 (i_7:Int))
    else
    next6 (s6.1,s6.2)))
  (fun (s6:Int×Int)=>
   k3 (s6.1,s6.2)) (p.Domains.length - 0) 0 (0,0))
theorem zhn (F0:Frz)(w:World)(hF0:F0.At w)(p:GProblem)(vp_0:Value)(cp_0:List (List Value))(hp_0:SlD cJ F0 vp_0 2 cp_0 p.Domains)(vp_1:Value)(hp_1:SlC F0 vp_1 5 (p.Rules.Pairs.map de))(vp_2:Value)(hp_2:SlC F0 vp_2 5 (p.Rules.Loads.map dg))(vp_3:Value)(hp_3:SlC F0 vp_3 4 (p.Rules.Caps.map dq))(l:List GChoice)(vl:Value)(hl:SlC F0 vl 2 (l.map cG))(all:Bool):Calls Tryz.prog 43 #[.agg [vp_0,vp_1,vp_2,vp_3].toArray,vl, .bool all] w fun e w'=>e= .returned (.agg [.int .i64 ((za8 p l all).Kind), .int .i64 ((za8 p l all).At)].toArray)∧Below w.heap.size w w':=by
 obtain ⟨r,hk⟩:∃r,za8 p l all=r:=⟨_,rfl⟩;rw [hk];unfold za8 at hk;haveI:=hp_0.1.oneC;haveI:=hp_1.oneC;haveI:=hp_2.oneC;haveI:=hp_3.oneC;haveI:=hl.oneC;obtain ⟨S0,F1,rfl,hS0,hp0⟩:=fY hF0;refine dC Tryz.func43 rfl rfl rfl hp0 ?_;refine jE ?_;rintro _ _ ⟨g3,rfl,rfl⟩;refine iJ ?_;rintro _ _ ⟨g6,rfl,rfl⟩;refine io ?_;refine dQ ?_;have hq:=fR hk;clear hk;obtain ⟨k3,hk3,hk⟩:=hq; (try dsimp only at hk);refine dh (ι:=Int×Int) (fun z=>[(1,vl),(3, .pointer (some ⟨g3,0,none⟩)),(6, .pointer (some ⟨g6,0,none⟩))]) (fun z=>[.row g6 90 [.int .i64 z.1, .int .i64 z.2], .row g3 31 [vp_0,vp_1,vp_2,vp_3], .fr F1]) (fun z=>k3 (z.1,z.2)=r) ?_ ?_
 ·have hq:=gT hk;clear hk;obtain ⟨f6,kk6,hf6,hkk6,hk⟩:=hq;refine gA ?_;refine T.loop (ι:=Nat×Int×Int) (fun z=>[(1,vl),(2, .bool all),(3, .pointer (some ⟨g3,0,none⟩)),(6, .pointer (some ⟨g6,0,none⟩)),(7, .int .i64 (z.1:Int))]) (fun z=>[.row g6 90 [.int .i64 z.2.1, .int .i64 z.2.2], .row g3 31 [vp_0,vp_1,vp_2,vp_3], .fr F1]) (fun z=>dj f6 kk6 (p.Domains.length - z.1) z.1 (z.2.1,z.2.2)=r) (fun z=>p.Domains.length - z.1) (0,0,0) ?_ ?_ ?_ ?_
  ·exact hk
  ·exact q4j
  ·exact fX
  ·rintro ⟨i_7,c_4,c_5⟩ hk; (try dsimp only at *);refine jz ?_;refine da ?_;refine i8 ?_;refine q2I ?_;have hm15:p.Domains.length≤9223372036854775807:=hp_0.2.1▸hp_0.1.max;refine dQ ?_;refine T.cond rfl (fun h8=>?_) (fun h8=>?_)
   ·have p8:=of_decide_eq_true h8;rw [gN a6] at hk;generalize hn6:dj f6 kk6 (p.Domains.length - (i_7+1)) (i_7+1)=next6 at hk;rw [←hf6] at hk; (try dsimp only at hk);refine fM ?_;refine da ?_;refine q13 ?_;refine cK (ei 2 (i:=i_7) (j:=0) rfl rfl rfl hp_0.1 hp_0.2.1 a6 rfl (GDomain.c0 (hp_0.2.2 i_7 a6))) ?_;refine dd (cL rfl rfl rfl (fun w hw=>zdr _ w (hw.fr (i:=2) rfl) l vl hl ((cH p.Domains i_7).Station))) ?_;refine eE ?_;refine jK ?_;refine dh (ι:=Unit) (fun z=>[(1,vl),(2, .bool all),(3, .pointer (some ⟨g3,0,none⟩)),(6, .pointer (some ⟨g6,0,none⟩)),(7, .int .i64 (i_7:Int)),(46, .bool (((decide ((gE l ((cH p.Domains i_7).Station))=0))&&all)||((decide (¬(gE l ((cH p.Domains i_7).Station))=0))&&(!(zbF ((cH p.Domains i_7).Channels) (gE l ((cH p.Domains i_7).Station)))))))]) (fun z=>[.row g6 90 [.int .i64 c_4, .int .i64 c_5], .row g3 31 [vp_0,vp_1,vp_2,vp_3], .fr F1]) (fun z=>True) ?_ ?_
    ·refine q3L ?_;refine df rfl rfl rfl (fun h9=>?_) (fun h9=>?_)
     ·have p9:=of_decide_eq_true h9;refine eX ?_;refine df rfl rfl rfl (fun h10=>?_) (fun h10=>?_)
      ·refine TL.run 14 rfl ?_;refine eV ?_;exact cP () trivial (.c (.c (.c (.c (.c (.b (gv (fP h9 h10)).symm .nil)))))) (List.Sublist.refl _)
      ·refine eX ?_;refine df rfl rfl rfl (fun h11=>?_) (fun h11=>?_)
       ·have p11:=of_decide_eq_true h11;refine q3J ?_;have hd41_1:=(GDomain.c1 (hp_0.2.2 i_7 a6)).2;haveI:=hd41_1.oneC;refine q2G ?_;exact cP () trivial (.c (.c (.c (.c (.c (.b (Eq.trans (jw h11) (gD (fP h9 h10))) .nil)))))) (List.Sublist.refl _)
       ·have p11:=of_decide_eq_false h11;refine TL.run 11 rfl ?_;refine eV ?_;exact cP () trivial (.c (.c (.c (.c (.c (.b (fQ (fP h9 h10) (eY h11)).symm .nil)))))) (List.Sublist.refl _)
     ·have p9:=of_decide_eq_false h9;refine TL.run 6 rfl ?_;refine df rfl rfl rfl (fun h12=>?_) (fun h12=>?_)
      ·have p12:=of_decide_eq_true h12;refine q3J ?_;have hd41_1:=(GDomain.c1 (hp_0.2.2 i_7 a6)).2;haveI:=hd41_1.oneC;refine q2G ?_;exact cP () trivial (.c (.c (.c (.c (.c (.b (Eq.trans (jw h12) (gD (eY h9))) .nil)))))) (List.Sublist.refl _)
      ·have p12:=of_decide_eq_false h12;refine TL.run 11 rfl ?_;refine eV ?_;exact cP () trivial (.c (.c (.c (.c (.c (.b (fQ (eY h9) (eY h12)).symm .nil)))))) (List.Sublist.refl _)
    ·rintro _ _;refine T.cond rfl (fun h13=>?_) (fun h13=>?_)
     ·replace hk:=dN hk h13;refine q3P ?_;subst hk;exact q38
     ·replace hk:=dL hk h13;refine i2 ?_;rw [←hn6] at hk;exact K.next ((i_7+1),c_4,c_5) hk b3 (.c (.c (.c (.c (.c .nil))))) (List.Sublist.refl _)
   ·have p8:=of_decide_eq_false h8;rw [gR a6,←hkk6] at hk; (try dsimp only at hk);refine fE ?_;exact cP (c_4,c_5) hk (.c (.c (.c .nil))) (List.Sublist.refl _)
 ·rintro ⟨c_1,c_2⟩ hk; (try dsimp only at *);rw [←hk3] at hk; (try dsimp only at hk);refine q3O ?_;have hq:=fR hk;clear hk;obtain ⟨k16,hk16,hk⟩:=hq; (try dsimp only at hk);refine dh (ι:=Int×Int) (fun z=>[(1,vl),(3, .pointer (some ⟨g3,0,none⟩)),(6, .pointer (some ⟨g6,0,none⟩))]) (fun z=>[.row g6 90 [.int .i64 z.1, .int .i64 z.2], .row g3 31 [vp_0,vp_1,vp_2,vp_3], .fr F1]) (fun z=>k16 (z.1,z.2)=r) ?_ ?_
  ·have hq:=gT hk;clear hk;obtain ⟨f19,kk19,hf19,hkk19,hk⟩:=hq;refine gA ?_;refine T.loop (ι:=Nat×Int×Int) (fun z=>[(1,vl),(3, .pointer (some ⟨g3,0,none⟩)),(6, .pointer (some ⟨g6,0,none⟩)),(9, .int .i64 (z.1:Int))]) (fun z=>[.row g6 90 [.int .i64 z.2.1, .int .i64 z.2.2], .row g3 31 [vp_0,vp_1,vp_2,vp_3], .fr F1]) (fun z=>dj f19 kk19 (l.length - z.1) z.1 (z.2.1,z.2.2)=r) (fun z=>l.length - z.1) (0,c_1,c_2) ?_ ?_ ?_ ?_
   ·exact hk
   ·exact q30
   ·exact fX
   ·rintro ⟨i_20,c_17,c_18⟩ hk; (try dsimp only at *);refine q2F ?_;have hm51:l.length≤9223372036854775807:=(List.length_map _)▸hl.max;refine dQ ?_;refine T.cond rfl (fun h21=>?_) (fun h21=>?_)
    ·have p21:=of_decide_eq_true h21;rw [gN a6] at hk;generalize hn19:dj f19 kk19 (l.length - (i_20+1)) (i_20+1)=next19 at hk;rw [←hf19] at hk; (try dsimp only at hk);refine l6 ?_;refine dG (sN 0 6 (.eff 6 (.still 7 .done))) _ a8 (List.Sublist.refl _) ?_;refine cN rfl (fv 1) ?_;refine gK ?_;refine cN rfl (dp (i:=i_20) rfl rfl rfl hl (List.length_map _) rfl a6) ?_;refine cN rfl (fT rfl rfl hl (List.length_map _) a6) ?_;refine cN rfl (eo 2 (i:=i_20) (j:=0) rfl rfl rfl hl a6) ?_;refine dz ?_;refine cQ rfl (Wt.none) rfl rfl (cL rfl rfl rfl (fun w hw=>zcn _ w (hw.fr (i:=2) rfl) p vp_0 cp_0 hp_0 vp_1 hp_1 vp_2 hp_2 vp_3 hp_3 ((cH l i_20).Station))) ?_;refine je ?_;refine kE ?_;refine T.cond rfl (fun h22=>?_) (fun h22=>?_)
     ·have p22:=of_decide_eq_true h22;replace hk:=dN hk h22;refine q3P ?_;subst hk;exact q38
     ·have p22:=of_decide_eq_false h22;replace hk:=dL hk h22;refine i2 ?_;rw [←hn19] at hk;exact K.next ((i_20+1),c_17,c_18) hk b3 (.c (.c (.c (.c .nil)))) (List.Sublist.refl _)
    ·have p21:=of_decide_eq_false h21;rw [gR a6,←hkk19] at hk; (try dsimp only at hk);refine fE ?_;exact cP (c_17,c_18) hk (.c (.c (.c .nil))) (List.Sublist.refl _)
  ·rintro ⟨c_14,c_15⟩ hk; (try dsimp only at *);rw [←hk16] at hk; (try dsimp only at hk);refine q3O ?_;have hq:=fR hk;clear hk;obtain ⟨k25,hk25,hk⟩:=hq; (try dsimp only at hk);refine dh (ι:=Int×Int) (fun z=>[(1,vl),(3, .pointer (some ⟨g3,0,none⟩)),(6, .pointer (some ⟨g6,0,none⟩))]) (fun z=>[.row g6 90 [.int .i64 z.1, .int .i64 z.2], .row g3 31 [vp_0,vp_1,vp_2,vp_3], .fr F1]) (fun z=>k25 (z.1,z.2)=r) ?_ ?_
   ·have hq:=gT hk;clear hk;obtain ⟨f28,kk28,hf28,hkk28,hk⟩:=hq;refine gA ?_;refine T.loop (ι:=Nat×Int×Int) (fun z=>[(1,vl),(3, .pointer (some ⟨g3,0,none⟩)),(6, .pointer (some ⟨g6,0,none⟩)),(10, .int .i64 (z.1:Int))]) (fun z=>[.row g6 90 [.int .i64 z.2.1, .int .i64 z.2.2], .row g3 31 [vp_0,vp_1,vp_2,vp_3], .fr F1]) (fun z=>dj f28 kk28 (p.Rules.Pairs.length - z.1) z.1 (z.2.1,z.2.2)=r) (fun z=>p.Rules.Pairs.length - z.1) (0,c_14,c_15) ?_ ?_ ?_ ?_
    ·exact hk
    ·exact q30
    ·exact fX
    ·rintro ⟨i_29,c_26,c_27⟩ hk; (try dsimp only at *);refine q3E ?_;refine i8 ?_;refine cK (dk rfl rfl hp_1 (List.length_map _)) ?_;have hm69:p.Rules.Pairs.length≤9223372036854775807:=(List.length_map _)▸hp_1.max;refine dQ ?_;refine T.cond rfl (fun h30=>?_) (fun h30=>?_)
     ·have p30:=of_decide_eq_true h30;rw [gN a6] at hk;generalize hn28:dj f28 kk28 (p.Rules.Pairs.length - (i_29+1)) (i_29+1)=next28 at hk;rw [←hf28] at hk; (try dsimp only at hk);refine fM ?_;refine fw ?_;refine i8 ?_;refine da ?_;refine cK (dp (i:=i_29) rfl rfl rfl hp_1 (List.length_map _) rfl a6) ?_;refine cK (eB 2 (i:=i_29) rfl rfl rfl hp_1 a6) ?_;refine da ?_;refine dd (cL rfl rfl rfl (fun w hw=>ze1 _ w (hw.fr (i:=2) rfl) (cH p.Rules.Pairs i_29) l vl hl)) ?_;refine eE ?_;refine cS ?_;refine T.cond rfl (fun h31=>?_) (fun h31=>?_)
      ·replace hk:=dN hk h31;refine q3P ?_;subst hk;exact q38
      ·replace hk:=dL hk h31;refine i2 ?_;rw [←hn28] at hk;exact K.next ((i_29+1),c_26,c_27) hk b3 (.c (.c (.c (.c .nil)))) (List.Sublist.refl _)
     ·have p30:=of_decide_eq_false h30;rw [gR a6,←hkk28] at hk; (try dsimp only at hk);refine fE ?_;exact cP (c_26,c_27) hk (.c (.c (.c .nil))) (List.Sublist.refl _)
   ·rintro ⟨c_23,c_24⟩ hk; (try dsimp only at *);rw [←hk25] at hk; (try dsimp only at hk);refine q3O ?_;have hq:=fR hk;clear hk;obtain ⟨k34,hk34,hk⟩:=hq; (try dsimp only at hk);refine dh (ι:=Int×Int) (fun z=>[(6, .pointer (some ⟨g6,0,none⟩))]) (fun z=>[.row g6 90 [.int .i64 z.1, .int .i64 z.2], .fr F1]) (fun z=>k34 (z.1,z.2)=r) ?_ ?_
    ·have hq:=gT hk;clear hk;obtain ⟨f37,kk37,hf37,hkk37,hk⟩:=hq;refine gA ?_;refine T.loop (ι:=Nat×Int×Int) (fun z=>[(1,vl),(3, .pointer (some ⟨g3,0,none⟩)),(6, .pointer (some ⟨g6,0,none⟩)),(11, .int .i64 (z.1:Int))]) (fun z=>[.row g6 90 [.int .i64 z.2.1, .int .i64 z.2.2], .row g3 31 [vp_0,vp_1,vp_2,vp_3], .fr F1]) (fun z=>dj f37 kk37 (p.Rules.Caps.length - z.1) z.1 (z.2.1,z.2.2)=r) (fun z=>p.Rules.Caps.length - z.1) (0,c_23,c_24) ?_ ?_ ?_ ?_
     ·exact hk
     ·exact q30
     ·exact fX
     ·rintro ⟨i_38,c_35,c_36⟩ hk; (try dsimp only at *);refine q3E ?_;refine i8 ?_;refine cK (dk rfl rfl hp_3 (List.length_map _)) ?_;have hm87:p.Rules.Caps.length≤9223372036854775807:=(List.length_map _)▸hp_3.max;refine dQ ?_;refine T.cond rfl (fun h39=>?_) (fun h39=>?_)
      ·have p39:=of_decide_eq_true h39;rw [gN a6] at hk;generalize hn37:dj f37 kk37 (p.Rules.Caps.length - (i_38+1)) (i_38+1)=next37 at hk;rw [←hf37] at hk; (try dsimp only at hk);refine l6 ?_;refine dG (sN 0 8 (.eff 8 .done)) _ a8 (List.Sublist.refl _) ?_;refine cN rfl (fv 1) ?_;refine gz ?_;refine gz ?_;refine q2g ?_;refine cN rfl (dp (i:=i_38) rfl rfl rfl hp_3 (List.length_map _) rfl a6) ?_;refine cN rfl (eB 2 (i:=i_38) rfl rfl rfl hp_3 a6) ?_;refine eZ ?_;refine dz ?_;refine cQ rfl (Wt.none) rfl rfl (cL rfl rfl rfl (fun w hw=>zfp _ w (hw.fr (i:=2) rfl) p vp_0 cp_0 hp_0 vp_1 hp_1 vp_2 hp_2 vp_3 hp_3 (cH p.Rules.Caps i_38) l vl hl)) ?_;refine je ?_;refine fC ?_;refine K.seq ?_;refine T.cond rfl (fun h40=>?_) (fun h40=>?_)
       ·replace hk:=dN hk h40;refine q3P ?_;subst hk;exact q38
       ·replace hk:=dL hk h40;refine i2 ?_;rw [←hn37] at hk;exact K.next ((i_38+1),c_35,c_36) hk b3 (.c (.c (.c (.c .nil)))) (List.Sublist.refl _)
      ·have p39:=of_decide_eq_false h39;rw [gR a6,←hkk37] at hk; (try dsimp only at hk);refine fE ?_;refine K.pick [0,2] rfl a7 ?_;exact cP (c_35,c_36) hk (.c .nil) (List.Sublist.refl _)
    ·rintro ⟨c_32,c_33⟩ hk; (try dsimp only at *);rw [←hk34] at hk; (try dsimp only at hk);refine dc ?_;refine jp ?_;refine jP ?_;refine gM ?_;subst hk;exact q38
def zbv (p:GProblem)(l:List GChoice):Bool:=
 ((mK l)&&(decide ((za8 p l true).Kind=0)&&decide ((za8 p l true).At=0)))
theorem zh6 (F0:Frz)(w:World)(hF0:F0.At w)(p:GProblem)(vp_0:Value)(cp_0:List (List Value))(hp_0:SlD cJ F0 vp_0 2 cp_0 p.Domains)(vp_1:Value)(hp_1:SlC F0 vp_1 5 (p.Rules.Pairs.map de))(vp_2:Value)(hp_2:SlC F0 vp_2 5 (p.Rules.Loads.map dg))(vp_3:Value)(hp_3:SlC F0 vp_3 4 (p.Rules.Caps.map dq))(l:List GChoice)(vl:Value)(hl:SlC F0 vl 2 (l.map cG)):Calls Tryz.prog 19 #[.agg [vp_0,vp_1,vp_2,vp_3].toArray,vl] w fun e w'=>e= .returned (.bool (zbv p l))∧Below w.heap.size w w':=by
 obtain ⟨r,hk⟩:∃r,zbv p l=r:=⟨_,rfl⟩;rw [hk];unfold zbv at hk;haveI:=hp_0.1.oneC;haveI:=hp_1.oneC;haveI:=hp_2.oneC;haveI:=hp_3.oneC;haveI:=hl.oneC;obtain ⟨S0,F1,rfl,hS0,hp0⟩:=fY hF0;refine dC Tryz.func19 rfl rfl rfl hp0 ?_;refine jE ?_;rintro _ _ ⟨g2,rfl,rfl⟩;refine jK ?_;refine dh (ι:=Unit) (fun z=>[(4, .bool ((mK l)&&(decide ((za8 p l true).Kind=0)&&decide ((za8 p l true).At=0))))]) (fun z=>[.row g2 31 [vp_0,vp_1,vp_2,vp_3], .fr F1]) (fun z=>True) ?_ ?_
 ·refine km ?_;refine dd (cL rfl rfl rfl (fun w hw=>zdu _ w (hw.fr (i:=1) rfl) l vl hl)) ?_;refine eE ?_;refine da ?_;refine df rfl rfl rfl (fun h1=>?_) (fun h1=>?_)
  ·refine i6 ?_;refine da ?_;refine dd (cL rfl rfl rfl (fun w hw=>zhn _ w (hw.fr (i:=1) rfl) p vp_0 cp_0 hp_0 vp_1 hp_1 vp_2 hp_2 vp_3 hp_3 l vl hl true)) ?_;refine eE ?_;refine jp ?_;refine cK (Yv.ck a8 rfl rfl rfl) ?_;refine lV ?_;exact q4k
  ·refine TL.run 7 rfl ?_;refine eV ?_;exact q39
 ·rintro _ _;refine T.ret ?_;subst hk;exact fb
def cI (F:Frz)(c:List Value)(x:List GChoice):Prop:=∃(v0:Value),c=[v0]∧SlC F v0 2 (x.map cG)
theorem R_List_GChoice.mono {F G:Frz}{c:List Value}{x:List GChoice}(hle:F.Le G)(h:cI F c x):cI G c x:=by
 obtain ⟨v0,h0,h1⟩:=h;exact ⟨v0,h0,h1.mono hle⟩
theorem R_List_GChoice.len {F:Frz}{c:List Value}{x:List GChoice}(h:cI F c x):c.length=1:=by
 obtain ⟨v0,h0,h1⟩:=h;subst h0;rfl
theorem R_List_GChoice.one {F:Frz}{c:List Value}{x:List GChoice}(h:cI F c x):OneCs c:=by
 obtain ⟨v0,h0,h1⟩:=h;subst h0;haveI:=h1.oneC
 infer_instance
theorem R_List_GChoice.c0 {F:Frz}{c:List Value}{x:List GChoice}(h:cI F c x):c[0]?=some (cH c 0)∧SlC F (cH c 0) 2 (x.map cG):=by
 obtain ⟨v0,h0,h1⟩:=h;subst h0;exact ⟨rfl,h1⟩
theorem kI {F:Frz}{c:List Value}{x:List GChoice}(h:cI F c x):(c.drop 0).take 1=[cH c 0]:=by
 obtain ⟨v0,h0,h1⟩:=h;subst h0;rfl
def zcg (d:List GDomain)(g_:List GChoice)(s:Int)(c:Int):Bool:=
 dP (fun (has_1:Bool)=>
  has_1)
 (fun k2=>
  dj (fun (i_5:Nat) (next4:Bool→Bool) (has_3:Bool)=>
   (bif decide ((cH g_ i_5).Station=s) then
    next4 (decide ((cH g_ i_5).Channel=c))
    else
    (bif !(zb0 d ((cH g_ i_5).Station) ((cH g_ i_5).Channel)) then
     false
     else
     next4 has_3)))
  (fun (has_3:Bool)=>
   k2 has_3) (g_.length - 0) 0 false)
def zcY (p:GProblem)(store:List (List GChoice))(d:List GDomain)(s:Int)(c:Int):Bool:=
 dP (fun (_:Unit)=>
  (zbZ p d s c))
 (fun k1=>
  dj (fun (i_3:Nat) (next2:Unit→Bool) (_:Unit)=>
   (bif (zcg d (cH store i_3) s c) then
    true
    else
    next2 ()))
  (fun (_:Unit)=>
   k1 ()) (store.length - 0) 0 ())
def zcD (fuel:Nat)(p:GProblem)(store:List (List GChoice))(d:List GDomain):Option (List GDomain×Bool):=
 dP (fun (d_1:List GDomain)=>
  dP (fun (_:Unit)=>
   dP (fun (_:Unit)=>
    some (d_1,true))
   (fun k25=>
    dj (fun (i_27:Nat) (next26:Unit→Option (List GDomain×Bool)) (_:Unit)=>
     (bif decide (((cH store i_27).length:Int)=0) then
      some ([],false)
      else
      next26 ()))
    (fun (_:Unit)=>
     k25 ()) (store.length - 0) 0 ()))
  (fun k20=>
   dj (fun (i_22:Nat) (next21:Unit→Option (List GDomain×Bool)) (_:Unit)=>
    (bif decide ((((cH d_1 i_22).Channels).length:Int)=0) then
     some ([],false)
     else
     next21 ()))
   (fun (_:Unit)=>
    k20 ()) (d_1.length - 0) 0 ()))
 (fun k2=>
  iQ (fun (next5:(List GDomain×Bool)→Option (List GDomain×Bool)) (s5:List GDomain×Bool)=>
   (bif s5.2 then
    iQ (fun (next11:(List GDomain×Bool×Int)→Option (List GDomain×Bool)) (s11:List GDomain×Bool×Int)=>
     (bif decide (s11.2.2<(s11.1.length:Int)) then
      ez (0≤s11.2.2∧s11.2.2<(s11.1.length:Int)) <|
      kK (fun (k_17:Nat) (next16:(List GDomain×Bool)→Option (List GDomain×Bool)) (s16:List GDomain×Bool)=>
       ez (0≤s11.2.2∧s11.2.2<(s16.1.length:Int)) <|
       ez (0≤(k_17:Int)∧(k_17:Int)<(((cH s16.1 s11.2.2.toNat).Channels).length:Int)) <|
       (bif (zcY p store s16.1 ((cH s16.1 s11.2.2.toNat).Station) (cH ((cH s16.1 s11.2.2.toNat).Channels) k_17)) then
        (zbA s16.1 ((cH s16.1 s11.2.2.toNat).Station) (cH ((cH s16.1 s11.2.2.toNat).Channels) k_17)).bind fun r55=>
        next16 (r55,true)
        else
        next16 (s16.1,s16.2)))
      (fun (s16:List GDomain×Bool)=>
       next11 (s16.1,s16.2,(s11.2.2+1))) (((cH s11.1 s11.2.2.toNat).Channels).length) (s11.1,s11.2.1)
      else
      next5 (s11.1,s11.2.1))) fuel (s5.1,false,0)
    else
    k2 s5.1)) fuel (d,true))
def zch (fuel:Nat)(p:GProblem)(store:List (List GChoice))(l:List GChoice):Option (List GDomain×Bool):=
 dP (fun (d_1:List GDomain)=>
  (zcD fuel p store d_1).bind fun r33=>
  some (r33.1,r33.2))
 (fun k2=>
  dj (fun (i_5:Nat) (next4:List GDomain→Option (List GDomain×Bool)) (d_3:List GDomain)=>
   (zbY d_3 ((cH l i_5).Station) ((cH l i_5).Channel)).bind fun r29=>
   next4 r29)
  (fun (d_3:List GDomain)=>
   k2 d_3) (l.length - 0) 0 p.Domains)
def zb1 (a:List (List GChoice))(b:List (List GChoice)):Bool:=
 (bif decide (¬(a.length:Int)=(b.length:Int)) then
  false
  else
  dP (fun (_:Unit)=>
   true)
  (fun k2=>
   dj (fun (i_4:Nat) (next3:Unit→Bool) (_:Unit)=>
    (bif !(mB (cH a i_4) (cH b i_4)) then
     false
     else
     next3 ()))
   (fun (_:Unit)=>
    k2 ()) (a.length - 0) 0 ()))
theorem zhQ (F0:Frz)(w:World)(hF0:F0.At w)(a:List (List GChoice))(va:Value)(ca:List (List Value))(ha:SlD cI F0 va 1 ca a)(b:List (List GChoice))(vb:Value)(cb:List (List Value))(hb:SlD cI F0 vb 1 cb b):Calls Tryz.prog 37 #[va,vb] w fun e w'=>e= .returned (.bool (zb1 a b))∧Below w.heap.size w w':=by
 obtain ⟨r,hk⟩:∃r,zb1 a b=r:=⟨_,rfl⟩;rw [hk];unfold zb1 at hk;haveI:=ha.1.oneC;haveI:=hb.1.oneC;obtain ⟨S0,F1,rfl,hS0,hp0⟩:=fY hF0;refine dC Tryz.func37 rfl rfl rfl hp0 ?_;refine ju ?_;refine cK (dk rfl rfl ha.1 ha.2.1) ?_;have hm7:a.length≤9223372036854775807:=ha.2.1▸ha.1.max;refine da ?_;refine cK (dk rfl rfl hb.1 hb.2.1) ?_;have hm9:b.length≤9223372036854775807:=hb.2.1▸hb.1.max;refine dQ ?_;refine T.cond rfl (fun h1=>?_) (fun h1=>?_)
 ·have p1:=of_decide_eq_true h1;replace hk:=dN hk h1;refine iW ?_;subst hk;exact fb
 ·have p1:=of_decide_eq_false h1;replace hk:=dL hk h1;refine kz ?_;refine dQ ?_;have hq:=fR hk;clear hk;obtain ⟨k2,hk2,hk⟩:=hq; (try dsimp only at hk);refine dh (ι:=Unit) (fun z=>[]) (fun z=>[.fr F1]) (fun z=>k2 ()=r) ?_ ?_
  ·have hq:=gT hk;clear hk;obtain ⟨f3,kk3,hf3,hkk3,hk⟩:=hq;refine gA ?_;refine T.loop (ι:=Nat) (fun z=>[(0,va),(1,vb),(5, .int .i64 (z:Int))]) (fun z=>[.fr F1]) (fun z=>dj f3 kk3 (a.length - z) z ()=r) (fun z=>a.length - z) 0 ?_ ?_ ?_ ?_
   ·exact hk
   ·exact q33
   ·exact fX
   ·rintro i_4 hk;refine jz ?_;refine d8 ?_;refine cK (dk rfl rfl ha.1 ha.2.1) ?_;refine dQ ?_;refine T.cond rfl (fun h5=>?_) (fun h5=>?_)
    ·have p5:=of_decide_eq_true h5;rw [gN a6] at hk;generalize hn3:dj f3 kk3 (a.length - (i_4+1)) (i_4+1)=next3 at hk;rw [←hf3] at hk; (try dsimp only at hk);refine q25 ?_;refine gK ?_;refine cN rfl (dp (i:=i_4) rfl rfl rfl ha.1 ha.2.1 rfl a6) ?_;refine cN rfl (ei 0 (i:=i_4) (j:=0) rfl rfl rfl ha.1 ha.2.1 a6 rfl (R_List_GChoice.c0 (ha.2.2 i_4 a6)).1) ?_;have hd20_0:=(R_List_GChoice.c0 (ha.2.2 i_4 a6)).2;haveI:=hd20_0.oneC;refine gK ?_;refine cN rfl (dp (i:=i_4) rfl rfl rfl hb.1 hb.2.1 rfl a6) ?_;refine cN rfl (ei 0 (i:=i_4) (j:=0) rfl rfl rfl hb.1 hb.2.1 a6 rfl (R_List_GChoice.c0 (hb.2.2 i_4 a6)).1) ?_;have hd24_0:=(R_List_GChoice.c0 (hb.2.2 i_4 a6)).2;haveI:=hd24_0.oneC;refine dz ?_;refine cQ rfl (Wt.none) rfl rfl (cL rfl rfl rfl (fun w hw=>zcO _ w (hw.fr (i:=0) rfl) (cH a i_4) (cH (cH ca i_4) 0) hd20_0 (cH b i_4) (cH (cH cb i_4) 0) hd24_0)) ?_;refine je ?_;refine kE ?_;refine T.cond rfl (fun h6=>?_) (fun h6=>?_)
     ·replace hk:=dN hk h6;refine jo ?_;subst hk;exact fb
     ·replace hk:=dL hk h6;refine i2 ?_;rw [←hn3] at hk;exact K.next (i_4+1) hk a6 (.c (.c (.c .nil))) (List.Sublist.refl _)
    ·have p5:=of_decide_eq_false h5;rw [gR a6,←hkk3] at hk; (try dsimp only at hk);refine fE ?_;exact mm
  ·rintro _ hk;rw [←hk2] at hk; (try dsimp only at hk);refine lq ?_;subst hk;exact fb
theorem zdV (F0:Frz)(w:World)(hF0:F0.At w)(l:List GChoice)(vl:Value)(hl:SlC F0 vl 2 (l.map cG))(hr:dX l.length 16):Calls Tryz.prog 99 #[vl] w fun e w'=>∃v':Value,True∧e= .returned v'∧Hp w (fun _=>False) [.sl v' 34 2 l.length (l.flatMap cG)] w':=by
 haveI:=hl.oneC;have hl0:=hl;obtain ⟨A,cap,hv,hlc,hcm,hcl,hcs⟩:=hl0;have hlen:(l.map cG).length=l.length:=List.length_map _;obtain ⟨S0,F1,hF1,hS0,hp0⟩:=fY hF0
 cases hA:A with
 |none=>
  have h0:l=[]:=by
   cases l with
   |nil=>rfl
   |cons x r=>
    obtain ⟨g,off,h1,_⟩:=hcs b2;rw [hA] at h1;cases h1
  subst h0;refine dC (M:=fun _=>False) (hs:=[.fr F1]) Tryz.func99 rfl rfl rfl hp0 ?_;refine ju ?_;refine cK (lF (v:= .bool true) rfl rfl rfl (fun w=>by rw [hv,hA];kernel_rfl)) ?_;refine ma ?_;refine ic ?_;refine TL.slNil 34 2 ?_;refine kM ?_;exact cU rfl rfl (fun w' hw=>⟨.slice none 0 0,trivial,rfl,hw.sub Sx⟩)
 |some a=>
  rw [←hF1] at hl;refine dC (M:=fun _=>False) (hs:=[.fr F1]) Tryz.func99 rfl rfl rfl hp0 ?_;refine ju ?_;refine cK (lF (v:= .bool false) rfl rfl rfl (fun w=>by rw [hv,hA];kernel_rfl)) ?_;refine ms ?_;refine i1 ?_;refine dd (Ew.bB rfl) ?_;rintro _ _ ⟨g,rfl,rfl⟩;refine da ?_;refine dd (Ew.bG 0 1 (k':=l.length) (l':=l.flatMap cG) (zl2 (enc:=cG) (fun _=>inferInstance)) rfl rfl rfl rfl rfl hl cC (by rw [List.nil_append,←List.flatMap_def]) hr a7) ?_;rintro v' _ ⟨hv',rfl⟩;refine fu ?_;exact cU rfl rfl (fun w' hw=>⟨v',trivial,rfl,hw.sub Sx⟩)
theorem zit (F0:Frz)(w:World)(hF0:F0.At w)(l:List GChoice)(vl:Value)(hl:SlC F0 vl 2 (l.map cG))(hr:dX l.length 16):Calls Tryz.prog 99 #[vl] w fun e w'=>∃(y:Value) (G:Frz),SlC G y 2 (l.map cG)∧e= .returned y∧Fx F0 w G w':=by
 refine (zdV F0 w hF0 l vl hl hr).mono ?_;rintro e w' ⟨v',_,rfl,hw⟩;obtain ⟨G,h1,h2,h3⟩:=Fx.hp hF0 hw;have h4:=iL (G:=G) (hw.own (.sl v' 34 2 l.length (l.flatMap cG)) b2) h2 (h3 _ b2);exact ⟨v',G,h4.toF rfl (fun _=>rfl),rfl,h1⟩
theorem zjQ {F0 : Frz} {w : World} {vd vp vl vc : Value} {cd : List (List Value)} {p : GProblem} (hF0 : F0.At w) (h : PbF F0 vd cd vp vl vc p) :
    Calls Tryz.prog 25 #[.agg [vd, vp, vl, vc].toArray] w fun e w' => e = .returned (.bool (eF p)) ∧ Below w.heap.size w w' := by
  obtain ⟨P, rfl, hP⟩ := zi4 h hF0; rw [← zn9]; exact zgq P vd vp vl vc w hP
end Go.Proofs.YtgoeeefoinkepaaGreatDoor
