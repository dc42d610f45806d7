/- Yt Kz: shortened and put together by squeeze.py. -/
import Derived.Test.YtgoeeefoinkepaaGreatDoorQ10
import Derived.ArgAppend
set_option maxRecDepth 100000
set_option maxHeartbeats 4000000
set_option linter.unusedVariables false
set_option linter.unusedSectionVars false
set_option linter.unusedSimpArgs false
namespace Go.Proofs.YtgoeeefoinkepaaGreatDoor
open Go.RowKit
def zaR (s:List Int)(v_:Int):Int:=
 dO (fun (_:Unit)=>
  (-1))
 (fun k1=>
  dh (fun (i_3:Nat) (next2:Unit→Int) (_:Unit)=>
   (bif decide (v_=(cH s i_3)) then
    (i_3:Int)
    else
    next2 ()))
  (fun (_:Unit)=>
   k1 ()) (s.length - 0) 0 ())
theorem zdk (F0:Frz)(w:World)(hF0:F0.At w)(s:List Int)(vs:Value)(hs:SlC F0 vs 1 (s.map eI))(v_:Int):Calls Tryz.prog 61 #[vs, .int .i64 v_] w fun e w'=>e= .returned (.int .i64 (zaR s v_))∧Below w.heap.size w w':=by
 obtain ⟨r,hk⟩:∃r,zaR s v_=r:=⟨_,rfl⟩;rw [hk];unfold zaR at hk;haveI:=hs.oneC;obtain ⟨S0,F1,rfl,hS0,hp0⟩:=fX hF0;refine dB Tryz.func61 rfl rfl rfl hp0 ?_;refine jB ?_;refine cK (dn rfl rfl hs (List.length_map _)) ?_;have hm7:s.length≤9223372036854775807:=(List.length_map _)▸hs.max;refine dR ?_;have hq:=fq hk;clear hk;obtain ⟨k1,hk1,hk⟩:=hq; (try dsimp only at hk);refine dg (ι:=Unit) (fun z=>[]) (fun z=>[.fr F1]) (fun z=>k1 ()=r) ?_ ?_
 ·have hq:=gF hk;clear hk;obtain ⟨f2,kk2,hf2,hkk2,hk⟩:=hq;refine fV ?_;refine T.loop (ι:=Nat) (fun z=>[(0,vs),(1, .int .i64 v_),(7, .int .i64 (s.length:Int)),(8, .int .i64 (z:Int))]) (fun z=>[.fr F1]) (fun z=>dh f2 kk2 (s.length - z) z ()=r) (fun z=>s.length - z) 0 ?_ ?_ ?_ ?_
  ·exact hk
  ·exact mc
  ·exact fQ
  ·rintro i_3 hk;refine fk ?_;refine T.cond rfl (fun h4=>?_) (fun h4=>?_)
   ·have p4:=of_decide_eq_true h4;rw [gH a6] at hk;generalize hn2:dh f2 kk2 (s.length - (i_3+1)) (i_3+1)=next2 at hk;rw [←hf2] at hk; (try dsimp only at hk);refine fT ?_;refine ec ?_;refine dq ?_;refine fb ?_;refine cK (dj (i:=i_3) rfl rfl rfl hs (List.length_map _) rfl a6) ?_;refine cK (ek 0 (i:=i_3) (j:=0) rfl rfl rfl hs a6) ?_;refine dR ?_;refine T.cond rfl (fun h5=>?_) (fun h5=>?_)
    ·have p5:=of_decide_eq_true h5;replace hk:=dH hk h5;refine i4 ?_;refine mN ?_;subst hk;exact eX
    ·have p5:=of_decide_eq_false h5;replace hk:=dL hk h5;refine iK ?_;rw [←hn2] at hk;exact q4s
   ·have p4:=of_decide_eq_false h4;rw [gK a6,←hkk2] at hk; (try dsimp only at hk);refine fu ?_;exact mg
 ·rintro _ hk;rw [←hk1] at hk; (try dsimp only at hk);refine ld ?_;subst hk;exact eX
def m0 (s:List Int)(v_:Int):Bool:=
 (decide (0≤(zaR s v_)))
theorem zcQ (F0:Frz)(w:World)(hF0:F0.At w)(s:List Int)(vs:Value)(hs:SlC F0 vs 1 (s.map eI))(v_:Int):Calls Tryz.prog 29 #[vs, .int .i64 v_] w fun e w'=>e= .returned (.bool (m0 s v_))∧Below w.heap.size w w':=by
 obtain ⟨r,hk⟩:∃r,m0 s v_=r:=⟨_,rfl⟩;rw [hk];unfold m0 at hk;haveI:=hs.oneC;obtain ⟨S0,F1,rfl,hS0,hp0⟩:=fX hF0;refine dB Tryz.func29 rfl rfl rfl hp0 ?_;refine ic ?_;refine dq ?_;refine ec ?_;refine df (cL rfl rfl rfl (fun w hw=>zdk _ w (hw.fr (i:=0) rfl) s vs hs v_)) ?_;refine eB ?_;refine jE ?_;subst hk;exact eX
def lQ (s:List GChoice)(v_:GChoice):Int:=
 dO (fun (_:Unit)=>
  (-1))
 (fun k1=>
  dh (fun (i_3:Nat) (next2:Unit→Int) (_:Unit)=>
   (bif (decide (v_.Station=(cH s i_3).Station)&&decide (v_.Channel=(cH s i_3).Channel)) then
    (i_3:Int)
    else
    next2 ()))
  (fun (_:Unit)=>
   k1 ()) (s.length - 0) 0 ())
theorem za8 (F0:Frz)(w:World)(hF0:F0.At w)(s:List GChoice)(vs:Value)(hs:SlC F0 vs 2 (s.map cG))(v_:GChoice):Calls Tryz.prog 106 #[vs, .agg [.int .i64 v_.Station, .int .i64 v_.Channel].toArray] w fun e w'=>e= .returned (.int .i64 (lQ s v_))∧Below w.heap.size w w':=by
 obtain ⟨r,hk⟩:∃r,lQ s v_=r:=⟨_,rfl⟩;rw [hk];unfold lQ at hk;haveI:=hs.oneC;obtain ⟨S0,F1,rfl,hS0,hp0⟩:=fX hF0;refine dB Tryz.func106 rfl rfl rfl hp0 ?_;refine jI ?_;rintro _ _ ⟨g3,rfl,rfl⟩;refine jD ?_;refine dc ?_;refine cK (dn rfl rfl hs (List.length_map _)) ?_;have hm7:s.length≤9223372036854775807:=(List.length_map _)▸hs.max;refine dR ?_;have hq:=fq hk;clear hk;obtain ⟨k1,hk1,hk⟩:=hq; (try dsimp only at hk);refine dg (ι:=Unit) (fun z=>[]) (fun z=>[.fr F1]) (fun z=>k1 ()=r) ?_ ?_
 ·have hq:=gF hk;clear hk;obtain ⟨f2,kk2,hf2,hkk2,hk⟩:=hq;refine fV ?_;refine T.loop (ι:=Nat) (fun z=>[(0,vs),(3, .pointer (some ⟨g3,0,none⟩)),(7, .int .i64 (s.length:Int)),(8, .int .i64 (z:Int))]) (fun z=>[.row g3 34 [.int .i64 v_.Station, .int .i64 v_.Channel], .fr F1]) (fun z=>dh f2 kk2 (s.length - z) z ()=r) (fun z=>s.length - z) 0 ?_ ?_ ?_ ?_
  ·exact hk
  ·exact mc
  ·exact fQ
  ·rintro i_3 hk;refine fk ?_;refine T.cond rfl (fun h4=>?_) (fun h4=>?_)
   ·have p4:=of_decide_eq_true h4;rw [gH a6] at hk;generalize hn2:dh f2 kk2 (s.length - (i_3+1)) (i_3+1)=next2 at hk;rw [←hf2] at hk; (try dsimp only at hk);refine fT ?_;refine ec ?_;refine cR (T.seq ?_);refine dF (sN 0 5 (.still 5 .done)) _ a8 (List.Sublist.refl _) ?_;refine jM ?_;refine gE ?_;refine cN rfl (dj (i:=i_3) rfl rfl rfl hs (List.length_map _) rfl a6) ?_;refine cN rfl (eD 1 (i:=i_3) rfl rfl rfl hs a6) ?_;refine cN rfl (Yv.ck a8 rfl rfl rfl) ?_;refine fv ?_;refine K.seq ?_;refine T.cond rfl (fun h5=>?_) (fun h5=>?_)
    ·have p5:=h5; (try simp only [cT] at p5);replace hk:=dH hk h5;refine i4 ?_;refine mN ?_;subst hk;exact eX
    ·replace hk:=dL hk h5;refine iK ?_;rw [←hn2] at hk;exact q4s
   ·have p4:=of_decide_eq_false h4;rw [gK a6,←hkk2] at hk; (try dsimp only at hk);refine fu ?_;refine mY ?_;exact mg
 ·rintro _ hk;rw [←hk1] at hk; (try dsimp only at hk);refine ld ?_;subst hk;exact eX
def za5 (a:GDomain)(b:GDomain):Bool:=
 ((decide (1<(a.Channels.length:Int)))&&((decide ((b.Channels.length:Int)≤1))||(decide ((a.Channels.length:Int)<(b.Channels.length:Int)))))
theorem zfb (F0:Frz)(w:World)(hF0:F0.At w)(a:GDomain)(va_1:Value)(ha_1:SlC F0 va_1 1 (a.Channels.map eI))(b:GDomain)(vb_1:Value)(hb_1:SlC F0 vb_1 1 (b.Channels.map eI)):Calls Tryz.prog 28 #[.agg [.int .i64 a.Station,va_1].toArray, .agg [.int .i64 b.Station,vb_1].toArray] w fun e w'=>e= .returned (.bool (za5 a b))∧Below w.heap.size w w':=by
 obtain ⟨r,hk⟩:∃r,za5 a b=r:=⟨_,rfl⟩;rw [hk];unfold za5 at hk;haveI:=ha_1.oneC;haveI:=hb_1.oneC;obtain ⟨S0,F1,rfl,hS0,hp0⟩:=fX hF0;refine dB Tryz.func28 rfl rfl rfl hp0 ?_;refine jI ?_;rintro _ _ ⟨g2,rfl,rfl⟩;refine df (dv) ?_;rintro _ _ ⟨g3,rfl,rfl⟩;refine j6 ?_;refine dg (ι:=Unit) (fun z=>[(4, .bool ((decide (1<(a.Channels.length:Int)))&&((decide ((b.Channels.length:Int)≤1))||(decide ((a.Channels.length:Int)<(b.Channels.length:Int))))))]) (fun z=>[.row g3 59 [.int .i64 b.Station,vb_1], .row g2 59 [.int .i64 a.Station,va_1], .fr F1]) (fun z=>True) ?_ ?_
 ·refine fN ?_;refine kS ?_;refine cK (dn rfl rfl ha_1 (List.length_map _)) ?_;have hm7:a.Channels.length≤9223372036854775807:=(List.length_map _)▸ha_1.max;refine ec ?_;refine du rfl rfl rfl (fun h1=>?_) (fun h1=>?_)
  ·have p1:=of_decide_eq_true h1;refine em ?_;refine cK (dn rfl rfl hb_1 (List.length_map _)) ?_;have hm12:b.Channels.length≤9223372036854775807:=(List.length_map _)▸hb_1.max;refine ec ?_;refine du rfl rfl rfl (fun h2=>?_) (fun h2=>?_)
   ·have p2:=of_decide_eq_true h2;refine TL.run 10 rfl ?_;refine fO ?_;exact cP () trivial (.b (gG h1 (iz h2)).symm .nil) (List.Sublist.refl _)
   ·have p2:=of_decide_eq_false h2;refine kS ?_;refine cK (dn rfl rfl ha_1 (List.length_map _)) ?_;refine em ?_;refine cK (dn rfl rfl hb_1 (List.length_map _)) ?_;refine mv ?_;exact cP () trivial (.b (Eq.trans (iA h2) (kJ h1)) .nil) (List.Sublist.refl _)
  ·have p1:=of_decide_eq_false h1;refine TL.run 15 rfl ?_;refine fO ?_;exact q37
 ·rintro _ _;have hm7:a.Channels.length≤9223372036854775807:=(List.length_map _)▸ha_1.max;have hm12:b.Channels.length≤9223372036854775807:=(List.length_map _)▸hb_1.max;refine T.ret ?_;subst hk;exact eX
def zaA (l:List GDomain):Option Int:=
 dO (fun (best_1:Int)=>
  some best_1)
 (fun k2=>
  dh (fun (i_5:Nat) (next4:Int→Option Int) (best_3:Int)=>
   dO (fun (x_7:Bool)=>
    (bif x_7 then
     next4 (i_5:Int)
     else
     next4 best_3))
   (fun k8=>
    (bif decide (best_3<0) then
     k8 true
     else
     ex (0≤best_3∧best_3<(l.length:Int)) <|
     k8 (za5 (cH l i_5) (cH l best_3.toNat)))))
  (fun (best_3:Int)=>
   k2 best_3) (l.length - 0) 0 (-1))
theorem zb3 (F0:Frz)(w:World)(hF0:F0.At w)(l:List GDomain)(vl:Value)(cl:List (List Value))(hl:SlD cJ F0 vl 2 cl l)(r:Int)(hr:zaA l=some r):Calls Tryz.prog 27 #[vl, .func (.func 28) #[] #[]] w fun e w'=>e= .returned (.int .i64 r)∧Below w.heap.size w w':=by
 have hk:=hr;unfold zaA at hk;haveI:=hl.1.oneC;obtain ⟨S0,F1,rfl,hS0,hp0⟩:=fX hF0;refine dB Tryz.func27 rfl rfl rfl hp0 ?_;refine l5 ?_;refine ij ?_;refine dc ?_;refine cK (dn rfl rfl hl.1 hl.2.1) ?_;have hm9:l.length≤9223372036854775807:=hl.2.1▸hl.1.max;refine dR ?_;have hq:=fq hk;clear hk;obtain ⟨k2,hk2,hk⟩:=hq; (try dsimp only at hk);refine dg (ι:=Int) (fun z=>[(5, .int .i64 z)]) (fun z=>[.fr F1]) (fun z=>k2 z=some r) ?_ ?_
 ·have hq:=gF hk;clear hk;obtain ⟨f4,kk4,hf4,hkk4,hk⟩:=hq;refine fV ?_;refine T.loop (ι:=Nat×Int) (fun z=>[(0,vl),(1, .func (.func 28) #[] #[]),(5, .int .i64 z.2),(8,vl),(9, .int .i64 (l.length:Int)),(10, .int .i64 (z.1:Int))]) (fun z=>[.fr F1]) (fun z=>dh f4 kk4 (l.length - z.1) z.1 z.2=some r) (fun z=>l.length - z.1) (0,(-1)) ?_ ?_ ?_ ?_
  ·exact hk
  ·exact (.c (.c (.c (.c (.c (.c .nil))))))
  ·exact fQ
  ·rintro ⟨i_5,best_3⟩ hk; (try dsimp only at *);refine fk ?_;refine T.cond rfl (fun h6=>?_) (fun h6=>?_)
   ·have p6:=of_decide_eq_true h6;rw [gH a6] at hk;generalize hn4:dh f4 kk4 (l.length - (i_5+1)) (i_5+1)=next4 at hk;rw [←hf4] at hk; (try dsimp only at hk);refine fT ?_;refine dc ?_;refine cK (dj (i:=i_5) rfl rfl rfl hl.1 hl.2.1 rfl a6) ?_;refine cK (jk 0 (i:=i_5) (j:=0) rfl rfl rfl hl.1 hl.2.1 a6 rfl (ey (hl.2.2 i_5 a6)) rfl) ?_;have hd14_1:=(GDomain.c1 (hl.2.2 i_5 a6)).2;haveI:=hd14_1.oneC;refine iJ ?_;rintro _ _ ⟨g7,rfl,rfl⟩;refine dc ?_;refine q2H ?_; (try dsimp only at hk);have hq:=fq hk;clear hk;obtain ⟨k8,hk8,hk⟩:=hq; (try dsimp only at hk);refine dg (ι:=Bool) (fun z=>[(0,vl),(1, .func (.func 28) #[] #[]),(5, .int .i64 best_3),(6, .int .i64 (i_5:Int)),(8,vl),(9, .int .i64 (l.length:Int)),(10, .int .i64 (i_5:Int)),(25, .bool z)]) (fun z=>[.fr F1]) (fun z=>k8 z=some r) ?_ ?_
    ·refine q3a ?_;refine fU ?_;refine dz rfl rfl rfl rfl (fun h9=>?_) (fun h9=>?_)
     ·have p9:=of_decide_eq_true h9;replace hk:=dH hk h9;refine TS.run 6 rfl ?_;refine iZ ?_;refine l7 ?_;refine mY ?_;exact cP true hk (.c (.c (.c (.c (.c (.c (.c (.c .nil)))))))) (List.Sublist.refl _)
     ·have p9:=of_decide_eq_false h9;replace hk:=dL hk h9;refine eR ?_;refine jM ?_;refine gE ?_;have hq:(0≤best_3∧best_3<(l.length:Int))∧_:=gZ hk;clear hk;obtain ⟨g22,hk⟩:=hq;refine cN rfl (dj (i:=best_3.toNat) rfl rfl rfl hl.1 hl.2.1 a6 a6) ?_;refine cN rfl (jk 1 (i:=best_3.toNat) (j:=0) rfl rfl rfl hl.1 hl.2.1 a6 rfl (ey (hl.2.2 best_3.toNat a6)) rfl) ?_;have hd23_1:=(GDomain.c1 (hl.2.2 best_3.toNat a6)).2;haveI:=hd23_1.oneC;refine dx ?_;refine cQ rfl (Wt.some) rfl rfl (cL rfl rfl rfl (fun w hw=>zfb _ w (hw.fr (i:=1) rfl) (cH l i_5) (cH (cH cl i_5) 1) hd14_1 (cH l best_3.toNat) (cH (cH cl best_3.toNat) 1) hd23_1)) ?_;refine jh ?_;refine l7 ?_;refine mY ?_;exact cP (za5 (cH l i_5) (cH l best_3.toNat)) hk (.c (.c (.c (.c (.c (.c (.c (.c .nil)))))))) (List.Sublist.refl _)
    ·rintro x_7 hk;rw [←hk8] at hk; (try dsimp only at hk);refine T.cond rfl (fun h10=>?_) (fun h10=>?_)
     ·replace hk:=dH hk h10;refine jO ?_;refine lN ?_;rw [←hn4] at hk;exact K.next ((i_5+1),(i_5:Int)) hk b3 (.c (.c (.c (.c (.c (.c .nil)))))) (List.Sublist.refl _)
     ·replace hk:=dL hk h10;refine iK ?_;rw [←hn4] at hk;exact K.next ((i_5+1),best_3) hk b3 (.c (.c (.c (.c (.c (.c .nil)))))) (List.Sublist.refl _)
   ·have p6:=of_decide_eq_false h6;rw [gK a6,←hkk4] at hk; (try dsimp only at hk);refine fu ?_;exact cP best_3 hk (.c .nil) (List.Sublist.refl _)
 ·rintro best_1 hk;rw [←hk2] at hk; (try dsimp only at hk);refine i4 ?_;refine gM ?_;obtain rfl:=Option.some.inj hk;exact eX
def za0 (l:List GDomain)(hints:List GChoice):Option (GChoice×Int):=
 (bif ((!(eF (GProblem.mk l (GRules.mk [] [] []))))||(!(kR hints))) then
  some ((GChoice.mk 0 0),2)
  else
  (zaA l).bind fun r21=>
  dO (fun (x_3:Bool)=>
   (bif x_3 then
    some ((GChoice.mk 0 0),9)
    else
    ex (0≤r21∧r21<(l.length:Int)) <|
    ex (0≤0∧0<(((cH l r21.toNat).Channels).length:Int)) <|
    dO (fun (s9:Int×Int)=>
     some ((GChoice.mk ((cH l r21.toNat).Station) (cH ((cH l r21.toNat).Channels) 0)),0))
    (fun k9=>
     dh (fun (i_13:Nat) (next12:(Int×Int)→Option (GChoice×Int)) (s12:Int×Int)=>
      (bif ((decide ((cH hints i_13).Station=(cH l r21.toNat).Station))&&(m0 ((cH l r21.toNat).Channels) ((cH hints i_13).Channel))) then
       some ((cH hints i_13),0)
       else
       next12 (s12.1,s12.2)))
     (fun (s12:Int×Int)=>
      k9 (s12.1,s12.2)) (hints.length - 0) 0 (0,0))))
  (fun k4=>
   (bif decide (r21<0) then
    k4 true
    else
    ex (0≤r21∧r21<(l.length:Int)) <|
    k4 (decide ((((cH l r21.toNat).Channels).length:Int)≤1)))))
theorem zc5 (F0:Frz)(w:World)(hF0:F0.At w)(l:List GDomain)(vl:Value)(cl:List (List Value))(hl:SlD cJ F0 vl 2 cl l)(hints:List GChoice)(vhints:Value)(hhints:SlC F0 vhints 2 (hints.map cG))(r:GChoice×Int)(hr:za0 l hints=some r):Calls Tryz.prog 10 #[vl,vhints] w fun e w'=>e= .returned (.tuple #[.agg [.int .i64 r.1.Station, .int .i64 r.1.Channel].toArray, .int .i64 r.2])∧Below w.heap.size w w':=by
 have hk:=hr;unfold za0 at hk;haveI:=hl.1.oneC;haveI:=hhints.oneC;obtain ⟨S0,F1,rfl,hS0,hp0⟩:=fX hF0;refine dB Tryz.func10 rfl rfl rfl hp0 ?_;refine dd ?_;refine iJ ?_;rintro _ _ ⟨g4,rfl,rfl⟩;refine q2q ?_;refine dg (ι:=Unit) (fun z=>[(0,vl),(1,vhints),(4, .pointer (some ⟨g4,0,none⟩)),(18, .bool ((!(eF (GProblem.mk l (GRules.mk [] [] []))))||(!(kR hints))))]) (fun z=>[.row g4 34 [.int .i64 0, .int .i64 0], .fr F1]) (fun z=>True) ?_ ?_
 ·refine kd ?_;refine jm ?_;refine df (cL rfl rfl rfl (fun w hw=>zjs (p:=(GProblem.mk l (GRules.mk [] [] []))) (hw.fr (i:=1) rfl) ⟨hl,(SlC.nil _ 5),(SlC.nil _ 5),(SlC.nil _ 4)⟩)) ?_;refine eB ?_;refine ec ?_;refine du rfl rfl rfl (fun h1=>?_) (fun h1=>?_)
  ·refine mv ?_;exact cP () trivial (.c (.c (.c (.b (iz h1).symm .nil)))) (List.Sublist.refl _)
  ·refine dc ?_;refine df (cL rfl rfl rfl (fun w hw=>zbM _ w (hw.fr (i:=1) rfl) hints vhints hhints)) ?_;refine eB ?_;refine lH ?_;exact cP () trivial (.c (.c (.c (.b (iA h1) .nil)))) (List.Sublist.refl _)
 ·rintro _ _;refine T.cond rfl (fun h2=>?_) (fun h2=>?_)
  ·replace hk:=dH hk h2;refine dd ?_;refine jm ?_;refine jX ?_;refine dc ?_;refine ky ?_;obtain rfl:=Option.some.inj hk;exact q4v
  ·replace hk:=dL hk h2;refine ks ?_;have hq:=fD hk;clear hk;obtain ⟨r21,hr21,hk⟩:=hq; (try dsimp only at hk);refine kd ?_;refine df (cL rfl rfl rfl (fun w hw=>zb3 _ w (hw.fr (i:=1) rfl) l vl cl hl r21 hr21)) ?_;refine eB ?_;refine q2q ?_; (try dsimp only at hk);have hq:=fq hk;clear hk;obtain ⟨k4,hk4,hk⟩:=hq; (try dsimp only at hk);refine dg (ι:=Bool) (fun z=>[(0,vl),(1,vhints),(4, .pointer (some ⟨g4,0,none⟩)),(6, .int .i64 r21),(32, .bool z)]) (fun z=>[.row g4 34 [.int .i64 0, .int .i64 0], .fr F1]) (fun z=>k4 z=some r) ?_ ?_
   ·refine q3L ?_;refine du rfl rfl rfl (fun h5=>?_) (fun h5=>?_)
    ·have p5:=of_decide_eq_true h5;replace hk:=dH hk h5;refine TL.run 8 rfl ?_;refine fO ?_;exact cP true hk (.c (.c (.c (.c (.c .nil))))) (List.Sublist.refl _)
    ·have p5:=of_decide_eq_false h5;replace hk:=dL hk h5;refine ec ?_;have hq:(0≤r21∧r21<(l.length:Int))∧_:=gZ hk;clear hk;obtain ⟨g27,hk⟩:=hq;refine cK (dj (i:=r21.toNat) rfl rfl rfl hl.1 hl.2.1 a6 a6) ?_;refine cK (fI rfl rfl hl.1 hl.2.1 a6) ?_;refine cK (d9 1 (i:=r21.toNat) (j:=1) rfl rfl rfl hl.1 hl.2.1 a6 rfl (GDomain.c1 (hl.2.2 r21.toNat a6)).1) ?_;have hd29_1:=(GDomain.c1 (hl.2.2 r21.toNat a6)).2;haveI:=hd29_1.oneC;refine cK (dn rfl rfl hd29_1 (List.length_map _)) ?_;have hm30:((cH l r21.toNat).Channels).length≤9223372036854775807:=(List.length_map _)▸hd29_1.max;refine lH ?_;exact cP (decide ((((cH l r21.toNat).Channels).length:Int)≤1)) hk (.c (.c (.c (.c (.c .nil))))) (List.Sublist.refl _)
   ·rintro x_3 hk;rw [←hk4] at hk; (try dsimp only at hk);refine T.cond rfl (fun h6=>?_) (fun h6=>?_)
    ·replace hk:=dH hk h6;refine dd ?_;refine jm ?_;refine jX ?_;refine dc ?_;refine ky ?_;obtain rfl:=Option.some.inj hk;exact q4v
    ·replace hk:=dL hk h6;refine ks ?_;have hq:(0≤r21∧r21<(l.length:Int))∧_:=gZ hk;clear hk;obtain ⟨g36,hk⟩:=hq;have hq:(0≤0∧0<(((cH l r21.toNat).Channels).length:Int))∧_:=gZ hk;clear hk;obtain ⟨g44,hk⟩:=hq; (try dsimp only at hk);refine dF (sN 0 13 (.eff 13 (.eff 14 .done))) _ a8 (List.Sublist.refl _) ?_;refine q17 ?_;refine cN rfl (d9 1 (i:=r21.toNat) (j:=0) rfl rfl rfl hl.1 hl.2.1 a6 rfl (GDomain.c0 (hl.2.2 r21.toNat a6))) ?_;refine q17 ?_;refine cN rfl (d9 1 (i:=r21.toNat) (j:=1) rfl rfl rfl hl.1 hl.2.1 a6 rfl (GDomain.c1 (hl.2.2 r21.toNat a6)).1) ?_;have hd43_1:=(GDomain.c1 (hl.2.2 r21.toNat a6)).2;haveI:=hd43_1.oneC;refine cN rfl (dj (i:=0) rfl rfl rfl hd43_1 (List.length_map _) (show (0:Int)=((0:Nat):Int) from rfl) a6) ?_;refine cN rfl (ek 1 (i:=0) (j:=0) rfl rfl rfl hd43_1 a6) ?_;refine q1X ?_;refine cQ rfl (Wt.none) rfl rfl (Ew.alloc) ?_;rintro _ _ ⟨g7,rfl,rfl⟩;refine lZ ?_;refine q1Y ?_;refine fv ?_;refine K.seq (T.seq (dd ?_));refine dc ?_;refine cK (dn rfl rfl hhints (List.length_map _)) ?_;have hm48:hints.length≤9223372036854775807:=(List.length_map _)▸hhints.max;refine dR ?_;have hq:=fq hk;clear hk;obtain ⟨k9,hk9,hk⟩:=hq; (try dsimp only at hk);refine dg (ι:=Int×Int) (fun z=>[(4, .pointer (some ⟨g4,0,none⟩)),(7, .pointer (some ⟨g7,0,none⟩))]) (fun z=>[.row g4 34 [.int .i64 z.1, .int .i64 z.2], .row g7 34 [.int .i64 ((cH l r21.toNat).Station), .int .i64 (cH ((cH l r21.toNat).Channels) 0)], .fr F1]) (fun z=>k9 (z.1,z.2)=some r) ?_ ?_
     ·have hq:=gF hk;clear hk;obtain ⟨f12,kk12,hf12,hkk12,hk⟩:=hq;refine fV ?_;refine T.pick [1,0,2] rfl a7 ?_;refine T.loop (ι:=Nat×Int×Int) (fun z=>[(0,vl),(4, .pointer (some ⟨g4,0,none⟩)),(6, .int .i64 r21),(7, .pointer (some ⟨g7,0,none⟩)),(47,vhints),(48, .int .i64 (hints.length:Int)),(49, .int .i64 (z.1:Int))]) (fun z=>[.row g4 34 [.int .i64 z.2.1, .int .i64 z.2.2], .row g7 34 [.int .i64 ((cH l r21.toNat).Station), .int .i64 (cH ((cH l r21.toNat).Channels) 0)], .fr F1]) (fun z=>dh f12 kk12 (hints.length - z.1) z.1 (z.2.1,z.2.2)=some r) (fun z=>hints.length - z.1) (0,0,0) ?_ ?_ ?_ ?_
      ·exact hk
      ·exact (.c (.c (.c (.c (.c (.c (.c .nil)))))))
      ·exact fQ
      ·rintro ⟨i_13,c_10,c_11⟩ hk; (try dsimp only at *);refine fk ?_;refine T.cond rfl (fun h14=>?_) (fun h14=>?_)
       ·have p14:=of_decide_eq_true h14;rw [gH a6] at hk;generalize hn12:dh f12 kk12 (hints.length - (i_13+1)) (i_13+1)=next12 at hk;rw [←hf12] at hk; (try dsimp only at hk);refine fT ?_;refine cK (dj (i:=i_13) rfl rfl rfl hhints (List.length_map _) rfl a6) ?_;refine cK (eD 2 (i:=i_13) rfl rfl rfl hhints a6) ?_;refine iJ ?_;rintro _ _ ⟨g9,rfl,rfl⟩;refine q2H ?_;refine dg (ι:=Unit) (fun z=>[(0,vl),(4, .pointer (some ⟨g4,0,none⟩)),(6, .int .i64 r21),(7, .pointer (some ⟨g7,0,none⟩)),(9, .pointer (some ⟨g9,0,none⟩)),(47,vhints),(48, .int .i64 (hints.length:Int)),(49, .int .i64 (i_13:Int)),(67, .bool ((decide ((cH hints i_13).Station=(cH l r21.toNat).Station))&&(m0 ((cH l r21.toNat).Channels) ((cH hints i_13).Channel))))]) (fun z=>[.row g9 34 [.int .i64 ((cH hints i_13).Station), .int .i64 ((cH hints i_13).Channel)], .row g4 34 [.int .i64 c_10, .int .i64 c_11], .row g7 34 [.int .i64 ((cH l r21.toNat).Station), .int .i64 (cH ((cH l r21.toNat).Channels) 0)], .fr F1]) (fun z=>True) ?_ ?_
        ·refine dF (sN 0 13 (.eff 13 (.still 14 .done))) _ a8 (List.Sublist.refl _) ?_;refine eW ?_;refine gu ?_;refine q3l ?_;refine gE ?_;refine dz rfl rfl rfl rfl (fun h15=>?_) (fun h15=>?_)
         ·have p15:=of_decide_eq_true h15;refine q17 ?_;refine cN rfl (d9 3 (i:=r21.toNat) (j:=1) rfl rfl rfl hl.1 hl.2.1 a6 rfl (GDomain.c1 (hl.2.2 r21.toNat a6)).1) ?_;refine lR ?_;refine cQ rfl (Wt.some) rfl rfl (cL rfl rfl rfl (fun w hw=>zcQ _ w (hw.fr (i:=3) rfl) ((cH l r21.toNat).Channels) (cH (cH cl r21.toNat) 1) hd43_1 ((cH hints i_13).Channel))) ?_;refine jh ?_;refine l7 ?_;exact cP () trivial (.c (.c (.c (.c (.c (.c (.c (.c (.b (kJ h15) .nil))))))))) (List.Sublist.refl _)
         ·have p15:=of_decide_eq_false h15;refine q2U ?_;refine l7 ?_;exact cP () trivial (.c (.c (.c (.c (.c (.c (.c (.c (.b (fA h15).symm .nil))))))))) (List.Sublist.refl _)
        ·rintro _ _;refine T.cond rfl (fun h16=>?_) (fun h16=>?_)
         ·have p16:=h16; (try simp only [cT] at p16);replace hk:=dH hk h16;refine dd ?_;refine jd ?_;refine q3K ?_;refine mN ?_;obtain rfl:=Option.some.inj hk;exact jH 1 rfl rfl rfl rfl rfl (fun w' hw=>⟨rfl,hw.isBelow⟩)
         ·replace hk:=dL hk h16;refine iK ?_;rw [←hn12] at hk;refine q2S ?_;exact K.next ((i_13+1),c_10,c_11) hk b3 (.c (.c (.c (.c (.c (.c (.c .nil))))))) (List.Sublist.refl _)
       ·have p14:=of_decide_eq_false h14;rw [gK a6,←hkk12] at hk; (try dsimp only at hk);refine fu ?_;exact cP (c_10,c_11) hk (.c (.c .nil)) (List.Sublist.refl _)
     ·rintro ⟨c_7,c_8⟩ hk; (try dsimp only at *);rw [←hk9] at hk; (try dsimp only at hk);refine dd ?_;refine q2F ?_;refine jX ?_;refine fB ?_;obtain rfl:=Option.some.inj hk;exact q4v
def lV (l:List GChoice):Option (List GChoice):=
 ex (dQ l.length 16) <|
 (zhv l).bind fun r7=>
 some r7
theorem zbZ (F0:Frz)(w:World)(hF0:F0.At w)(l:List GChoice)(vl:Value)(hl:SlC F0 vl 2 (l.map cG))(r:List GChoice)(hr:lV l=some r):Calls Tryz.prog 70 #[vl] w fun e w'=>∃(y:Value),(True)∧e= .returned (y)∧FxM F0 w (dy []) F0 [.sl y 34 2 r.length (r.flatMap cG)] w':=by
 have hk:=hr;unfold lV at hk;haveI:=hl.oneC;obtain ⟨S0,F1,rfl,hS0,hp0⟩:=fX hF0;rw [zhf];refine dB Tryz.func70 rfl rfl rfl hp0 ?_;refine fk ?_;have hq:(dQ l.length 16)∧_:=gZ hk;clear hk;obtain ⟨g5,hk⟩:=hq; (try dsimp only at hk);refine kd ?_;refine df (iG rfl rfl rfl (fun w hw=>zd8 _ w (hw.fr (i:=0) rfl) l vl hl g5)) ?_;rintro v5_ _ ⟨_,_,rfl,rfl⟩;refine fH ?_;refine gj 0 rfl ?_;intro iv5_ hmv5_;refine j6 ?_;have hq:=fD hk;clear hk;obtain ⟨r7,hr7,hk⟩:=hq; (try dsimp only at hk);refine kd ?_;refine df (fL [0,1] [.sl v5_ 34 2 l.length (l.flatMap cG)] [] rfl rfl rfl rfl a7 (fun w hw hw2 hF=>zmC _ w hF l v5_ hw2.takes.1 hw2.takes.2 r7 hr7)) ?_;rintro _ _ ⟨⟨⟩, -,rfl,rfl⟩;refine fH ?_;refine dq ?_;refine jE ?_;obtain rfl:=Option.some.inj hk;exact cU rfl rfl (fun w' hw=>⟨v5_,trivial,rfl,dw (hw.pick (idx:=[0,1]) rfl a7) hS0 (Frz.Le.refl _)⟩)
def ownsX (w:World)(e:TypeId)(size:Nat)(v:Value)(n:Nat)(l:List Value):Prop:=
 l.length=n*size∧((v= .slice none 0 0∧n=0)∨∃g cap cur,v= .slice (some ⟨g,0,none⟩) n cap∧w.heap[g]?=some (.cells cur e (0,0))∧n≤cap∧cap≤maxLen∧cap*size≤cur.size∧cur.toList.take (n*size)=l)
@[irreducible] def Ent.sx (v:Value) (e:TypeId) (size n:Nat) (l:List Value):Ent where
 fp k:=v.ownBlock=some k
 ok w:=ownsX w e size v n l
 loc {w w'} h k:=by
  refine ⟨k.1,?_⟩;rcases k.2 with hz|⟨g,cap,cur,rfl,hgg,r⟩
  ·exact .inl hz
  ·exact .inr ⟨g,cap,cur,rfl,(h g rfl).trans hgg,r⟩
 lt {w} h k e:=by
  rcases h.2 with ⟨rfl,_⟩|⟨g,cap,cur,rfl,hgg,_⟩
  ·cases e
  ·cases e;exact (Array.getElem?_eq_some_iff.1 hgg).1
 nd {w} h k e c:=by
  rcases h.2 with ⟨rfl,_⟩|⟨g,cap,cur,rfl,hgg,_⟩
  ·cases e
  ·cases e;rw [hgg];simp
theorem eN {v:Value}{e:TypeId}{size n:Nat}{l:List Value}{k:Nat}:(Ent.sx v e size n l).fp k↔v.ownBlock=some k:=by unfold Ent.sx;exact Iff.rfl
theorem eJ {v:Value}{e:TypeId}{size n:Nat}{l:List Value}{w:World}:(Ent.sx v e size n l).ok w↔ownsX w e size v n l:=by unfold Ent.sx;exact Iff.rfl
theorem kv {w:World}{e:TypeId}{size n:Nat}{v:Value}{l:List Value}(h:w.ownsRow 0 e size v n l):ownsX w e size v n l:=by
 refine ⟨h.1,?_⟩;rcases h.2 with h|⟨g,cap,cur,h1,_,h2,h3,h4,h5,h6⟩
 ·exact .inl h
 ·exact .inr ⟨g,cap,cur,h1,h2,h3,h4,Nat.le_of_eq h5.symm,h6⟩
theorem zgV {w:World}{v:Value}{e:TypeId}{size k:Nat}{l:List Value}(h:(Ent.sx v e size k l).ok w):OneC v:=by
 rcases (eJ.1 h).2 with ⟨rfl,_⟩|⟨g,cap,cur,rfl,_⟩ <;> exact inferInstance
theorem zf8 {w:World}{v:Value}{e:TypeId}{size k:Nat}{l:List Value}(h:(Ent.sx v e size k l).ok w):k≤9223372036854775807:=by
 rcases (eJ.1 h).2 with ⟨rfl,h0⟩|⟨g,cap,cur,rfl,hg,hnc,hcm,_⟩
 ·omega
 ·unfold maxLen at hcm;omega
theorem ownsX.cellAt {w:World}{e:TypeId}{size n cap g:Nat}{l:List Value}(h:ownsX w e size (.slice (some ⟨g,0,none⟩) n cap) n l)(j:Nat)(hj:j<n*size):w.cell? ⟨g,j,none⟩=l[j]?:=by
 rcases h.2 with ⟨h0,_⟩|⟨g',cap',cur,h0,hg,h1,h2,h3,h4⟩
 ·cases h0
 ·cases h0
  rw [←h4,List.getElem?_take_of_lt hj,Array.getElem?_toList];simp [World.cell?,hg]
section
variable {Fe:Fence}[hFe:Calm Fe]{P:Program}{n:Nat}{B D w:World}{M S0:Nat→Prop}{Q:Exit→Act→World→Prop}{fs:dV}{hs:HS}{ops:Array Oper}{o:Oper}{F:FzB B M S0}{sv:Value}
theorem Hp.toX {j size k:Nat}{v:Value}{e:TypeId}{l:List Value}(hw:Hp B M hs w)(hj:hs[j]?=some (.sl v e size k l)):Hp B M (hs.set j (.sx v e size k l)) w:=
 hw.updAt (S:=fun _=>False) hj (Only.refl _ _) (fun _ _ h=>h.elim) (eJ.2 (kv (cS.1 (hw.get hj)))) fun q hq=> .inl (cY.2 (eN.1 hq))
theorem TL.toX {r:List Oper}{size k:Nat}{v:Value}{e:TypeId}{l:List Value}(j:Nat)(hj:hs[j]?=some (.sl v e size k l))(h:TL Fe P n B D M ops Q r fs (hs.set j (.sx v e size k l))):TL Fe P n B D M ops Q r fs hs:=
 kE (ι:=Unit) (φ:=fun _=>True) (hs':=fun _=>hs.set j (.sx v e size k l)) (fun w hw=>⟨(),trivial,hw.toX hj⟩) (fun _ _=>h)
theorem TS.toX {hs0:HS}{r:Ord}{size k:Nat}{v:Value}{e:TypeId}{l:List Value}(j:Nat)(hj:hs[j]?=some (.sl v e size k l))(h:TS Fe P n B D M ops Q hs0 r fs (hs.set j (.sx v e size k l))):TS Fe P n B D M ops Q hs0 r fs hs:=
 i5 (ι:=Unit) (φ:=fun _=>True) (hs':=fun _=>hs.set j (.sx v e size k l)) (fun w hw=>⟨(),trivial,hw.toX hj⟩) (fun _ _=>h)
theorem mr {l:List Oper}{v:Value}{e:TypeId}{size k:Nat}{cs:List Value}(j:Nat)(hj:hs[j]?=some (.sx v e size k cs))(h:OneC v→k≤9223372036854775807→TL Fe P n B D M ops Q l fs hs):TL Fe P n B D M ops Q l fs hs:=
 kE (ι:=Unit) (φ:=fun _=>OneC v∧k≤9223372036854775807) (hs':=fun _=>hs) (fun w hw=>⟨(),⟨zgV (hw.get hj),zf8 (hw.get hj)⟩,hw⟩) (fun _ hx=>h hx.1 hx.2)
theorem TS.bH {hs0:HS}{r:Ord}{v:Value}{e:TypeId}{size k:Nat}{cs:List Value}(j:Nat)(hj:hs[j]?=some (.sx v e size k cs))(h:OneC v→k≤9223372036854775807→TS Fe P n B D M ops Q hs0 r fs hs):TS Fe P n B D M ops Q hs0 r fs hs:=
 i5 (ι:=Unit) (φ:=fun _=>OneC v∧k≤9223372036854775807) (hs':=fun _=>hs) (fun w hw=>⟨(),⟨zgV (hw.get hj),zf8 (hw.get hj)⟩,hw⟩) (fun _ hx=>h hx.1 hx.2)
theorem T.bH {c:Code}{v:Value}{e:TypeId}{size k:Nat}{cs:List Value}(j:Nat)(hj:hs[j]?=some (.sx v e size k cs))(h:OneC v→k≤9223372036854775807→T Fe P n B D M c Q fs hs):T Fe P n B D M c Q fs hs:=
 li (ι:=Unit) (φ:=fun _=>OneC v∧k≤9223372036854775807) (hs':=fun _=>hs) (fun w hw=>⟨(),⟨zgV (hw.get hj),zf8 (hw.get hj)⟩,hw⟩) (fun _ hx=>h hx.1 hx.2)
theorem Hp.borX {i j:Nat}{v:Value}{e:TypeId}{size k:Nat}{l:List Value}(hw:Hp B M hs w)(hi:hs[i]?=some (.fr F))(hj:hs[j]?=some (.sx v e size k l)):∃F':Frz,Bor F.toFrz (.sx v e size k l) w F'∧SlK F' v size k l:=by
 have hF:=hw.fr hi;have ho:=eJ.1 (hw.get hj);rcases ho.2 with ⟨rfl,h0⟩|⟨g,cap,cur,rfl,hg,hnc,hcm,hcs,htake⟩
 ·subst h0;exact q4C
 ·refine ⟨⟨fun k=>F.S k∨k=g,w,fun k hk=>?_⟩,⟨fun k hk=>⟨.inl hk,hF k hk⟩,fun k _=>rfl,fun k hk=>hk.imp id fun e=>eN.2 (by rw [e];rfl)⟩,ho.1,_,cap,rfl,hnc,by unfold maxLen at hcm;omega,fun _=>⟨g,rfl, .inr rfl,fun q hq=>?_⟩⟩
  ·rcases hk with h|rfl
   ·exact hF.cb h
   ·exact ⟨_,_,_,hg⟩
  ·rw [Nat.zero_add,ownsX.cellAt ho q (by rw [←ho.1];exact hq)]
theorem zmF {α:Type}{xs:List α}{m:Nat}(h:m≤xs.length):m=(xs.take m).length:=by rw [List.length_take,Nat.min_eq_left h]
theorem zgP {α:Type}{enc:α→List Value}{size:Nat}(he:∀x,(enc x).length=size):∀ {xs:List α} {m:Nat},(xs.flatMap enc).take (m*size)=(xs.take m).flatMap enc
 | [],m=>by simp
 |x :: xs,0=>by simp
 |x :: xs,m+1=>by
  rw [List.take_succ_cons,List.flatMap_cons,List.flatMap_cons,←zgP he,List.take_append,he,List.take_of_length_le (by rw [he,Nat.add_mul];omega),show (m+1) *size - size=m*size by rw [Nat.add_mul];omega]
theorem FxM.weak {F G:Frz}{w w':World}{M:Nat→Prop}{es:HS}(h:FxM F w M G es w'):FxM F w M F es w':=
 ⟨.refl _,h.at_.le h.le,h.hp,fun g hg=> .inl hg,fun e he g hg hS=>h.ap e he g hg (h.le g hS).1⟩
def kr:Value→Nat→Value
 | .slice none _ _,_=> .slice none 0 0
 | .slice (some A) _ _,m=> .slice (some A) m m
 |v,_=>v
instance {v:Value} {m:Nat} [h:OneC v]:OneC (kr v m):=by
 unfold kr
 split <;> first|exact inferInstance|exact h
theorem Ew.bh (j : Nat) {t e e2 k k2 m d : Nat} {z : Int} {l : List Value} {x y y2 : Operand} {hs' : HS} [hT : TySl P t e k] (ho : o.op = .slice t x none (some y) (some y2)) (hx : ev fs x = some sv) (hy : ev fs y = some (.int .i64 z)) (hy2 : ev fs y2 = some (.int .i64 z)) (hj : hs[j]? = some (.sx sv e2 k2 d l)) (hz : z = (m : Int)) (hm : m ≤ d) {q : Nat} {l' : List Value} (hq : m = q) (hl' : l.take (m * k2) = l') [hH : SetAt hs j (.sx (kr sv m) e2 k2 q l') hs'] :
    Ew P n B M fs hs o (fun v hs'' => v = kr sv m ∧ hs'' = hs') := gh fun a w ha hp => by
  subst hz hq hl'; have hd := zf8 (hp.get hj); have ho' := eJ.1 (hp.get hj)
  obtain ⟨A, c, rfl, hc, hA⟩ : ∃ A c, sv = .slice A d c ∧ d ≤ c ∧ (A = none → d = 0) := by
    rcases ho'.2 with ⟨rfl, h0⟩ | ⟨g, cap, cur, rfl, hg, hnc, _⟩
    · exact ⟨none, 0, by rw [h0], by omega, fun _ => h0⟩
    · exact ⟨_, _, rfl, hnc, fun h => by cases h⟩
  have hs : (Instr.slice t (.slice A d c) none (some (.int .i64 (m : Int))) (some (.int .i64 (m : Int)))).run P w = ((sizeOf (P.elem t)).run P w).andThen fun s w => .ok (sliced A 0 m m s) w := by
    have e1 := run_sliceBound (P := P) (w := w) .i64 (m : Int); (have hmc : m ≤ c := by omega); simp [Instr.slice, run_underlying hT.elem.1, Instr.sliceBounds, e1, sliced, hmc]
  have e2' : sliced A 0 m m k = kr (.slice A d c) m := by
    unfold sliced
    cases A with
    | none => have := hA rfl; obtain rfl : m = 0 := by omega
              rfl
    | some a =>
      by_cases h0 : m = 0
      · subst h0; rfl
      · rw [if_neg h0]; cases a; simp [l4, kr]; rfl
  refine ⟨kr (.slice A d c) m, w, hs', ?_, .refl _, ?_, rfl, rfl⟩
  · unfold execOp; simp [ho, ha.ev hx, ha.ev hy, ha.ev hy2, run_sliceAt_slice w t _ _ _ _ hT.elem.1, hs, hT.elem.2, e2']
  · rw [← hH.h]; refine hp.updAt (S := fun _ => False) hj (Only.refl _ _) (fun _ _ h => h.elim) (eJ.2 ?_) fun q hq => .inl (eN.2 ?_)
    · rcases ho'.2 with ⟨h0, h1⟩ | ⟨g, cap, cur, h0, hg, hnc, hcm, hcs, htake⟩
      · cases h0
        (obtain rfl : m = 0 := by omega); exact ⟨by simp, .inl ⟨rfl, rfl⟩⟩
      · cases h0
        have hml : m * k2 ≤ d * k2 := Nat.mul_le_mul_right _ hm; refine ⟨by rw [List.length_take, ho'.1]; omega, .inr ⟨g, m, cur, rfl, hg, Nat.le_refl _, by unfold maxLen at hcm ⊢; omega, Nat.le_trans (Nat.mul_le_mul_right _ a6) hcs, ?_⟩⟩; rw [← htake, List.take_take, Nat.min_eq_left hml]
    · have := eN.1 hq
      cases A with
      | none => cases this
      | some a => exact this
theorem Ew.bI (i j : Nat) {s x : Operand} {t e u : TypeId} {size bytes m c k k' g : Nat} {z l news l' : List Value} {hs' : Value → HS} [hT : TyE P t e size bytes z] [h1 : OneCs news] (ho : o.op = .call { callee := .builtin .append, args := #[s, x], argTypes := #[t, t] })
    (hs1 : ev fs s = some sv) (hx : ev fs x = some (.slice (some ⟨g, 0, none⟩) m c)) (hi : hs[i]? = some (.sx sv e size k l)) (hj : hs[j]? = some (.row g u news)) (hl : news.length = m * size) (hk : k + m = k') (hl' : l ++ news = l') (hb : k' * bytes ≤ 140737488355328) (hbs : 0 < bytes)
    [hH : ∀ v', SetAt hs i (.sx v' e size k' l') (hs' v')] : Ew P n B M fs hs o (fun v hs'' => OneC v ∧ hs'' = hs' v) := gh fun a w ha hp => by
  obtain ⟨inf, zv, hU, hinf, hz, hzc, rfl, rfl, hzs, hpos⟩ := hT.get; subst hk hl'; have hkm : k + m ≤ 140737488355328 := Nat.le_trans (Nat.le_mul_of_pos_right _ hbs) hb; have hcs := eL (m := news) (p := 0) (cV.1 (hp.get hj)) b2
  have hnews : ∀ q u, news[q]? = some u → w.cell? ((⟨g, 0, none⟩ : Addr).add q) = some u := by
    intro q u hq; rw [l4]; exact (hcs q (List.getElem?_eq_some_iff.1 hq).1).trans hq
  have ho' := eJ.1 (hp.get hi); (have h63 : k + m ≤ maxLen := by unfold maxLen; omega)
  obtain ⟨v', w', hr, hown, honly, hat⟩ : ∃ v' w', (Builtin.append_ #[t, t] o.type #[sv, .slice (some ⟨g, 0, none⟩) m c]).run P w = .ok v' w' ∧ ownsX w' e inf.size v' (k + m) (l ++ news) ∧ Only (fun q => sv.ownBlock = some q) w w' ∧ (∀ q, v'.ownBlock = some q → sv.ownBlock = some q ∨ w.heap.size ≤ q) := by
    rcases ho'.2 with ⟨rfl, h0⟩ | ⟨g', cap, cur, rfl, hg, hnc, hcm, hcs2, htake⟩
    · have hnil : l = [] := List.eq_nil_of_length_eq_zero (by rw [ho'.1, h0, Nat.zero_mul]); subst hnil; subst h0; obtain ⟨v', w', hr, hown, hgr, _, hat⟩ := run_append_own_at (P := P) w 0 t o.type e inf zv inf.size inf.bytes hU hinf hz rfl rfl hzs hpos (.slice none 0 0) 0 [] (World.ownsRow_nil w 0 e inf.size) ⟨g, 0, none⟩ m c news hl hnews h1.h h63 hb (Nat.zero_le _)
      exact ⟨v', w', hr, kv hown, zcg hgr, fun q hq => by
        rcases hat with h | h
        · exact .inl (by rw [← h]; exact hq)
        · rw [h] at hq; simp at hq; exact .inr a6⟩
    · by_cases hroom : k + m ≤ cap
      · (have hfit : k * inf.size + news.length ≤ cur.size := by rw [hl, ← Nat.add_mul]; exact Nat.le_trans (Nat.mul_le_mul_right _ hroom) hcs2); have hr := run_append_room (P := P) w t o.type e inf hU hinf g' k cap cur hg ⟨g, 0, none⟩ m c news hl hnews h1.h hroom hfit; (have hlen : (l ++ news).length = (k + m) * inf.size := by rw [List.length_append, ho'.1, hl, Nat.add_mul]); refine ⟨_, _, hr, ⟨hlen, .inr ⟨g', cap, _, rfl, setRow_heap w g' cur _ e _ hg, hroom, hcm, ?_, ?_⟩⟩, ⟨rfl, rfl, rfl, by simp, fun q _ hq => setRow_other w g' q _ (fun e => hq (by simp [Value.ownBlock, e]))⟩, fun q hq => .inl hq⟩
        · simp only [List.size_toArray, List.length_append, List.length_take, List.length_drop, Array.length_toList]; omega
        · rw [htake, ← hlen]; exact List.take_left
      · obtain ⟨v', w', hr, hown, hgr⟩ := run_append_arg_grows (P := P) w t o.type e inf zv inf.size inf.bytes hU hinf hz rfl rfl hzs hpos ⟨g', 0, none⟩ k cap l ho'.1 (fun q u hq => by
          have hlt := (List.getElem?_eq_some_iff.1 hq).1; rw [l4, Nat.zero_add]
          exact (ownsX.cellAt ho' q (by rw [← ho'.1]; exact hlt)).trans hq) ⟨g, 0, none⟩ m c news hl hnews a6 h63 hb
        refine ⟨v', w', hr, ?_, ?_, ?_⟩
        · refine ⟨hown.1, ?_⟩; rcases hown.2 with h | ⟨g2, cap2, cur2, h2, _, h3, h4, h5, h6, h7⟩
          · exact .inl h
          · exact .inr ⟨g2, cap2, cur2, h2, h3, h4, h5, Nat.le_of_eq h6.symm, h7⟩
        · have := zcg hgr; exact ⟨this.os, this.tape, this.output, this.size, fun q hq hn => this.block q hq (fun e => by cases e)⟩
        · intro q hq; rcases hown.2 with ⟨h, h0⟩ | ⟨g2, cap2, cur2, h2, hb2, h3, _⟩
          · rw [h] at hq; cases hq
          · rw [h2] at hq; cases hq; exact .inr hb2
  refine ⟨v', w', hs' v', ?_, ?_, ?_, ?_, rfl⟩
  · unfold execOp; simp [ho, resolve, invoke, builtin, ha.ev hs1, ha.ev hx, hr]
  · exact Kp.only honly (fun g hg c => (Ent.sx sv e inf.size k l).nd (hp.get hi) g (eN.2 hg) c)
  · rw [← (hH v').h]; refine hp.updAt hi honly (fun q _ hq => eN.2 hq) (eJ.2 hown) (fun q hq => ?_); exact (hat q (eN.1 hq)).imp eN.2 id
  · rcases hown.2 with ⟨rfl, _⟩ | ⟨_, _, _, rfl, _⟩ <;> exact ⟨rfl⟩
end
end Go.Proofs.YtgoeeefoinkepaaGreatDoor
