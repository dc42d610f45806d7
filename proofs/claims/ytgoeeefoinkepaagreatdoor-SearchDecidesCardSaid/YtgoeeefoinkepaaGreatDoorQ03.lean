/- Ya Yd Cb Cc: shortened and put together by squeeze.py. -/
import Derived.Test.YtgoeeefoinkepaaGreatDoorQ02
set_option maxRecDepth 100000
set_option maxHeartbeats 4000000
set_option linter.unusedVariables false
set_option linter.unusedSectionVars false
set_option linter.unusedSimpArgs false
namespace Go.Proofs.YtgoeeefoinkepaaGreatDoor
open Go.RowKit
structure GChoice where
 Station:Int
 Channel:Int
deriving DecidableEq,Inhabited
abbrev cG (x:GChoice):List Value:=[.int .i64 x.Station, .int .i64 x.Channel]
theorem GChoice.len (x:GChoice):(cG x).length=2:=rfl
structure GDomain where
 Station:Int
 Channels:List Int
deriving DecidableEq,Inhabited
def cJ (F:Frz)(c:List Value)(x:GDomain):Prop:=∃(v1:Value),c=[.int .i64 x.Station,v1]∧SlC F v1 1 (x.Channels.map eI)
theorem GDomain.mono {F G:Frz}{c:List Value}{x:GDomain}(hle:F.Le G)(h:cJ F c x):cJ G c x:=by
 obtain ⟨v1,h0,h2⟩:=h;exact ⟨v1,h0,h2.mono hle⟩
theorem GDomain.len {F:Frz}{c:List Value}{x:GDomain}(h:cJ F c x):c.length=2:=by
 obtain ⟨v1,h0,h2⟩:=h;subst h0;rfl
theorem GDomain.one {F:Frz}{c:List Value}{x:GDomain}(h:cJ F c x):OneCs c:=by
 obtain ⟨v1,h0,h2⟩:=h;subst h0;haveI:=h2.oneC
 infer_instance
theorem GDomain.c0 {F:Frz}{c:List Value}{x:GDomain}(h:cJ F c x):c[0]?=some (.int .i64 x.Station):=by
 obtain ⟨v1,h0,h2⟩:=h;subst h0;rfl
theorem GDomain.c1 {F:Frz}{c:List Value}{x:GDomain}(h:cJ F c x):c[1]?=some (cH c 1)∧SlC F (cH c 1) 1 (x.Channels.map eI):=by
 obtain ⟨v1,h0,h2⟩:=h;subst h0;exact ⟨rfl,h2⟩
theorem ey {F:Frz}{c:List Value}{x:GDomain}(h:cJ F c x):(c.drop 0).take 2=[.int .i64 x.Station,cH c 1]:=by
 obtain ⟨v1,h0,h2⟩:=h;subst h0;rfl
structure GPair where
 A:Int
 B:Int
 Offset:Int
 Low:Int
 High:Int
deriving DecidableEq,Inhabited
abbrev da (x:GPair):List Value:=[.int .i64 x.A, .int .i64 x.B, .int .i64 x.Offset, .int .i64 x.Low, .int .i64 x.High]
theorem GPair.len (x:GPair):(da x).length=5:=rfl
structure GLoad where
 To:Int
 From:Int
 Weight:Int
 Low:Int
 High:Int
deriving DecidableEq,Inhabited
abbrev de (x:GLoad):List Value:=[.int .i64 x.To, .int .i64 x.From, .int .i64 x.Weight, .int .i64 x.Low, .int .i64 x.High]
theorem GLoad.len (x:GLoad):(de x).length=5:=rfl
structure GCap where
 Station:Int
 Max:Int
 Low:Int
 High:Int
deriving DecidableEq,Inhabited
abbrev dk (x:GCap):List Value:=[.int .i64 x.Station, .int .i64 x.Max, .int .i64 x.Low, .int .i64 x.High]
theorem GCap.len (x:GCap):(dk x).length=4:=rfl
structure GRules where
 Pairs:List GPair
 Loads:List GLoad
 Caps:List GCap
deriving DecidableEq,Inhabited
def ee (F:Frz)(c:List Value)(x:GRules):Prop:=∃(v0:Value) (v1:Value) (v2:Value),c=[v0,v1,v2]∧SlC F v0 5 (x.Pairs.map da)∧SlC F v1 5 (x.Loads.map de)∧SlC F v2 4 (x.Caps.map dk)
theorem GRules.mono {F G:Frz}{c:List Value}{x:GRules}(hle:F.Le G)(h:ee F c x):ee G c x:=by
 obtain ⟨v0,v1,v2,h0,h1,h2,h3⟩:=h;exact ⟨v0,v1,v2,h0,h1.mono hle,h2.mono hle,h3.mono hle⟩
theorem GRules.len {F:Frz}{c:List Value}{x:GRules}(h:ee F c x):c.length=3:=by
 obtain ⟨v0,v1,v2,h0,h1,h2,h3⟩:=h;subst h0;rfl
theorem GRules.one {F:Frz}{c:List Value}{x:GRules}(h:ee F c x):OneCs c:=by
 obtain ⟨v0,v1,v2,h0,h1,h2,h3⟩:=h;subst h0;haveI:=h1.oneC;haveI:=h2.oneC;haveI:=h3.oneC
 infer_instance
theorem GRules.c0 {F:Frz}{c:List Value}{x:GRules}(h:ee F c x):c[0]?=some (cH c 0)∧SlC F (cH c 0) 5 (x.Pairs.map da):=by
 obtain ⟨v0,v1,v2,h0,h1,h2,h3⟩:=h;subst h0;exact ⟨rfl,h1⟩
theorem GRules.c1 {F:Frz}{c:List Value}{x:GRules}(h:ee F c x):c[1]?=some (cH c 1)∧SlC F (cH c 1) 5 (x.Loads.map de):=by
 obtain ⟨v0,v1,v2,h0,h1,h2,h3⟩:=h;subst h0;exact ⟨rfl,h2⟩
theorem GRules.c2 {F:Frz}{c:List Value}{x:GRules}(h:ee F c x):c[2]?=some (cH c 2)∧SlC F (cH c 2) 4 (x.Caps.map dk):=by
 obtain ⟨v0,v1,v2,h0,h1,h2,h3⟩:=h;subst h0;exact ⟨rfl,h3⟩
theorem GRules.form {F:Frz}{c:List Value}{x:GRules}(h:ee F c x):(c.drop 0).take 3=[cH c 0,cH c 1,cH c 2]:=by
 obtain ⟨v0,v1,v2,h0,h1,h2,h3⟩:=h;subst h0;rfl
structure GProblem where
 Domains:List GDomain
 Rules:GRules
deriving DecidableEq,Inhabited
def dP (F:Frz)(c:List Value)(x:GProblem):Prop:=∃(v0:Value) (cs0:List (List Value)) (v1:Value) (v2:Value) (v3:Value),c=[v0,v1,v2,v3]∧SlD cJ F v0 2 cs0 x.Domains∧SlC F v1 5 (x.Rules.Pairs.map da)∧SlC F v2 5 (x.Rules.Loads.map de)∧SlC F v3 4 (x.Rules.Caps.map dk)
theorem GProblem.mono {F G:Frz}{c:List Value}{x:GProblem}(hle:F.Le G)(h:dP F c x):dP G c x:=by
 obtain ⟨v0,cs0,v1,v2,v3,h0,h1,h2,h3,h4⟩:=h;exact ⟨v0,cs0,v1,v2,v3,h0,SlD.mono (rep:=cJ) (fun _ _ _ _=>GDomain.mono) h1 hle,h2.mono hle,h3.mono hle,h4.mono hle⟩
theorem GProblem.len {F:Frz}{c:List Value}{x:GProblem}(h:dP F c x):c.length=4:=by
 obtain ⟨v0,cs0,v1,v2,v3,h0,h1,h2,h3,h4⟩:=h;subst h0;rfl
theorem GProblem.one {F:Frz}{c:List Value}{x:GProblem}(h:dP F c x):OneCs c:=by
 obtain ⟨v0,cs0,v1,v2,v3,h0,h1,h2,h3,h4⟩:=h;subst h0;haveI:=h1.1.oneC;haveI:=h2.oneC;haveI:=h3.oneC;haveI:=h4.oneC
 infer_instance
theorem GProblem.c0 {F:Frz}{c:List Value}{x:GProblem}(h:dP F c x):c[0]?=some (cH c 0)∧∃cs,SlD cJ F (cH c 0) 2 cs x.Domains:=by
 obtain ⟨v0,cs0,v1,v2,v3,h0,h1,h2,h3,h4⟩:=h;subst h0;exact ⟨rfl,cs0,h1⟩
theorem GProblem.c1 {F:Frz}{c:List Value}{x:GProblem}(h:dP F c x):c[1]?=some (cH c 1)∧SlC F (cH c 1) 5 (x.Rules.Pairs.map da):=by
 obtain ⟨v0,cs0,v1,v2,v3,h0,h1,h2,h3,h4⟩:=h;subst h0;exact ⟨rfl,h2⟩
theorem GProblem.c2 {F:Frz}{c:List Value}{x:GProblem}(h:dP F c x):c[2]?=some (cH c 2)∧SlC F (cH c 2) 5 (x.Rules.Loads.map de):=by
 obtain ⟨v0,cs0,v1,v2,v3,h0,h1,h2,h3,h4⟩:=h;subst h0;exact ⟨rfl,h3⟩
theorem GProblem.c3 {F:Frz}{c:List Value}{x:GProblem}(h:dP F c x):c[3]?=some (cH c 3)∧SlC F (cH c 3) 4 (x.Rules.Caps.map dk):=by
 obtain ⟨v0,cs0,v1,v2,v3,h0,h1,h2,h3,h4⟩:=h;subst h0;exact ⟨rfl,h4⟩
theorem GProblem.form {F:Frz}{c:List Value}{x:GProblem}(h:dP F c x):(c.drop 0).take 4=[cH c 0,cH c 1,cH c 2,cH c 3]:=by
 obtain ⟨v0,cs0,v1,v2,v3,h0,h1,h2,h3,h4⟩:=h;subst h0;rfl
def ki (n:Int):Bool:=
 ((decide (0≤n))&&(decide (n≤511)))
theorem zbq (F0:Frz)(w:World)(hF0:F0.At w)(n:Int):Calls Tryz.prog 31 #[.int .i64 n] w fun e w'=>e= .returned (.bool (ki n))∧Below w.heap.size w w':=by
 obtain ⟨r,hk⟩:∃r,ki n=r:=⟨_,rfl⟩;rw [hk];unfold ki at hk;obtain ⟨S0,F1,rfl,hS0,hp0⟩:=fX hF0;refine dB Tryz.func31 rfl rfl rfl hp0 ?_;refine fk ?_;refine dg (ι:=Unit) (fun z=>[(2, .bool ((decide (0≤n))&&(decide (n≤511))))]) (fun z=>[.fr F1]) (fun z=>True) ?_ ?_
 ·refine q3L ?_;refine du rfl rfl rfl (fun h1=>?_) (fun h1=>?_)
  ·have p1:=of_decide_eq_true h1;refine mv ?_;exact q4j
  ·have p1:=of_decide_eq_false h1;refine mv ?_;exact q37
 ·rintro _ _;refine T.ret ?_;subst hk;exact eX
def mR (l:List GChoice):Bool:=
 dO (fun (_:Unit)=>
  true)
 (fun k1=>
  dh (fun (i_3:Nat) (next2:Unit→Bool) (_:Unit)=>
   (bif ((((!(ki ((cH l i_3).Station)))||(decide ((cH l i_3).Channel<2)))||(decide (51<(cH l i_3).Channel)))||((decide (0<(i_3:Int)))&&(decide ((cH l i_3).Station≤(cH l (((i_3:Int) - 1).toNat)).Station)))) then
    false
    else
    next2 ()))
  (fun (_:Unit)=>
   k1 ()) (l.length - 0) 0 ())
theorem zdo (F0:Frz)(w:World)(hF0:F0.At w)(l:List GChoice)(vl:Value)(hl:SlC F0 vl 2 (l.map cG)):Calls Tryz.prog 12 #[vl] w fun e w'=>e= .returned (.bool (mR l))∧Below w.heap.size w w':=by
 obtain ⟨r,hk⟩:∃r,mR l=r:=⟨_,rfl⟩;rw [hk];unfold mR at hk;haveI:=hl.oneC;obtain ⟨S0,F1,rfl,hS0,hp0⟩:=fX hF0;refine dB Tryz.func12 rfl rfl rfl hp0 ?_;refine ic ?_;refine ij ?_;refine dR ?_;have hq:=fq hk;clear hk;obtain ⟨k1,hk1,hk⟩:=hq; (try dsimp only at hk);refine dg (ι:=Unit) (fun z=>[]) (fun z=>[.fr F1]) (fun z=>k1 ()=r) ?_ ?_
 ·have hq:=gF hk;clear hk;obtain ⟨f2,kk2,hf2,hkk2,hk⟩:=hq;refine fV ?_;refine T.loop (ι:=Nat) (fun z=>[(0,vl),(3, .int .i64 (z:Int))]) (fun z=>[.fr F1]) (fun z=>dh f2 kk2 (l.length - z) z ()=r) (fun z=>l.length - z) 0 ?_ ?_ ?_ ?_
  ·exact hk
  ·exact q30
  ·exact fQ
  ·rintro i_3 hk;refine iX ?_;refine ec ?_;refine q2c ?_;have hm6:l.length≤9223372036854775807:=(List.length_map _)▸hl.max;refine dR ?_;refine T.cond rfl (fun h4=>?_) (fun h4=>?_)
   ·have p4:=of_decide_eq_true h4;rw [gH a6] at hk;generalize hn2:dh f2 kk2 (l.length - (i_3+1)) (i_3+1)=next2 at hk;rw [←hf2] at hk; (try dsimp only at hk);refine lA ?_;refine dg (ι:=Unit) (fun z=>[(0,vl),(3, .int .i64 (i_3:Int)),(50, .bool ((((!(ki ((cH l i_3).Station)))||(decide ((cH l i_3).Channel<2)))||(decide (51<(cH l i_3).Channel)))||((decide (0<(i_3:Int)))&&(decide ((cH l i_3).Station≤(cH l (((i_3:Int) - 1).toNat)).Station)))))]) (fun z=>[.fr F1]) (fun z=>True) ?_ ?_
    ·refine dF (sN 0 5 (.eff 5 (sN 6 34 (.still 40 .done)))) _ a8 (List.Sublist.refl _) ?_;refine q1o ?_;refine cN rfl (ek 0 (i:=i_3) (j:=0) rfl rfl rfl hl a6) ?_;refine dx ?_;refine cQ rfl (Wt.none) rfl rfl (cL rfl rfl rfl (fun w hw=>zbq _ w (hw.fr (i:=0) rfl) ((cH l i_3).Station))) ?_;refine q3M ?_;refine dz rfl rfl rfl rfl (fun h5=>?_) (fun h5=>?_)
     ·refine TS.run 33 rfl ?_;refine fv ?_;exact cP () trivial (.c (.c (.b (iz (iz (iz h5))).symm .nil))) (List.Sublist.refl _)
     ·refine q1o ?_;refine cN rfl (ek 0 (i:=i_3) (j:=1) rfl rfl rfl hl a6) ?_;refine fU ?_;refine dz rfl rfl rfl rfl (fun h6=>?_) (fun h6=>?_)
      ·have p6:=of_decide_eq_true h6;refine TS.run 25 rfl ?_;refine fv ?_;exact cP () trivial (.c (.c (.b (iz (iz (i2 h5 h6))).symm .nil))) (List.Sublist.refl _)
      ·have p6:=of_decide_eq_false h6;refine q1o ?_;refine cN rfl (ek 0 (i:=i_3) (j:=1) rfl rfl rfl hl a6) ?_;refine fU ?_;refine dz rfl rfl rfl rfl (fun h7=>?_) (fun h7=>?_)
       ·have p7:=of_decide_eq_true h7;refine TS.run 17 rfl ?_;refine fv ?_;exact cP () trivial (.c (.c (.b (iz (i2 (i2 h5 h6) h7)).symm .nil))) (List.Sublist.refl _)
       ·have p7:=of_decide_eq_false h7;refine fU ?_;refine dz rfl rfl rfl rfl (fun h8=>?_) (fun h8=>?_)
        ·have p8:=of_decide_eq_true h8;refine q2P ?_;refine cN rfl (ek 0 (i:=((i_3:Int) - 1).toNat) (j:=0) rfl rfl rfl hl a6) ?_;refine q1o ?_;refine cN rfl (ek 0 (i:=i_3) (j:=0) rfl rfl rfl hl a6) ?_;refine fU ?_;refine fv ?_;exact cP () trivial (.c (.c (.b (Eq.trans (kJ h8) (iA (i2 (i2 h5 h6) h7))) .nil))) (List.Sublist.refl _)
        ·have p8:=of_decide_eq_false h8;refine TS.run 14 rfl ?_;refine fv ?_;exact cP () trivial (.c (.c (.b (i2 (i2 (i2 h5 h6) h7) (fA h8)).symm .nil))) (List.Sublist.refl _)
    ·rintro _ _;refine T.cond rfl (fun h9=>?_) (fun h9=>?_)
     ·replace hk:=dH hk h9;refine jc ?_;subst hk;exact eX
     ·have p9:=h9; (try simp only [cT] at p9);replace hk:=dL hk h9;refine iS ?_;rw [←hn2] at hk;exact K.next (i_3+1) hk a6 (.c (.c .nil)) (List.Sublist.refl _)
   ·have p4:=of_decide_eq_false h4;rw [gK a6,←hkk2] at hk; (try dsimp only at hk);refine fu ?_;exact mg
 ·rintro _ hk;rw [←hk1] at hk; (try dsimp only at hk);refine ld ?_;subst hk;exact eX
def zbs (a:List GChoice)(b:List GChoice):Bool:=
 (bif decide (¬(a.length:Int)=(b.length:Int)) then
  false
  else
  dO (fun (_:Unit)=>
   true)
  (fun k2=>
   dh (fun (i_4:Nat) (next3:Unit→Bool) (_:Unit)=>
    (bif !(decide ((cH a i_4).Station=(cH b i_4).Station)&&decide ((cH a i_4).Channel=(cH b i_4).Channel)) then
     false
     else
     next3 ()))
   (fun (_:Unit)=>
    k2 ()) (a.length - 0) 0 ()))
theorem zdO (F0:Frz)(w:World)(hF0:F0.At w)(a:List GChoice)(va:Value)(ha:SlC F0 va 2 (a.map cG))(b:List GChoice)(vb:Value)(hb:SlC F0 vb 2 (b.map cG)):Calls Tryz.prog 16 #[va,vb] w fun e w'=>e= .returned (.bool (zbs a b))∧Below w.heap.size w w':=by
 obtain ⟨r,hk⟩:∃r,zbs a b=r:=⟨_,rfl⟩;rw [hk];unfold zbs at hk;haveI:=ha.oneC;haveI:=hb.oneC;obtain ⟨S0,F1,rfl,hS0,hp0⟩:=fX hF0;refine dB Tryz.func16 rfl rfl rfl hp0 ?_;refine jB ?_;refine cK (dn rfl rfl ha (List.length_map _)) ?_;have hm7:a.length≤9223372036854775807:=(List.length_map _)▸ha.max;refine dc ?_;refine cK (dn rfl rfl hb (List.length_map _)) ?_;have hm9:b.length≤9223372036854775807:=(List.length_map _)▸hb.max;refine dR ?_;refine T.cond rfl (fun h1=>?_) (fun h1=>?_)
 ·have p1:=of_decide_eq_true h1;replace hk:=dH hk h1;refine ja ?_;subst hk;exact eX
 ·have p1:=of_decide_eq_false h1;replace hk:=dL hk h1;refine kh ?_;refine dR ?_;have hq:=fq hk;clear hk;obtain ⟨k2,hk2,hk⟩:=hq; (try dsimp only at hk);refine dg (ι:=Unit) (fun z=>[]) (fun z=>[.fr F1]) (fun z=>k2 ()=r) ?_ ?_
  ·have hq:=gF hk;clear hk;obtain ⟨f3,kk3,hf3,hkk3,hk⟩:=hq;refine fV ?_;refine T.loop (ι:=Nat) (fun z=>[(0,va),(1,vb),(5, .int .i64 (z:Int))]) (fun z=>[.fr F1]) (fun z=>dh f3 kk3 (a.length - z) z ()=r) (fun z=>a.length - z) 0 ?_ ?_ ?_ ?_
   ·exact hk
   ·exact q32
   ·exact fQ
   ·rintro i_4 hk;refine iX ?_;refine ec ?_;refine cK (dn rfl rfl ha (List.length_map _)) ?_;refine dR ?_;refine T.cond rfl (fun h5=>?_) (fun h5=>?_)
    ·have p5:=of_decide_eq_true h5;rw [gH a6] at hk;generalize hn3:dh f3 kk3 (a.length - (i_4+1)) (i_4+1)=next3 at hk;rw [←hf3] at hk; (try dsimp only at hk);refine lA ?_;refine q16 ?_;refine gE ?_;refine cN rfl (dj (i:=i_4) rfl rfl rfl ha (List.length_map _) rfl a6) ?_;refine cN rfl (eD 0 (i:=i_4) rfl rfl rfl ha a6) ?_;refine gE ?_;refine cN rfl (dj (i:=i_4) rfl rfl rfl hb (List.length_map _) rfl a6) ?_;refine cN rfl (eD 0 (i:=i_4) rfl rfl rfl hb a6) ?_;refine cN rfl (Yv.cy a8 rfl rfl rfl) ?_;refine fv ?_;refine K.seq ?_;refine T.cond rfl (fun h6=>?_) (fun h6=>?_)
     ·replace hk:=dH hk h6;refine jc ?_;subst hk;exact eX
     ·have p6:=h6; (try simp only [cT] at p6);replace hk:=dL hk h6;refine iS ?_;rw [←hn3] at hk;exact K.next (i_4+1) hk a6 (.c (.c (.c .nil))) (List.Sublist.refl _)
    ·have p5:=of_decide_eq_false h5;rw [gK a6,←hkk3] at hk; (try dsimp only at hk);refine fu ?_;exact mg
  ·rintro _ hk;rw [←hk2] at hk; (try dsimp only at hk);refine ld ?_;subst hk;exact eX
def iT (p:GProblem)(n:Int):Int:=
 dO (fun (_:Unit)=>
  (-1))
 (fun k1=>
  dh (fun (i_3:Nat) (next2:Unit→Int) (_:Unit)=>
   (bif decide ((cH p.Domains i_3).Station=n) then
    (i_3:Int)
    else
    next2 ()))
  (fun (_:Unit)=>
   k1 ()) (p.Domains.length - 0) 0 ())
theorem zck (F0:Frz)(w:World)(hF0:F0.At w)(p:GProblem)(vp_0:Value)(cp_0:List (List Value))(hp_0:SlD cJ F0 vp_0 2 cp_0 p.Domains)(vp_1:Value)(hp_1:SlC F0 vp_1 5 (p.Rules.Pairs.map da))(vp_2:Value)(hp_2:SlC F0 vp_2 5 (p.Rules.Loads.map de))(vp_3:Value)(hp_3:SlC F0 vp_3 4 (p.Rules.Caps.map dk))(n:Int):Calls Tryz.prog 32 #[.agg [vp_0,vp_1,vp_2,vp_3].toArray, .int .i64 n] w fun e w'=>e= .returned (.int .i64 (iT p n))∧Below w.heap.size w w':=by
 obtain ⟨r,hk⟩:∃r,iT p n=r:=⟨_,rfl⟩;rw [hk];unfold iT at hk;haveI:=hp_0.1.oneC;haveI:=hp_1.oneC;haveI:=hp_2.oneC;haveI:=hp_3.oneC;obtain ⟨S0,F1,rfl,hS0,hp0⟩:=fX hF0;refine dB Tryz.func32 rfl rfl rfl hp0 ?_;refine jI ?_;rintro _ _ ⟨g2,rfl,rfl⟩;refine jD ?_;refine dR ?_;have hq:=fq hk;clear hk;obtain ⟨k1,hk1,hk⟩:=hq; (try dsimp only at hk);refine dg (ι:=Unit) (fun z=>[]) (fun z=>[.fr F1]) (fun z=>k1 ()=r) ?_ ?_
 ·have hq:=gF hk;clear hk;obtain ⟨f2,kk2,hf2,hkk2,hk⟩:=hq;refine fV ?_;refine T.loop (ι:=Nat) (fun z=>[(1, .int .i64 n),(2, .pointer (some ⟨g2,0,none⟩)),(5, .int .i64 (z:Int))]) (fun z=>[.row g2 31 [vp_0,vp_1,vp_2,vp_3], .fr F1]) (fun z=>dh f2 kk2 (p.Domains.length - z) z ()=r) (fun z=>p.Domains.length - z) 0 ?_ ?_ ?_ ?_
  ·exact hk
  ·exact q32
  ·exact fQ
  ·rintro i_3 hk;refine iX ?_;refine i7 ?_;refine q2l ?_;have hm9:p.Domains.length≤9223372036854775807:=hp_0.2.1▸hp_0.1.max;refine dR ?_;refine T.cond rfl (fun h4=>?_) (fun h4=>?_)
   ·have p4:=of_decide_eq_true h4;rw [gH a6] at hk;generalize hn2:dh f2 kk2 (p.Domains.length - (i_3+1)) (i_3+1)=next2 at hk;rw [←hf2] at hk; (try dsimp only at hk);refine q3y ?_;refine cK (dj (i:=i_3) rfl rfl rfl hp_0.1 hp_0.2.1 rfl a6) ?_;refine cK (fI rfl rfl hp_0.1 hp_0.2.1 a6) ?_;refine cK (d9 1 (i:=i_3) (j:=0) rfl rfl rfl hp_0.1 hp_0.2.1 a6 rfl (GDomain.c0 (hp_0.2.2 i_3 a6))) ?_;refine ji ?_;refine T.cond rfl (fun h5=>?_) (fun h5=>?_)
    ·have p5:=of_decide_eq_true h5;replace hk:=dH hk h5;refine i4 ?_;refine mN ?_;subst hk;exact eX
    ·have p5:=of_decide_eq_false h5;replace hk:=dL hk h5;refine iS ?_;rw [←hn2] at hk;exact q4k
   ·have p4:=of_decide_eq_false h4;rw [gK a6,←hkk2] at hk; (try dsimp only at hk);refine fu ?_;refine mY ?_;exact mg
 ·rintro _ hk;rw [←hk1] at hk; (try dsimp only at hk);refine ld ?_;subst hk;exact eX
def gw (l:List GChoice)(n:Int):Int:=
 dO (fun (_:Unit)=>
  0)
 (fun k1=>
  dh (fun (i_3:Nat) (next2:Unit→Int) (_:Unit)=>
   (bif decide ((cH l i_3).Station=n) then
    ((cH l i_3).Channel)
    else
    next2 ()))
  (fun (_:Unit)=>
   k1 ()) (l.length - 0) 0 ())
theorem zdm (F0:Frz)(w:World)(hF0:F0.At w)(l:List GChoice)(vl:Value)(hl:SlC F0 vl 2 (l.map cG))(n:Int):Calls Tryz.prog 33 #[vl, .int .i64 n] w fun e w'=>e= .returned (.int .i64 (gw l n))∧Below w.heap.size w w':=by
 obtain ⟨r,hk⟩:∃r,gw l n=r:=⟨_,rfl⟩;rw [hk];unfold gw at hk;haveI:=hl.oneC;obtain ⟨S0,F1,rfl,hS0,hp0⟩:=fX hF0;refine dB Tryz.func33 rfl rfl rfl hp0 ?_;refine ic ?_;refine ij ?_;refine dR ?_;have hq:=fq hk;clear hk;obtain ⟨k1,hk1,hk⟩:=hq; (try dsimp only at hk);refine dg (ι:=Unit) (fun z=>[]) (fun z=>[.fr F1]) (fun z=>k1 ()=r) ?_ ?_
 ·have hq:=gF hk;clear hk;obtain ⟨f2,kk2,hf2,hkk2,hk⟩:=hq;refine fV ?_;refine T.loop (ι:=Nat) (fun z=>[(0,vl),(1, .int .i64 n),(5, .int .i64 (z:Int))]) (fun z=>[.fr F1]) (fun z=>dh f2 kk2 (l.length - z) z ()=r) (fun z=>l.length - z) 0 ?_ ?_ ?_ ?_
  ·exact hk
  ·exact q32
  ·exact fQ
  ·rintro i_3 hk;refine iX ?_;refine ec ?_;refine q2c ?_;have hm8:l.length≤9223372036854775807:=(List.length_map _)▸hl.max;refine dR ?_;refine T.cond rfl (fun h4=>?_) (fun h4=>?_)
   ·have p4:=of_decide_eq_true h4;rw [gH a6] at hk;generalize hn2:dh f2 kk2 (l.length - (i_3+1)) (i_3+1)=next2 at hk;rw [←hf2] at hk; (try dsimp only at hk);refine fT ?_;refine ec ?_;refine q2J ?_;refine cK (fI rfl rfl hl (List.length_map _) a6) ?_;refine cK (ek 0 (i:=i_3) (j:=0) rfl rfl rfl hl a6) ?_;refine ji ?_;refine T.cond rfl (fun h5=>?_) (fun h5=>?_)
    ·have p5:=of_decide_eq_true h5;replace hk:=dH hk h5;refine i4 ?_;refine q2J ?_;refine cK (fI rfl rfl hl (List.length_map _) a6) ?_;refine cK (ek 0 (i:=i_3) (j:=1) rfl rfl rfl hl a6) ?_;refine dc ?_;refine mN ?_;subst hk;exact eX
    ·have p5:=of_decide_eq_false h5;replace hk:=dL hk h5;refine iS ?_;rw [←hn2] at hk;exact q4k
   ·have p4:=of_decide_eq_false h4;rw [gK a6,←hkk2] at hk; (try dsimp only at hk);refine fu ?_;exact mg
 ·rintro _ hk;rw [←hk1] at hk; (try dsimp only at hk);refine ld ?_;subst hk;exact eX
def zbC (l:List Int)(n:Int):Bool:=
 dO (fun (_:Unit)=>
  false)
 (fun k1=>
  dh (fun (i_3:Nat) (next2:Unit→Bool) (_:Unit)=>
   (bif decide ((cH l i_3)=n) then
    true
    else
    next2 ()))
  (fun (_:Unit)=>
   k1 ()) (l.length - 0) 0 ())
theorem zgy (F0:Frz)(w:World)(hF0:F0.At w)(l:List Int)(vl:Value)(hl:SlC F0 vl 1 (l.map eI))(n:Int):Calls Tryz.prog 34 #[vl, .int .i64 n] w fun e w'=>e= .returned (.bool (zbC l n))∧Below w.heap.size w w':=by
 obtain ⟨r,hk⟩:∃r,zbC l n=r:=⟨_,rfl⟩;rw [hk];unfold zbC at hk;haveI:=hl.oneC;obtain ⟨S0,F1,rfl,hS0,hp0⟩:=fX hF0;refine dB Tryz.func34 rfl rfl rfl hp0 ?_;refine ic ?_;refine ij ?_;refine dR ?_;have hq:=fq hk;clear hk;obtain ⟨k1,hk1,hk⟩:=hq; (try dsimp only at hk);refine dg (ι:=Unit) (fun z=>[]) (fun z=>[.fr F1]) (fun z=>k1 ()=r) ?_ ?_
 ·have hq:=gF hk;clear hk;obtain ⟨f2,kk2,hf2,hkk2,hk⟩:=hq;refine fV ?_;refine T.loop (ι:=Nat) (fun z=>[(0,vl),(1, .int .i64 n),(5, .int .i64 (z:Int))]) (fun z=>[.fr F1]) (fun z=>dh f2 kk2 (l.length - z) z ()=r) (fun z=>l.length - z) 0 ?_ ?_ ?_ ?_
  ·exact hk
  ·exact q32
  ·exact fQ
  ·rintro i_3 hk;refine iX ?_;refine ec ?_;refine q2c ?_;have hm8:l.length≤9223372036854775807:=(List.length_map _)▸hl.max;refine dR ?_;refine T.cond rfl (fun h4=>?_) (fun h4=>?_)
   ·have p4:=of_decide_eq_true h4;rw [gH a6] at hk;generalize hn2:dh f2 kk2 (l.length - (i_3+1)) (i_3+1)=next2 at hk;rw [←hf2] at hk; (try dsimp only at hk);refine fT ?_;refine ec ?_;refine q2J ?_;refine cK (ek 0 (i:=i_3) (j:=0) rfl rfl rfl hl a6) ?_;refine ji ?_;refine T.cond rfl (fun h5=>?_) (fun h5=>?_)
    ·have p5:=of_decide_eq_true h5;replace hk:=dH hk h5;refine jc ?_;subst hk;exact eX
    ·have p5:=of_decide_eq_false h5;replace hk:=dL hk h5;refine iS ?_;rw [←hn2] at hk;exact q4k
   ·have p4:=of_decide_eq_false h4;rw [gK a6,←hkk2] at hk; (try dsimp only at hk);refine fu ?_;exact mg
 ·rintro _ hk;rw [←hk1] at hk; (try dsimp only at hk);refine ld ?_;subst hk;exact eX
def mP (low:Int)(high:Int):Bool:=
 (((decide (2≤low))&&(decide (low≤high)))&&(decide (high≤51)))
theorem zd2 (F0:Frz)(w:World)(hF0:F0.At w)(low:Int)(high:Int):Calls Tryz.prog 62 #[.int .i64 low, .int .i64 high] w fun e w'=>e= .returned (.bool (mP low high))∧Below w.heap.size w w':=by
 obtain ⟨r,hk⟩:∃r,mP low high=r:=⟨_,rfl⟩;rw [hk];unfold mP at hk;obtain ⟨S0,F1,rfl,hS0,hp0⟩:=fX hF0;refine dB Tryz.func62 rfl rfl rfl hp0 ?_;refine fk ?_;refine dg (ι:=Unit) (fun z=>[(4, .bool (((decide (2≤low))&&(decide (low≤high)))&&(decide (high≤51))))]) (fun z=>[.fr F1]) (fun z=>True) ?_ ?_
 ·refine q3L ?_;refine du rfl rfl rfl (fun h1=>?_) (fun h1=>?_)
  ·have p1:=of_decide_eq_true h1;refine TL.run 5 rfl ?_;refine du rfl rfl rfl (fun h2=>?_) (fun h2=>?_)
   ·have p2:=of_decide_eq_true h2;refine mv ?_;exact cP () trivial (.b (kJ (gG h1 h2)) .nil) (List.Sublist.refl _)
   ·have p2:=of_decide_eq_false h2;refine mv ?_;exact cP () trivial (.b (fA (gG h1 h2)).symm .nil) (List.Sublist.refl _)
  ·have p1:=of_decide_eq_false h1;refine TL.run 9 rfl ?_;refine fO ?_;exact cP () trivial (.b (fA (fA h1)).symm .nil) (List.Sublist.refl _)
 ·rintro _ _;refine T.ret ?_;subst hk;exact eX
def zbi (a:List Int)(b:List Int):Option Bool:=
 dO (fun (_:Unit)=>
  some false)
 (fun k1=>
  dh (fun (i_3:Nat) (next2:Unit→Option Bool) (_:Unit)=>
   ex (0≤(i_3:Int)∧(i_3:Int)<(b.length:Int)) <|
   (bif decide (¬(cH a i_3)=(cH b i_3)) then
    some (decide ((cH a i_3)<(cH b i_3)))
    else
    next2 ()))
  (fun (_:Unit)=>
   k1 ()) (a.length - 0) 0 ())
theorem zdS (F0:Frz)(w:World)(hF0:F0.At w)(a:List Int)(va:Value)(ha:SlC F0 va 1 (a.map eI))(b:List Int)(vb:Value)(hb:SlC F0 vb 1 (b.map eI))(r:Bool)(hr:zbi a b=some r):Calls Tryz.prog 63 #[va,vb] w fun e w'=>e= .returned (.bool r)∧Below w.heap.size w w':=by
 have hk:=hr;unfold zbi at hk;haveI:=ha.oneC;haveI:=hb.oneC;obtain ⟨S0,F1,rfl,hS0,hp0⟩:=fX hF0;refine dB Tryz.func63 rfl rfl rfl hp0 ?_;refine ic ?_;refine ij ?_;refine dR ?_;have hq:=fq hk;clear hk;obtain ⟨k1,hk1,hk⟩:=hq; (try dsimp only at hk);refine dg (ι:=Unit) (fun z=>[]) (fun z=>[.fr F1]) (fun z=>k1 ()=some r) ?_ ?_
 ·have hq:=gF hk;clear hk;obtain ⟨f2,kk2,hf2,hkk2,hk⟩:=hq;refine fV ?_;refine T.loop (ι:=Nat) (fun z=>[(0,va),(1,vb),(5, .int .i64 (z:Int))]) (fun z=>[.fr F1]) (fun z=>dh f2 kk2 (a.length - z) z ()=some r) (fun z=>a.length - z) 0 ?_ ?_ ?_ ?_
  ·exact hk
  ·exact q32
  ·exact fQ
  ·rintro i_3 hk;refine iX ?_;refine ec ?_;refine cK (dn rfl rfl ha (List.length_map _)) ?_;have hm8:a.length≤9223372036854775807:=(List.length_map _)▸ha.max;refine dR ?_;refine T.cond rfl (fun h4=>?_) (fun h4=>?_)
   ·have p4:=of_decide_eq_true h4;rw [gH a6] at hk;generalize hn2:dh f2 kk2 (a.length - (i_3+1)) (i_3+1)=next2 at hk;rw [←hf2] at hk; (try dsimp only at hk);refine lA ?_;have hq:(0≤(i_3:Int)∧(i_3:Int)<(b.length:Int))∧_:=gZ hk;clear hk;obtain ⟨g18,hk⟩:=hq; (try dsimp only at hk);refine q16 ?_;refine q1R ?_;refine kM ?_;refine T.cond rfl (fun h5=>?_) (fun h5=>?_)
    ·have p5:=of_decide_eq_true h5;replace hk:=dH hk h5;refine T.seq ?_;refine q3j ?_;refine q1R ?_;refine gE ?_;refine fv ?_;refine K.seq (T.ret (eV (dZ (dZ (eV (dZ ?_))))));obtain rfl:=Option.some.inj hk;exact eX
    ·have p5:=of_decide_eq_false h5;replace hk:=dL hk h5;refine iS ?_;rw [←hn2] at hk;exact q4k
   ·have p4:=of_decide_eq_false h4;rw [gK a6,←hkk2] at hk; (try dsimp only at hk);refine fu ?_;exact mg
 ·rintro _ hk;rw [←hk1] at hk; (try dsimp only at hk);refine ld ?_;obtain rfl:=Option.some.inj hk;exact eX
def lE (x_:GPair):List Int:=
 [x_.A,x_.B,x_.Offset,x_.Low,x_.High]
theorem zeu (F0:Frz)(w:World)(hF0:F0.At w)(x_:GPair):Calls Tryz.prog 64 #[.agg [.int .i64 x_.A, .int .i64 x_.B, .int .i64 x_.Offset, .int .i64 x_.Low, .int .i64 x_.High].toArray] w fun e w'=>∃(y:Value) (G:Frz),(SlC G y 1 ((lE x_).map eI))∧e= .returned (y)∧Fx F0 w G w':=by
 obtain ⟨r,hk⟩:∃r,lE x_=r:=⟨_,rfl⟩;rw [hk];unfold lE at hk;obtain ⟨S0,F1,rfl,hS0,hp0⟩:=fX hF0;refine dB Tryz.func64 rfl rfl rfl hp0 ?_;refine jI ?_;rintro _ _ ⟨g1,rfl,rfl⟩;refine gN ?_;refine q2M ?_;refine em ?_;refine em ?_;refine q08 ?_;rintro _ _ ⟨g13,rfl,rfl⟩;refine fB ?_;refine q20 ?_;rintro F2 ⟨le1_2,hz2⟩;refine iI ?_;have hf2:SlC F2.toFrz (.slice (some ⟨g13,0,none⟩) 5 5) 1 ([x_.A,x_.B,x_.Offset,x_.Low,x_.High].map eI):=(SlK.lit hz2 rfl (Nat.le_refl _) a7).toF (xs:=[x_.A,x_.B,x_.Offset,x_.Low,x_.High]) rfl (fun _=>rfl);subst hk;exact q4x
def lv (x_:GLoad):List Int:=
 [x_.To,x_.From,x_.Weight,x_.Low,x_.High]
theorem zew (F0:Frz)(w:World)(hF0:F0.At w)(x_:GLoad):Calls Tryz.prog 65 #[.agg [.int .i64 x_.To, .int .i64 x_.From, .int .i64 x_.Weight, .int .i64 x_.Low, .int .i64 x_.High].toArray] w fun e w'=>∃(y:Value) (G:Frz),(SlC G y 1 ((lv x_).map eI))∧e= .returned (y)∧Fx F0 w G w':=by
 obtain ⟨r,hk⟩:∃r,lv x_=r:=⟨_,rfl⟩;rw [hk];unfold lv at hk;obtain ⟨S0,F1,rfl,hS0,hp0⟩:=fX hF0;refine dB Tryz.func65 rfl rfl rfl hp0 ?_;refine jI ?_;rintro _ _ ⟨g1,rfl,rfl⟩;refine gN ?_;refine q2M ?_;refine em ?_;refine em ?_;refine q08 ?_;rintro _ _ ⟨g13,rfl,rfl⟩;refine fB ?_;refine q20 ?_;rintro F2 ⟨le1_2,hz2⟩;refine iI ?_;have hf2:SlC F2.toFrz (.slice (some ⟨g13,0,none⟩) 5 5) 1 ([x_.To,x_.From,x_.Weight,x_.Low,x_.High].map eI):=(SlK.lit hz2 rfl (Nat.le_refl _) a7).toF (xs:=[x_.To,x_.From,x_.Weight,x_.Low,x_.High]) rfl (fun _=>rfl);subst hk;exact q4x
def lF (x_:GCap):List Int:=
 [x_.Station,x_.Max,x_.Low,x_.High]
theorem zeR (F0:Frz)(w:World)(hF0:F0.At w)(x_:GCap):Calls Tryz.prog 66 #[.agg [.int .i64 x_.Station, .int .i64 x_.Max, .int .i64 x_.Low, .int .i64 x_.High].toArray] w fun e w'=>∃(y:Value) (G:Frz),(SlC G y 1 ((lF x_).map eI))∧e= .returned (y)∧Fx F0 w G w':=by
 obtain ⟨r,hk⟩:∃r,lF x_=r:=⟨_,rfl⟩;rw [hk];unfold lF at hk;obtain ⟨S0,F1,rfl,hS0,hp0⟩:=fX hF0;refine dB Tryz.func66 rfl rfl rfl hp0 ?_;refine jI ?_;rintro _ _ ⟨g1,rfl,rfl⟩;refine gN ?_;refine q2M ?_;refine em ?_;refine q08 ?_;rintro _ _ ⟨g11,rfl,rfl⟩;refine fB ?_;refine q20 ?_;rintro F2 ⟨le1_2,hz2⟩;refine iI ?_;have hf2:SlC F2.toFrz (.slice (some ⟨g11,0,none⟩) 4 4) 1 ([x_.Station,x_.Max,x_.Low,x_.High].map eI):=(SlK.lit hz2 rfl (Nat.le_refl _) a7).toF (xs:=[x_.Station,x_.Max,x_.Low,x_.High]) rfl (fun _=>rfl);subst hk;exact cU rfl rfl (fun w' hw=>⟨(.slice (some ⟨g11,0,none⟩) 4 4),F2.toFrz,hf2,rfl,jp hw (i:=1) rfl hS0 le1_2⟩)
def zbW (d:List GDomain)(s:Int)(c:Int):Option (List GDomain):=
 dO (fun (out_1:List GDomain)=>
  some out_1)
 (fun k2=>
  dh (fun (i_5:Nat) (next4:List GDomain→Option (List GDomain)) (out_3:List GDomain)=>
   ex (dQ ([]++(cH d i_5).Channels).length 8) <|
   dO (fun (s9:Int×List Int)=>
    ex (dQ (out_3++[(GDomain.mk s9.1 s9.2)]).length 32) <|
    next4 (out_3++[(GDomain.mk s9.1 s9.2)]))
   (fun k9=>
    (bif decide ((cH d i_5).Station=s) then
     (bif (zbC ((cH d i_5).Channels) c) then
      k9 ((cH d i_5).Station,[c])
      else
      k9 ((cH d i_5).Station,[]))
     else
     k9 ((cH d i_5).Station,([]++(cH d i_5).Channels)))))
  (fun (out_3:List GDomain)=>
   k2 out_3) (d.length - 0) 0 [])
def zby (d:List GDomain)(s:Int)(c:Int):Option (List GDomain):=
 dO (fun (out_1:List GDomain)=>
  some out_1)
 (fun k2=>
  dh (fun (i_5:Nat) (next4:List GDomain→Option (List GDomain)) (out_3:List GDomain)=>
   dO (fun (s9:Int×List Int)=>
    ex (dQ (out_3++[(GDomain.mk s9.1 s9.2)]).length 32) <|
    next4 (out_3++[(GDomain.mk s9.1 s9.2)]))
   (fun k9=>
    dh (fun (k_13:Nat) (next12:(Int×List Int)→Option (List GDomain)) (s12:Int×List Int)=>
     (bif ((decide (¬(cH d i_5).Station=s))||(decide (¬(cH ((cH d i_5).Channels) k_13)=c))) then
      ex (dQ (s12.2++[(cH ((cH d i_5).Channels) k_13)]).length 8) <|
      next12 (s12.1,(s12.2++[(cH ((cH d i_5).Channels) k_13)]))
      else
      next12 (s12.1,s12.2)))
    (fun (s12:Int×List Int)=>
     k9 (s12.1,s12.2)) ((((cH d i_5).Channels).length) - 0) 0 ((cH d i_5).Station,[])))
  (fun (out_3:List GDomain)=>
   k2 out_3) (d.length - 0) 0 [])
def zbB (low:Int)(c:Int)(high:Int):Bool:=
 ((decide (low≤c))&&(decide (c≤high)))
def zbV (d:List GDomain)(station:Int)(channel:Int):Bool:=
 dO (fun (_:Unit)=>
  true)
 (fun k1=>
  dh (fun (i_3:Nat) (next2:Unit→Bool) (_:Unit)=>
   dO (fun (_:Unit)=>
    next2 ())
   (fun k5=>
    (bif decide (¬(cH d i_3).Station=station) then
     k5 ()
     else
     dh (fun (k_8:Nat) (next7:Unit→Bool) (_:Unit)=>
      (bif decide (¬(cH ((cH d i_3).Channels) k_8)=channel) then
       false
       else
       next7 ()))
     (fun (_:Unit)=>
      k5 ()) ((((cH d i_3).Channels).length) - 0) 0 ())))
  (fun (_:Unit)=>
   k1 ()) (d.length - 0) 0 ())
def zdj (p:GProblem)(d:List GDomain)(s:Int)(c:Int):Bool:=
 dO (fun (_:Unit)=>
  false)
 (fun k1=>
  dh (fun (i_3:Nat) (next2:Unit→Bool) (_:Unit)=>
   (bif (((decide ((cH p.Rules.Pairs i_3).A=s))&&(zbB ((cH p.Rules.Pairs i_3).Low) c ((cH p.Rules.Pairs i_3).High)))&&(zbV d ((cH p.Rules.Pairs i_3).B) (wI (c+((cH p.Rules.Pairs i_3).Offset))))) then
    true
    else
    (bif (((decide ((cH p.Rules.Pairs i_3).B=s))&&(zbB ((cH p.Rules.Pairs i_3).Low) (wI (c - ((cH p.Rules.Pairs i_3).Offset))) ((cH p.Rules.Pairs i_3).High)))&&(zbV d ((cH p.Rules.Pairs i_3).A) (wI (c - ((cH p.Rules.Pairs i_3).Offset))))) then
     true
     else
     next2 ())))
  (fun (_:Unit)=>
   k1 ()) (p.Rules.Pairs.length - 0) 0 ())
def zdD (p:GProblem)(d:List GDomain)(to_:Int)(c:Int)(further:Int):Int:=
 dO (fun (n_1:Int)=>
  n_1)
 (fun k2=>
  dh (fun (i_5:Nat) (next4:Int→Int) (n_3:Int)=>
   (bif (((decide ((cH p.Rules.Loads i_5).To=to_))&&(zbB ((cH p.Rules.Loads i_5).Low) c ((cH p.Rules.Loads i_5).High)))&&((decide ((cH p.Rules.Loads i_5).From=further))||(zbV d ((cH p.Rules.Loads i_5).From) c))) then
    next4 (wI (n_3+((cH p.Rules.Loads i_5).Weight)))
    else
    next4 n_3))
  (fun (n_3:Int)=>
   k2 n_3) (p.Rules.Loads.length - 0) 0 0)
def zdd (p:GProblem)(station:Int)(c:Int)(loss:Int):Bool:=
 dO (fun (_:Unit)=>
  false)
 (fun k1=>
  dh (fun (i_3:Nat) (next2:Unit→Bool) (_:Unit)=>
   (bif (((decide ((cH p.Rules.Caps i_3).Station=station))&&(zbB ((cH p.Rules.Caps i_3).Low) c ((cH p.Rules.Caps i_3).High)))&&(decide ((cH p.Rules.Caps i_3).Max<loss))) then
    true
    else
    next2 ()))
  (fun (_:Unit)=>
   k1 ()) (p.Rules.Caps.length - 0) 0 ())
def zdh (p:GProblem)(d:List GDomain)(s:Int)(c:Int):Bool:=
 dO (fun (_:Unit)=>
  false)
 (fun k1=>
  dh (fun (i_3:Nat) (next2:Unit→Bool) (_:Unit)=>
   (bif ((((decide ((cH p.Rules.Loads i_3).From=s))&&(zbB ((cH p.Rules.Loads i_3).Low) c ((cH p.Rules.Loads i_3).High)))&&(zbV d ((cH p.Rules.Loads i_3).To) c))&&(zdd p ((cH p.Rules.Loads i_3).To) c (zdD p d ((cH p.Rules.Loads i_3).To) c s))) then
    true
    else
    next2 ()))
  (fun (_:Unit)=>
   k1 ()) (p.Rules.Loads.length - 0) 0 ())
def zbX (p:GProblem)(d:List GDomain)(s:Int)(c:Int):Bool:=
 (((zdj p d s c)||(zdd p s c (zdD p d s c (-1))))||(zdh p d s c))
theorem znA {l:List Int}{n:Int}:zbC l n=l.any fun k=>decide (k=n):=by
 unfold zbC;refine kj ?_;rw [zd4 (fun i=>decide (cH l i=n)) (fun i next _=>?_),zdr (q:=fun k=>decide (k=n)),Bool.or_false]
 cases decide (cH l i=n) <;> rfl
def iC (d:List GDomain)(s c:Int):Bool:=d.all fun x=>(decide (¬x.Station=s)||x.Channels.all fun k=>decide (k=c))
theorem zjR {d:List GDomain}{s c:Int}:zbV d s c=iC d s c:=by
 unfold zbV iC;refine kj ?_;rw [zdV (fun i=>(decide (¬(cH d i).Station=s)||(cH d i).Channels.all fun k=>decide (k=c))) (fun i next _=>?_),zij (l:=d) (q:=fun x=>(decide (¬x.Station=s)||x.Channels.all fun k=>decide (k=c))),Bool.and_true];rw [zdV (fun k=>decide (cH (cH d i).Channels k=c)) (fun k nx _=>?_),zij (q:=fun k=>decide (k=c))]
 ·cases decide (¬(cH d i).Station=s) <;> rfl
 ·by_cases h:cH (cH d i).Channels k=c <;> simp [h]
theorem zfM {a b c:Int}:zbB a b c=decide (a≤b∧b≤c):=by
 unfold zbB;by_cases h1:a≤b <;> by_cases h2:b≤c <;> simp [h1,h2]
def me (d:List GDomain)(s c:Int)(x:GPair):Bool:=(decide (x.A=s)&&decide (x.Low≤c∧c≤x.High)&&iC d x.B (wI (c+x.Offset)))||(decide (x.B=s)&&decide (x.Low≤wI (c - x.Offset)∧wI (c - x.Offset)≤x.High)&&iC d x.A (wI (c - x.Offset)))
theorem zmn {p:GProblem}{d:List GDomain}{s c:Int}:zdj p d s c=p.Rules.Pairs.any (me d s c):=by
 unfold zdj;simp only [dO,Nat.sub_zero,zjR,zfM];rw [zd4 (fun i=>me d s c (cH p.Rules.Pairs i)) (fun i next _=>?_),zdr (q:=me d s c),Bool.or_false];unfold me;generalize (decide ((cH p.Rules.Pairs i).A=s)&&decide ((cH p.Rules.Pairs i).Low≤c∧c≤(cH p.Rules.Pairs i).High)&&iC d (cH p.Rules.Pairs i).B (wI (c+(cH p.Rules.Pairs i).Offset)))=a
 cases a
 ·rw [cond_false,Bool.false_or];generalize (decide ((cH p.Rules.Pairs i).B=s)&&decide ((cH p.Rules.Pairs i).Low≤wI (c - (cH p.Rules.Pairs i).Offset)∧wI (c - (cH p.Rules.Pairs i).Offset)≤(cH p.Rules.Pairs i).High)&&iC d (cH p.Rules.Pairs i).A (wI (c - (cH p.Rules.Pairs i).Offset)))=b
  cases b <;> rfl
 ·rfl
def loadC (d:List GDomain)(t c f:Int)(x:GLoad):Bool:=decide (x.To=t)&&decide (x.Low≤c∧c≤x.High)&&(decide (x.From=f)||iC d x.From c)
def gQ (p:GProblem)(d:List GDomain)(t c f:Int):Int:=p.Rules.Loads.foldl (fun n x=>bif loadC d t c f x then wI (n+x.Weight) else n) 0
theorem zoi {p:GProblem}{d:List GDomain}{t c f:Int}:zdD p d t c f=gQ p d t c f:=by
 unfold zdD gQ;simp only [dO,Nat.sub_zero,zjR,zfM];rw [zgM (fun i n=>bif loadC d t c f (cH p.Rules.Loads i) then wI (n+(cH p.Rules.Loads i).Weight) else n) (fun i next n _=>?_),zc2 (g:=fun n x=>bif loadC d t c f x then wI (n+x.Weight) else n)];unfold loadC;generalize (decide ((cH p.Rules.Loads i).To=t)&&decide ((cH p.Rules.Loads i).Low≤c∧c≤(cH p.Rules.Loads i).High)&&(decide ((cH p.Rules.Loads i).From=f)||iC d (cH p.Rules.Loads i).From c))=a
 cases a <;> rfl
def kz (p:GProblem)(s c l:Int):Bool:=p.Rules.Caps.any fun x=>decide (x.Station=s)&&decide (x.Low≤c∧c≤x.High)&&decide (x.Max<l)
theorem znn {p:GProblem}{s c l:Int}:zdd p s c l=kz p s c l:=by
 unfold zdd kz;simp only [dO,Nat.sub_zero,zfM];rw [zd4 (fun i=>decide ((cH p.Rules.Caps i).Station=s)&&decide ((cH p.Rules.Caps i).Low≤c∧c≤(cH p.Rules.Caps i).High)&&decide ((cH p.Rules.Caps i).Max<l)) (fun i next _=>?_),zdr (l:=p.Rules.Caps) (q:=fun x=>decide (x.Station=s)&&decide (x.Low≤c∧c≤x.High)&&decide (x.Max<l)),Bool.or_false];generalize (decide ((cH p.Rules.Caps i).Station=s)&&decide ((cH p.Rules.Caps i).Low≤c∧c≤(cH p.Rules.Caps i).High)&&decide ((cH p.Rules.Caps i).Max<l))=a
 cases a <;> rfl
def loadR (p:GProblem)(d:List GDomain)(s c:Int)(x:GLoad):Bool:=decide (x.From=s)&&decide (x.Low≤c∧c≤x.High)&&iC d x.To c&&kz p x.To c (gQ p d x.To c s)
theorem zmW {p:GProblem}{d:List GDomain}{s c:Int}:zdh p d s c=p.Rules.Loads.any (loadR p d s c):=by
 unfold zdh;simp only [dO,Nat.sub_zero,zjR,zfM,znn,zoi];rw [zd4 (fun i=>loadR p d s c (cH p.Rules.Loads i)) (fun i next _=>?_),zdr (q:=loadR p d s c),Bool.or_false];unfold loadR;generalize (decide ((cH p.Rules.Loads i).From=s)&&decide ((cH p.Rules.Loads i).Low≤c∧c≤(cH p.Rules.Loads i).High)&&iC d (cH p.Rules.Loads i).To c&&kz p (cH p.Rules.Loads i).To c (gQ p d (cH p.Rules.Loads i).To c s))=a
 cases a <;> rfl
def ir (p:GProblem)(d:List GDomain)(s c:Int):Bool:=p.Rules.Pairs.any (me d s c)||kz p s c (gQ p d s c (-1))||p.Rules.Loads.any (loadR p d s c)
theorem zhN {p:GProblem}{d:List GDomain}{s c:Int}:zbX p d s c=ir p d s c:=by
 unfold zbX ir;rw [zmn,znn,zoi,zmW]
def i3 (s c:Int)(x:GDomain):GDomain:=⟨x.Station,x.Channels.filter fun k=>decide (¬x.Station=s)||decide (¬k=c)⟩
theorem zl0 {d:List GDomain}{s c:Int}(hd:d.length≤100000)(hc:∀x∈d,x.Channels.length≤100000):zby d s c=some (d.map (i3 s c)):=by
 unfold zby;refine kj ?_;refine (zcZ (fun i out=>out.length=i) (fun i out=>out++[i3 s c (cH d i)]) rfl (fun i out _ h=>by simp [h]) (fun i next out hi hl=>?_)).1.trans ?_
 ·have hci:=hc (cH d i) (by rw [d4 hi];exact List.getElem_mem _);refine (zcZ (fun k (t:Int×List Int)=>t.2.length≤k) (fun k t=>(t.1,bif (decide (¬(cH d i).Station=s)||decide (¬cH (cH d i).Channels k=c)) then t.2++[cH (cH d i).Channels k] else t.2)) (by exact Nat.le_refl 0) (fun k t _ h=>?_) (fun k nx t hk ht=>?_)).1.trans ?_
  ·(try dsimp only)
   cases (decide (¬(cH d i).Station=s)||decide (¬cH (cH d i).Channels k=c)) <;> simp <;> omega
  ·(try dsimp only)
   cases (decide (¬(cH d i).Station=s)||decide (¬cH (cH d i).Channels k=c))
   ·rfl
   ·exact fo (by simp only [dQ,List.length_append,List.length_singleton];omega)
  ·rw [zk7 (g:=fun t k=>bif (decide (¬(cH d i).Station=s)||decide (¬cH (cH d i).Channels k=c)) then t++[cH (cH d i).Channels k] else t),zc2 (l:=(cH d i).Channels) (g:=fun t k=>bif (decide (¬(cH d i).Station=s)||decide (¬k=c)) then t++[k] else t),zj9 (g:=fun k=>k)];rw [fo (by simp only [dQ,List.length_append,List.length_singleton];omega)];simp [i3]
 ·rw [zc2 (l:=d) (g:=fun out x=>out++[i3 s c x]),zgW];rfl
def iQ (s c:Int)(x:GDomain):GDomain:=⟨x.Station,bif decide (x.Station=s) then (bif x.Channels.any (fun k=>decide (k=c)) then [c] else []) else x.Channels⟩
theorem zkU {d:List GDomain}{s c:Int}(hd:d.length≤100000)(hc:∀x∈d,x.Channels.length≤100000):zbW d s c=some (d.map (iQ s c)):=by
 unfold zbW;simp only [dO,Nat.sub_zero,znA];refine (zcZ (fun i out=>out.length=i) (fun i out=>out++[iQ s c (cH d i)]) rfl (fun i out _ h=>by simp [h]) (fun i next out hi hl=>?_)).1.trans ?_
 ·have hci:=hc (cH d i) (by rw [d4 hi];exact List.getElem_mem _);rw [fo (by simp only [dQ,List.nil_append];omega)]; (have hr:∀y:GDomain,dQ (out++[y]).length 32:=fun y=>by simp only [dQ,List.length_append,List.length_singleton];omega);simp only [fo (hr _),iQ]
  cases decide ((cH d i).Station=s) <;> cases ((cH d i).Channels.any fun k=>decide (k=c)) <;> rfl
 ·rw [zc2 (l:=d) (g:=fun out x=>out++[iQ s c x]),zgW];rfl
def za4 (fuel:Nat)(p:GProblem)(d:List GDomain):Option (List GDomain×Bool):=
 dO (fun (d_1:List GDomain)=>
  dO (fun (_:Unit)=>
   some (d_1,true))
  (fun k20=>
   dh (fun (i_22:Nat) (next21:Unit→Option (List GDomain×Bool)) (_:Unit)=>
    (bif decide ((((cH d_1 i_22).Channels).length:Int)=0) then
     some ([],false)
     else
     next21 ()))
   (fun (_:Unit)=>
    k20 ()) (d_1.length - 0) 0 ()))
 (fun k2=>
  iP (fun (next5:(List GDomain×Bool)→Option (List GDomain×Bool)) (s5:List GDomain×Bool)=>
   (bif s5.2 then
    iP (fun (next11:(List GDomain×Bool×Int)→Option (List GDomain×Bool)) (s11:List GDomain×Bool×Int)=>
     (bif decide (s11.2.2<(s11.1.length:Int)) then
      ex (0≤s11.2.2∧s11.2.2<(s11.1.length:Int)) <|
      kF (fun (k_17:Nat) (next16:(List GDomain×Bool)→Option (List GDomain×Bool)) (s16:List GDomain×Bool)=>
       ex (0≤s11.2.2∧s11.2.2<(s16.1.length:Int)) <|
       ex (0≤(k_17:Int)∧(k_17:Int)<(((cH s16.1 s11.2.2.toNat).Channels).length:Int)) <|
       (bif (zbX p s16.1 ((cH s16.1 s11.2.2.toNat).Station) (cH ((cH s16.1 s11.2.2.toNat).Channels) k_17)) then
        (zby s16.1 ((cH s16.1 s11.2.2.toNat).Station) (cH ((cH s16.1 s11.2.2.toNat).Channels) k_17)).bind fun r51=>
        next16 (r51,true)
        else
        next16 (s16.1,s16.2)))
      (fun (s16:List GDomain×Bool)=>
       next11 (s16.1,s16.2,(s11.2.2+1))) (((cH s11.1 s11.2.2.toNat).Channels).length) (s11.1,s11.2.1)
      else
      next5 (s11.1,s11.2.1))) fuel (s5.1,false,0)
    else
    k2 s5.1)) fuel (d,true))
theorem eh {α:Type}[Inhabited α]{xs:List α}{k:Nat}(h:k<xs.length):cH xs k∈xs:=by rw [d4 h];exact List.getElem_mem _
theorem fW {α:Type}[Inhabited α]{xs:List α}{x:α}(h:x∈xs):∃k,k<xs.length∧cH xs k=x:=by
 obtain ⟨k,hk,rfl⟩:=List.mem_iff_getElem.1 h;exact ⟨k,hk,d4 hk⟩
theorem gr {α β:Type}[Inhabited α][Inhabited β]{f:α→β}{xs:List α}{i:Nat}(h:i<xs.length):cH (xs.map f) i=f (cH xs i):=jy h
theorem zdG {α:Type}[Inhabited α]{a b:List α}(hl:a.length=b.length)(h:∀i,i<a.length→cH a i=cH b i):a=b:=by
 apply List.ext_getElem hl;intro i h1 h2;have:=h i h1
 rwa [d4 h1,d4 h2] at this
def SubD (a b:List GDomain):Prop:=a.length=b.length∧∀i,i<b.length→(cH a i).Station=(cH b i).Station∧∀c∈(cH a i).Channels,c∈(cH b i).Channels
theorem SubD.refl (a:List GDomain):SubD a a:=⟨rfl,fun _ _=>⟨rfl,fun _ h=>h⟩⟩
theorem SubD.trans {a b c:List GDomain}(h:SubD a b)(k:SubD b c):SubD a c:=⟨h.1.trans k.1,fun i hi=>⟨((h.2 i (by rw [k.1];exact hi)).1).trans (k.2 i hi).1,fun x hx=>(k.2 i hi).2 x ((h.2 i (by rw [k.1];exact hi)).2 x hx)⟩⟩
def WtP (p:GProblem):Prop:=p.Rules.Loads.length≤1024∧∀x∈p.Rules.Loads,0≤x.Weight∧x.Weight≤1073741824
section
variable {p:GProblem}{a b d:List GDomain}
theorem eO {s c:Int}:iC d s c=true↔∀x∈d,x.Station=s→∀k∈x.Channels,k=c:=by
 unfold iC;simp only [List.all_eq_true,Bool.or_eq_true,decide_eq_true_eq];constructor
 ·intro h x hx hs k hk;rcases h x hx with h1|h1
  ·exact absurd hs h1
  ·exact h1 k hk
 ·intro h x hx;by_cases hs:x.Station=s
  ·exact .inr (h x hx hs)
  ·exact .inl hs
theorem zci (h:SubD a b){s c:Int}(ho:iC b s c=true):iC a s c=true:=by
 rw [eO] at ho ⊢;intro x hx hs k hk;obtain ⟨i,hi,rfl⟩:=fW hx;have h2:=h.2 i (by rw [←h.1];exact hi);exact ho (cH b i) (eh (by rw [←h.1];exact hi)) (by rw [←h2.1];exact hs) k (h2.2 k hk)
theorem zfA {t c f : Int} (h : SubD a b) : ∀ (l : List GLoad), (∀ x ∈ l, 0 ≤ x.Weight ∧ x.Weight ≤ 1073741824) → ∀ n n' : Int, 0 ≤ n → n ≤ n' → n' + 1073741824 * (l.length : Int) ≤ 4611686018427387904 →
    l.foldl (fun n x => bif loadC b t c f x then wI (n + x.Weight) else n) n ≤ l.foldl (fun n x => bif loadC a t c f x then wI (n + x.Weight) else n) n'
  | [], _, n, n', _, hn, _ => hn
  | x :: r, hw, n, n', h0, hn, hb => by
    have h1 := hw x b2; simp only [List.length_cons] at hb; rw [List.foldl_cons, List.foldl_cons]; have e1 : wI (n + x.Weight) = n + x.Weight := zgE a6; have e2 : wI (n' + x.Weight) = n' + x.Weight := zgE a6; rw [e1, e2]
    have hc : loadC b t c f x = true → loadC a t c f x = true := by
      unfold loadC;simp only [Bool.and_eq_true, Bool.or_eq_true]; rintro ⟨h3, h4⟩; exact ⟨h3, h4.imp id (zci h)⟩
    refine zfA h r (fun y hy => hw y (by simp [hy])) _ _ ?_ ?_ ?_
    · cases loadC b t c f x <;> simp <;> omega
    · cases hb' : loadC b t c f x
      · cases loadC a t c f x <;> simp <;> omega
      · rw [hc hb']; simp; omega
    · cases loadC a t c f x <;> simp <;> omega
theorem zig (hp:WtP p)(h:SubD a b){t c f:Int}:gQ p b t c f≤gQ p a t c f:=by
 unfold gQ;have:=hp.1;exact zfA h _ hp.2 0 0 a6 a6 a6
theorem zg6 {s c l l':Int}(hl:l≤l')(h:kz p s c l=true):kz p s c l'=true:=by
 unfold kz at h ⊢;rw [List.any_eq_true] at h ⊢;obtain ⟨x,hx,h⟩:=h;refine ⟨x,hx,?_⟩;simp only [Bool.and_eq_true,decide_eq_true_eq] at h ⊢;exact ⟨h.1,by omega⟩
theorem zgk (hp:WtP p)(h:SubD a b){s c:Int}(hr:ir p b s c=true):ir p a s c=true:=by
 unfold ir at hr ⊢;simp only [Bool.or_eq_true,List.any_eq_true] at hr ⊢;rcases hr with (⟨x,hx,hr⟩|hr)|⟨x,hx,hr⟩
 ·refine .inl (.inl ⟨x,hx,?_⟩);unfold me at hr ⊢;simp only [Bool.or_eq_true,Bool.and_eq_true] at hr ⊢;exact hr.imp (fun q=>⟨q.1,zci h q.2⟩) (fun q=>⟨q.1,zci h q.2⟩)
 ·exact .inl (.inr (zg6 (zig hp h) hr))
 ·refine .inr ⟨x,hx,?_⟩;unfold loadR at hr ⊢;simp only [Bool.and_eq_true] at hr ⊢;exact ⟨⟨hr.1.1,zci h hr.1.2⟩,zg6 (zig hp h) hr.2⟩
structure ClosedD (p:GProblem) (d:List GDomain):Prop where
 ne:∀x∈d,x.Channels≠[]
 calm:∀x∈d,∀c∈x.Channels,ir p d x.Station c=false
def OrdD (a b:List GDomain):Prop:=∀i,i<b.length→(cH a i).Channels.Sublist (cH b i).Channels
def PropD (p:GProblem)(d:List GDomain)(r:List GDomain×Bool):Prop:=
 (r.2=true∧ClosedD p r.1∧(SubD r.1 d∧OrdD r.1 d)∧∀S,ClosedD p S→SubD S d→SubD S r.1)∨(r=([],false)∧∀S,ClosedD p S→¬SubD S d)
def zl1 (R:List GDomain→Int→Int→Bool)(d:List GDomain):Prop:=∀x∈d,∀c∈x.Channels,R d x.Station c=false
def MonoR (R:List GDomain→Int→Int→Bool):Prop:=∀a b s c,SubD a b→R b s c=true→R a s c=true
theorem zj7 {R:List GDomain→Int→Int→Bool}(hp:MonoR R){S:List GDomain}(hS:zl1 R S)(h:SubD S d){s c:Int}(hr:R d s c=true):SubD S (d.map (i3 s c)):=by
 refine ⟨by rw [h.1,List.length_map],fun i hi=>?_⟩;rw [List.length_map] at hi;rw [gr hi];have h2:=h.2 i hi;refine ⟨h2.1,fun k hk=>?_⟩;unfold i3;rw [List.mem_filter];refine ⟨h2.2 k hk,?_⟩;simp only [Bool.or_eq_true,decide_eq_true_eq];by_cases hs:(cH d i).Station=s
 ·refine .inr fun hkc=>?_;subst hkc;have hm:=eh (show i<S.length by rw [h.1];exact hi);have:=hS _ hm k hk;rw [h2.1,hs,hp _ _ _ _ h hr] at this
  cases this
 ·exact .inl hs
theorem drop_sub {s c:Int}:SubD (d.map (i3 s c)) d:=by
 refine ⟨List.length_map _,fun i hi=>?_⟩;rw [gr hi];exact ⟨rfl,fun k hk=>(List.mem_filter.1 hk).1⟩
def ep (d:List GDomain):Nat:=(d.map fun x=>x.Channels.length).sum
theorem zkO:∀(d:List GDomain) (f:GDomain→GDomain),(∀x∈d,(f x).Channels.length≤x.Channels.length)→ep (d.map f)≤ep d
 | [],_,_=>Nat.le_refl _
 |x :: r,f,h=>by
  have:=zkO r f (fun y hy=>h y (by simp [hy]));have h1:=h x b2;simp only [ep,List.map_cons,List.sum_cons] at this ⊢;omega
theorem zla:∀(d:List GDomain) (f:GDomain→GDomain),(∀x∈d,(f x).Channels.length≤x.Channels.length)→(∃x∈d,(f x).Channels.length<x.Channels.length)→ep (d.map f)<ep d
 |x :: r,f,h,he=>by
  have h1:=h x b2;obtain ⟨y,hy,hlt⟩:=he;rcases List.mem_cons.1 hy with rfl|hy
  ·have:=zkO r f (fun z hz=>h z (by simp [hz]));simp only [ep,List.map_cons,List.sum_cons] at this ⊢;omega
  ·have:=zla r f (fun z hz=>h z (by simp [hz])) ⟨y,hy,hlt⟩;simp only [ep,List.map_cons,List.sum_cons] at this ⊢;omega
theorem zgO {α:Type}{q:α→Bool}:∀ {l:List α} {x:α},x∈l→q x=false→(l.filter q).length<l.length
 |y :: r,x,hx,hq=>by
  rcases List.mem_cons.1 hx with rfl|hx
  ·rw [List.filter_cons,hq];have:=List.length_filter_le q r;simp;omega
  ·have:=zgO hx hq;rw [List.filter_cons];split <;> simp only [List.length_cons] <;> omega
theorem zlC {s c:Int}{i:Nat}(hi:i<d.length)(hs:(cH d i).Station=s)(hc:c∈(cH d i).Channels):ep (d.map (i3 s c))<ep d:=
 zla d _ (fun x _=>List.length_filter_le _ _) ⟨cH d i,eh hi,zgO hc (by simp [hs])⟩
structure Bd (d:List GDomain):Prop where
 len:d.length≤100000
 ch:∀x∈d,x.Channels.length≤100000∧x.Channels.Nodup
theorem Bd.drop (h:Bd d){s c:Int}:Bd (d.map (i3 s c)):=by
 refine ⟨by rw [List.length_map];exact h.len,fun x hx=>?_⟩;obtain ⟨y,hy,rfl⟩:=List.mem_map.1 hx;exact ⟨Nat.le_trans (List.length_filter_le _ _) (h.ch y hy).1,(h.ch y hy).2.filter _⟩
theorem zkp {s c:Int}{i k:Nat}(hb:Bd d)(hi:i<d.length)(hk:k<(cH d i).Channels.length)(hc:cH (cH d i).Channels k=c):k≤(cH (d.map (i3 s c)) i).Channels.length:=by
 rw [gr hi];unfold i3;have hn:=(hb.ch _ (eh hi)).2;have e:(cH d i).Channels=(cH d i).Channels.take k++(cH d i).Channels.drop k:=(List.take_append_drop k _).symm
 have hf:((cH d i).Channels.take k).filter (fun q=>decide (¬(cH d i).Station=s)||decide (¬q=c))=(cH d i).Channels.take k:=by
  rw [List.filter_eq_self];intro q hq;simp only [Bool.or_eq_true,decide_eq_true_eq];refine .inr fun hqc=>?_;obtain ⟨j,hj,rfl⟩:=List.mem_iff_getElem.1 hq;simp only [List.length_take] at hj;rw [List.getElem_take] at hqc;rw [d4 hk] at hc;have:=(List.getElem_inj (h₀:=by omega) (h₁:=hk) hn).1 (hqc.trans hc.symm);omega
 show k≤((cH d i).Channels.filter _).length
 rw [e,List.filter_append,hf,List.length_append,List.length_take];omega
structure InvR (R:List GDomain→Int→Int→Bool) (d0 d:List GDomain):Prop where
 bd:Bd d
 sub:SubD d d0
 ord:OrdD d d0
 sup:∀S,zl1 R S→SubD S d0→SubD S d
theorem InvR.step {R:List GDomain→Int→Int→Bool}{d0:List GDomain}(hp:MonoR R)(h:InvR R d0 d){s c:Int}(hr:R d s c=true):InvR R d0 (d.map (i3 s c)):=
 ⟨h.bd.drop,drop_sub.trans h.sub,fun i hi=>by
  rw [gr (by rw [h.sub.1];exact hi)]
  exact (List.filter_sublist).trans (h.ord i hi),fun S hS hs=>zj7 hp hS (h.sup S hS hs) hr⟩
theorem zlK {R : List GDomain → Int → Int → Bool} {ρ : Type} {fuel : Nat} {d0 : List GDomain} {k2 : List GDomain → Option ρ} (post : Option ρ → Prop) (hp : MonoR R) (hb : Bd d0) (hf1 : d0.length < fuel) (hf2 : ep d0 + 1 < fuel) (hend : ∀ d, InvR R d0 d → zl1 R d → post (k2 d)) :
    post (iP (fun (next5 : (List GDomain × Bool) → Option ρ) (s5 : List GDomain × Bool) =>
      (bif s5.2 then
        iP (fun (next11 : (List GDomain × Bool × Int) → Option ρ) (s11 : List GDomain × Bool × Int) =>
          (bif decide (s11.2.2 < (s11.1.length : Int)) then
            ex (0 ≤ s11.2.2 ∧ s11.2.2 < (s11.1.length : Int)) <|
            kF (fun (k_17 : Nat) (next16 : (List GDomain × Bool) → Option ρ) (s16 : List GDomain × Bool) =>
              ex (0 ≤ s11.2.2 ∧ s11.2.2 < (s16.1.length : Int)) <|
              ex (0 ≤ (k_17 : Int) ∧ (k_17 : Int) < (((cH s16.1 s11.2.2.toNat).Channels).length : Int)) <|
              (bif (R s16.1 ((cH s16.1 s11.2.2.toNat).Station) (cH ((cH s16.1 s11.2.2.toNat).Channels) k_17)) then
                (zby s16.1 ((cH s16.1 s11.2.2.toNat).Station) (cH ((cH s16.1 s11.2.2.toNat).Channels) k_17)).bind fun r51 =>
                next16 (r51, true)
                else
                next16 (s16.1, s16.2)))
            (fun (s16 : List GDomain × Bool) =>
              next11 (s16.1, s16.2, (s11.2.2 + 1))) (((cH s11.1 s11.2.2.toNat).Channels).length) (s11.1, s11.2.1)
            else
            next5 (s11.1, s11.2.1))) fuel (s5.1, false, 0)
        else
        k2 s5.1)) fuel (d0, true)) := by
  refine zen (σ := List GDomain × Bool) (I := fun s => InvR R d0 s.1 ∧ (s.2 = false → zl1 R s.1)) (μ := fun s => ep s.1 + (bif s.2 then 1 else 0)) (post := post) ⟨⟨hb, .refl _, fun _ _ => List.Sublist.refl _, fun S _ h => h⟩, fun h => by cases h⟩ hf2 ?_; rintro ⟨d, again⟩ next ⟨hI, hA⟩ hn; dsimp only at hI hA hn ⊢
  cases again with
  | false =>
    rw [cond_false]; exact hend d hI (hA rfl)
  | true =>
    rw [cond_true]
    -- one sweep over the stations
    refine zen (σ := List GDomain × Bool × Int) (I := fun s => InvR R d0 s.1 ∧ 0 ≤ s.2.2 ∧ s.2.2 ≤ s.1.length ∧ s.1.length = d.length ∧ (s.2.1 = false → s.1 = d ∧ ∀ j : Nat, (j : Int) < s.2.2 → ∀ c ∈ (cH d j).Channels, R d (cH d j).Station c = false) ∧ (s.2.1 = true → ep s.1 < ep d)) (μ := fun s => (s.1.length - s.2.2).toNat) (post := post) ⟨hI, by simp, by simp, rfl, fun _ => ⟨rfl, fun j hj => absurd hj b2⟩, fun h => by cases h⟩ (by simp only [Int.sub_zero, Int.toNat_natCast]; rw [hI.sub.1]; exact hf1) ?_; rintro ⟨d1, ag, i⟩ next1 ⟨hI1, h0, h1, hl, hF, hT⟩ hn1; dsimp only at hI1 h0 h1 hl hF hT hn1 ⊢; by_cases hi : i < (d1.length : Int)
    · rw [decide_eq_true hi, cond_true, fo ⟨h0, hi⟩]; (have hin : i.toNat < d1.length := by omega); refine zkY (σ := List GDomain × Bool) (I := fun m s => InvR R d0 s.1 ∧ s.1.length = d.length ∧ m ≤ (cH s.1 i.toNat).Channels.length ∧ (s.2 = false → s.1 = d ∧ (∀ j : Nat, (j : Int) < i → ∀ c ∈ (cH d j).Channels, R d (cH d j).Station c = false) ∧ ∀ k, m ≤ k → k < (cH d i.toNat).Channels.length → R d (cH d i.toNat).Station (cH (cH d i.toNat).Channels k) = false) ∧ (s.2 = true → ep s.1 < ep d)) (post := post) ?_ ?_ ?_
      · dsimp only; refine ⟨hI1, hl, Nat.le_refl _, fun h => ?_, hT⟩; obtain ⟨h2, h3⟩ := hF h; subst h2; exact ⟨rfl, h3, fun k h4 h5 => absurd h5 a6⟩
      · rintro ⟨d2, ag2⟩ ⟨g1, g2, _, g4, g5⟩; dsimp only at g1 g2 g4 g5 ⊢; refine hn1 _ ⟨g1, by dsimp only; omega, by dsimp only; omega, g2, fun h => ?_, g5⟩ (by dsimp only; omega); dsimp only at h; obtain ⟨h2, h3, h4⟩ := g4 h; refine ⟨h2, fun j hj c hc => ?_⟩; dsimp only at hj; by_cases hji : (j : Int) < i
        · exact h3 j hji c hc
        · (obtain rfl : j = i.toNat := by omega); obtain ⟨k, hk, rfl⟩ := fW hc; exact h4 k (Nat.zero_le _) hk
      · rintro k ⟨d2, ag2⟩ nx hk ⟨g1, g2, g3, g4, g5⟩ hnx; dsimp only at g1 g2 g3 g4 g5 hnx ⊢; (have hid : i.toNat < d2.length := by omega); rw [fo ⟨h0, by omega⟩, fo ⟨by omega, by omega⟩]
        cases hr : R d2 (cH d2 i.toNat).Station (cH (cH d2 i.toNat).Channels k) with
        | true =>
          rw [cond_true, zl0 g1.bd.len (fun x hx => (g1.bd.ch x hx).1), Option.bind_some]; refine hnx _ ⟨g1.step hp hr, by dsimp only; rw [List.length_map]; exact g2, zkp g1.bd hid a6 rfl, (fun h => by cases h), fun _ => ?_⟩;dsimp only; have h6 := zlC hid rfl (eh (show k < (cH d2 i.toNat).Channels.length by omega))
          cases ag2 with
          | true => have := g5 rfl; omega
          | false => obtain ⟨h7, _⟩ := g4 rfl; subst h7; exact h6
        | false =>
          rw [cond_false]; refine hnx _ ⟨g1, g2, by dsimp only; omega, fun h => ?_, g5⟩; dsimp only at h ⊢; obtain ⟨h7, h8, h9⟩ := g4 h; refine ⟨h7, h8, fun q h10 h11 => ?_⟩; rcases Nat.lt_or_ge k q with h12 | h12
          · exact h9 q h12 h11
          · (obtain rfl : q = k := by omega); subst h7; exact hr
    · rw [decide_eq_false hi, cond_false]; (have hil : i = d1.length := by omega); refine hn (d1, ag) ⟨hI1, fun h => ?_⟩ ?_
      · dsimp only at h ⊢; obtain ⟨h2, h3⟩ := hF h; subst h2; intro x hx c hc; obtain ⟨j, hj, rfl⟩ := fW hx; exact h3 j a6 c hc
      · dsimp only
        cases ag with
        | true => have := hT rfl;simp only [cond_true]; omega
        | false => obtain ⟨h2, _⟩ := hF rfl; subst h2;simp only [cond_true, cond_false]; omega
theorem MonoR.rem (hp:WtP p):MonoR (ir p):=fun _ _ _ _ h hr=>zgk hp h hr
theorem zeM {fuel : Nat} {d0 : List GDomain} (hp : WtP p) (hb : Bd d0) (hf1 : d0.length < fuel) (hf2 : ep d0 + 1 < fuel) : ∃ r, za4 fuel p d0 = some r ∧ PropD p d0 r := by
  unfold za4;simp only [dO, Nat.sub_zero, zhN]; refine zlK (R := ir p) (k2 := fun d => dh (fun (i : Nat) (next : Unit → Option (List GDomain × Bool)) (_ : Unit) => bif decide ((((cH d i).Channels).length : Int) = 0) then some ([], false) else next ()) (fun (_ : Unit) => some (d, true)) d.length 0 ()) (fun o => ∃ r, o = some r ∧ PropD p d0 r) (.rem hp) hb hf1 hf2 fun d hI hA => ?_
  -- the end: is a domain empty?
  refine km (σ := Unit) (I := fun i _ => ∀ j, j < i → (cH d j).Channels ≠ []) (post := fun o => ∃ r, o = some r ∧ PropD p d0 r) (fun j hj => absurd hj (Nat.not_lt_zero j)) ?_ ?_
  · intro _ h; refine ⟨_, rfl, .inl ⟨rfl, ⟨fun x hx => ?_, hA⟩, ⟨hI.sub, hI.ord⟩, fun S hS => hI.sup S hS.calm⟩⟩; obtain ⟨i, hi, rfl⟩ := fW hx; exact h i hi
  · intro i _ nx hi h hnx; by_cases he : (cH d i).Channels = []
    · rw [he]; refine ⟨_, rfl, .inr ⟨rfl, fun S hS hs => ?_⟩⟩; have h2 := hI.sup S hS.calm hs; have h3 := (h2.2 i hi).2; rw [he] at h3; have hm := eh (show i < S.length by rw [h2.1]; exact hi); apply hS.ne _ hm
      cases hc : (cH S i).Channels with
      | nil => rfl
      | cons c r => exact absurd (h3 c (by rw [hc]; simp)) b2
    · have : ¬ ((cH d i).Channels.length : Int) = 0 := fun h0 => he (List.eq_nil_of_length_eq_zero a6); rw [decide_eq_false this, cond_false]; refine hnx () (fun j hj => ?_); rcases Nat.lt_or_ge j i with h1 | h1
      · exact h j h1
      · rw [show j = i by omega]; exact he
end
end Go.Proofs.YtgoeeefoinkepaaGreatDoor
