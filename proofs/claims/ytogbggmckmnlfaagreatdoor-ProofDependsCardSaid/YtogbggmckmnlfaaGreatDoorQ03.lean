/- Ya Yd Cb Cc: shortened and put together by squeeze.py. -/
import Derived.Test.YtogbggmckmnlfaaGreatDoorQ02
set_option maxRecDepth 100000
set_option maxHeartbeats 4000000
set_option linter.unusedVariables false
set_option linter.unusedSectionVars false
set_option linter.unusedSimpArgs false
namespace Go.Proofs.YtogbggmckmnlfaaGreatDoor
open Go.RowKit
structure GDomain where
 Station:Int
 Channels:List Int
deriving DecidableEq,Inhabited
def cJ (F:Frz)(c:List Value)(x:GDomain):Prop:=∃(v1:Value),c=[.int .i64 x.Station,v1]∧SlC F v1 1 (x.Channels.map eI)
theorem GDomain.mono {F G:Frz}{c:List Value}{x:GDomain}(hle:F.Le G)(h:cJ F c x):cJ G c x:=by
 obtain ⟨v1,h0,h2⟩:=h;exact ⟨v1,h0,h2.mono hle⟩
theorem GDomain.len {F:Frz}{c:List Value}{x:GDomain}(h:cJ F c x):c.length=2:=by
 obtain ⟨v1,h0,h2⟩:=h;subst h0;rfl
theorem GDomain.one {F:Frz}{c:List Value}{x:GDomain}(h:cJ F c x):OneCs c:=by
 obtain ⟨v1,h0,h2⟩:=h;subst h0;haveI:=h2.oneC
 infer_instance
theorem GDomain.c0 {F:Frz}{c:List Value}{x:GDomain}(h:cJ F c x):c[0]?=some (.int .i64 x.Station):=by
 obtain ⟨v1,h0,h2⟩:=h;subst h0;rfl
theorem GDomain.c1 {F:Frz}{c:List Value}{x:GDomain}(h:cJ F c x):c[1]?=some (cI c 1)∧SlC F (cI c 1) 1 (x.Channels.map eI):=by
 obtain ⟨v1,h0,h2⟩:=h;subst h0;exact ⟨rfl,h2⟩
theorem fE {F:Frz}{c:List Value}{x:GDomain}(h:cJ F c x):(c.drop 0).take 2=[.int .i64 x.Station,cI c 1]:=by
 obtain ⟨v1,h0,h2⟩:=h;subst h0;rfl
structure GPair where
 A:Int
 B:Int
 Offset:Int
 Low:Int
 High:Int
deriving DecidableEq,Inhabited
abbrev cN (x:GPair):List Value:=[.int .i64 x.A, .int .i64 x.B, .int .i64 x.Offset, .int .i64 x.Low, .int .i64 x.High]
theorem GPair.len (x:GPair):(cN x).length=5:=rfl
structure GLoad where
 To:Int
 From:Int
 Weight:Int
 Low:Int
 High:Int
deriving DecidableEq,Inhabited
abbrev cO (x:GLoad):List Value:=[.int .i64 x.To, .int .i64 x.From, .int .i64 x.Weight, .int .i64 x.Low, .int .i64 x.High]
theorem GLoad.len (x:GLoad):(cO x).length=5:=rfl
structure GCap where
 Station:Int
 Max:Int
 Low:Int
 High:Int
deriving DecidableEq,Inhabited
abbrev cR (x:GCap):List Value:=[.int .i64 x.Station, .int .i64 x.Max, .int .i64 x.Low, .int .i64 x.High]
theorem GCap.len (x:GCap):(cR x).length=4:=rfl
structure GRules where
 Pairs:List GPair
 Loads:List GLoad
 Caps:List GCap
deriving DecidableEq,Inhabited
def d8 (F:Frz)(c:List Value)(x:GRules):Prop:=∃(v0:Value) (v1:Value) (v2:Value),c=[v0,v1,v2]∧SlC F v0 5 (x.Pairs.map cN)∧SlC F v1 5 (x.Loads.map cO)∧SlC F v2 4 (x.Caps.map cR)
theorem GRules.mono {F G:Frz}{c:List Value}{x:GRules}(hle:F.Le G)(h:d8 F c x):d8 G c x:=by
 obtain ⟨v0,v1,v2,h0,h1,h2,h3⟩:=h;exact ⟨v0,v1,v2,h0,h1.mono hle,h2.mono hle,h3.mono hle⟩
theorem GRules.len {F:Frz}{c:List Value}{x:GRules}(h:d8 F c x):c.length=3:=by
 obtain ⟨v0,v1,v2,h0,h1,h2,h3⟩:=h;subst h0;rfl
theorem GRules.one {F:Frz}{c:List Value}{x:GRules}(h:d8 F c x):OneCs c:=by
 obtain ⟨v0,v1,v2,h0,h1,h2,h3⟩:=h;subst h0;haveI:=h1.oneC;haveI:=h2.oneC;haveI:=h3.oneC
 infer_instance
theorem GRules.c0 {F:Frz}{c:List Value}{x:GRules}(h:d8 F c x):c[0]?=some (cI c 0)∧SlC F (cI c 0) 5 (x.Pairs.map cN):=by
 obtain ⟨v0,v1,v2,h0,h1,h2,h3⟩:=h;subst h0;exact ⟨rfl,h1⟩
theorem GRules.c1 {F:Frz}{c:List Value}{x:GRules}(h:d8 F c x):c[1]?=some (cI c 1)∧SlC F (cI c 1) 5 (x.Loads.map cO):=by
 obtain ⟨v0,v1,v2,h0,h1,h2,h3⟩:=h;subst h0;exact ⟨rfl,h2⟩
theorem GRules.c2 {F:Frz}{c:List Value}{x:GRules}(h:d8 F c x):c[2]?=some (cI c 2)∧SlC F (cI c 2) 4 (x.Caps.map cR):=by
 obtain ⟨v0,v1,v2,h0,h1,h2,h3⟩:=h;subst h0;exact ⟨rfl,h3⟩
theorem GRules.form {F:Frz}{c:List Value}{x:GRules}(h:d8 F c x):(c.drop 0).take 3=[cI c 0,cI c 1,cI c 2]:=by
 obtain ⟨v0,v1,v2,h0,h1,h2,h3⟩:=h;subst h0;rfl
structure GProblem where
 Domains:List GDomain
 Rules:GRules
deriving DecidableEq,Inhabited
def dM (F:Frz)(c:List Value)(x:GProblem):Prop:=∃(v0:Value) (cs0:List (List Value)) (v1:Value) (v2:Value) (v3:Value),c=[v0,v1,v2,v3]∧SlD cJ F v0 2 cs0 x.Domains∧SlC F v1 5 (x.Rules.Pairs.map cN)∧SlC F v2 5 (x.Rules.Loads.map cO)∧SlC F v3 4 (x.Rules.Caps.map cR)
theorem GProblem.mono {F G:Frz}{c:List Value}{x:GProblem}(hle:F.Le G)(h:dM F c x):dM G c x:=by
 obtain ⟨v0,cs0,v1,v2,v3,h0,h1,h2,h3,h4⟩:=h;exact ⟨v0,cs0,v1,v2,v3,h0,SlD.mono (rep:=cJ) (fun _ _ _ _=>GDomain.mono) h1 hle,h2.mono hle,h3.mono hle,h4.mono hle⟩
theorem GProblem.len {F:Frz}{c:List Value}{x:GProblem}(h:dM F c x):c.length=4:=by
 obtain ⟨v0,cs0,v1,v2,v3,h0,h1,h2,h3,h4⟩:=h;subst h0;rfl
theorem GProblem.one {F:Frz}{c:List Value}{x:GProblem}(h:dM F c x):OneCs c:=by
 obtain ⟨v0,cs0,v1,v2,v3,h0,h1,h2,h3,h4⟩:=h;subst h0;haveI:=h1.1.oneC;haveI:=h2.oneC;haveI:=h3.oneC;haveI:=h4.oneC
 infer_instance
theorem GProblem.c0 {F:Frz}{c:List Value}{x:GProblem}(h:dM F c x):c[0]?=some (cI c 0)∧∃cs,SlD cJ F (cI c 0) 2 cs x.Domains:=by
 obtain ⟨v0,cs0,v1,v2,v3,h0,h1,h2,h3,h4⟩:=h;subst h0;exact ⟨rfl,cs0,h1⟩
theorem GProblem.c1 {F:Frz}{c:List Value}{x:GProblem}(h:dM F c x):c[1]?=some (cI c 1)∧SlC F (cI c 1) 5 (x.Rules.Pairs.map cN):=by
 obtain ⟨v0,cs0,v1,v2,v3,h0,h1,h2,h3,h4⟩:=h;subst h0;exact ⟨rfl,h2⟩
theorem GProblem.c2 {F:Frz}{c:List Value}{x:GProblem}(h:dM F c x):c[2]?=some (cI c 2)∧SlC F (cI c 2) 5 (x.Rules.Loads.map cO):=by
 obtain ⟨v0,cs0,v1,v2,v3,h0,h1,h2,h3,h4⟩:=h;subst h0;exact ⟨rfl,h3⟩
theorem GProblem.c3 {F:Frz}{c:List Value}{x:GProblem}(h:dM F c x):c[3]?=some (cI c 3)∧SlC F (cI c 3) 4 (x.Rules.Caps.map cR):=by
 obtain ⟨v0,cs0,v1,v2,v3,h0,h1,h2,h3,h4⟩:=h;subst h0;exact ⟨rfl,h4⟩
theorem GProblem.form {F:Frz}{c:List Value}{x:GProblem}(h:dM F c x):(c.drop 0).take 4=[cI c 0,cI c 1,cI c 2,cI c 3]:=by
 obtain ⟨v0,cs0,v1,v2,v3,h0,h1,h2,h3,h4⟩:=h;subst h0;rfl
structure GChoice where
 Station:Int
 Channel:Int
deriving DecidableEq,Inhabited
abbrev cU (x:GChoice):List Value:=[.int .i64 x.Station, .int .i64 x.Channel]
theorem GChoice.len (x:GChoice):(cU x).length=2:=rfl
def d4 (l:List Int)(n:Int):Bool:=
 dL (fun (_:Unit)=>
  false)
 (fun k1=>
  da (fun (i_3:Nat) (next2:Unit→Bool) (_:Unit)=>
   (bif decide ((cI l i_3)=n) then
    true
    else
    next2 ()))
  (fun (_:Unit)=>
   k1 ()) (l.length - 0) 0 ())
theorem zcf (F0:Frz)(w:World)(hF0:F0.At w)(l:List Int)(vl:Value)(hl:SlC F0 vl 1 (l.map eI))(n:Int):Calls Tryz.prog 21 #[vl, .int .i64 n] w fun e w'=>e= .returned (.bool (d4 l n))∧Below w.heap.size w w':=by
 obtain ⟨r,hk⟩:∃r,d4 l n=r:=⟨_,rfl⟩;rw [hk];unfold d4 at hk;haveI:=hl.oneC;obtain ⟨S0,F1,rfl,hS0,hp0⟩:=eX hF0;refine dv Tryz.func21 rfl rfl rfl hp0 ?_;refine q3R ?_;have hq:=em hk;clear hk;obtain ⟨k1,hk1,hk⟩:=hq; (try dsimp only at hk);refine dc (ι:=Unit) (fun z=>[]) (fun z=>[.fr F1]) (fun z=>k1 ()=r) ?_ ?_
 ·have hq:=fx hk;clear hk;obtain ⟨f2,kk2,hf2,hkk2,hk⟩:=hq;refine fm ?_;refine T.loop (ι:=Nat) (fun z=>[(0,vl),(1, .int .i64 n),(5, .int .i64 (z:Int))]) (fun z=>[.fr F1]) (fun z=>da f2 kk2 (l.length - z) z ()=r) (fun z=>l.length - z) 0 ?_ ?_ ?_ ?_
  ·exact hk
  ·exact q4m
  ·exact eQ
  ·rintro i_3 hk;refine mm ?_;refine q2k ?_;have hm8:l.length≤9223372036854775807:=(List.length_map _)▸hl.max;refine dD ?_;refine T.cond rfl (fun h4=>?_) (fun h4=>?_)
   ·have p4:=of_decide_eq_true h4;rw [fw a5] at hk;generalize hn2:da f2 kk2 (l.length - (i_3+1)) (i_3+1)=next2 at hk;rw [←hf2] at hk; (try dsimp only at hk);refine fv ?_;refine eh ?_;refine q3O ?_;refine jo ?_;refine T.cond rfl (fun h5=>?_) (fun h5=>?_)
    ·have p5:=of_decide_eq_true h5;replace hk:=dp hk h5;refine iu ?_;subst hk;exact d7
    ·have p5:=of_decide_eq_false h5;replace hk:=dn hk h5;refine im ?_;rw [←hn2] at hk;exact q4t
   ·have p4:=of_decide_eq_false h4;rw [fA a5,←hkk2] at hk; (try dsimp only at hk);refine eF ?_;exact kx
 ·rintro _ hk;rw [←hk1] at hk; (try dsimp only at hk);refine kd ?_;subst hk;exact d7
def iI (p:GProblem)(n:Int):Int:=
 dL (fun (_:Unit)=>
  (-1))
 (fun k1=>
  da (fun (i_3:Nat) (next2:Unit→Int) (_:Unit)=>
   (bif decide ((cI p.Domains i_3).Station=n) then
    (i_3:Int)
    else
    next2 ()))
  (fun (_:Unit)=>
   k1 ()) (p.Domains.length - 0) 0 ())
theorem zck (F0:Frz)(w:World)(hF0:F0.At w)(p:GProblem)(vp_0:Value)(cp_0:List (List Value))(hp_0:SlD cJ F0 vp_0 2 cp_0 p.Domains)(vp_1:Value)(hp_1:SlC F0 vp_1 5 (p.Rules.Pairs.map cN))(vp_2:Value)(hp_2:SlC F0 vp_2 5 (p.Rules.Loads.map cO))(vp_3:Value)(hp_3:SlC F0 vp_3 4 (p.Rules.Caps.map cR))(n:Int):Calls Tryz.prog 22 #[.agg [vp_0,vp_1,vp_2,vp_3].toArray, .int .i64 n] w fun e w'=>e= .returned (.int .i64 (iI p n))∧Below w.heap.size w w':=by
 obtain ⟨r,hk⟩:∃r,iI p n=r:=⟨_,rfl⟩;rw [hk];unfold iI at hk;haveI:=hp_0.1.oneC;haveI:=hp_1.oneC;haveI:=hp_2.oneC;haveI:=hp_3.oneC;obtain ⟨S0,F1,rfl,hS0,hp0⟩:=eX hF0;refine dv Tryz.func22 rfl rfl rfl hp0 ?_;refine iW ?_;rintro _ _ ⟨g2,rfl,rfl⟩;refine jl ?_;refine dD ?_;have hq:=em hk;clear hk;obtain ⟨k1,hk1,hk⟩:=hq; (try dsimp only at hk);refine dc (ι:=Unit) (fun z=>[]) (fun z=>[.fr F1]) (fun z=>k1 ()=r) ?_ ?_
 ·have hq:=fx hk;clear hk;obtain ⟨f2,kk2,hf2,hkk2,hk⟩:=hq;refine fm ?_;refine T.loop (ι:=Nat) (fun z=>[(1, .int .i64 n),(2, .pointer (some ⟨g2,0,none⟩)),(5, .int .i64 (z:Int))]) (fun z=>[.row g2 29 [vp_0,vp_1,vp_2,vp_3], .fr F1]) (fun z=>da f2 kk2 (p.Domains.length - z) z ()=r) (fun z=>p.Domains.length - z) 0 ?_ ?_ ?_ ?_
  ·exact hk
  ·exact q4m
  ·exact eQ
  ·rintro i_3 hk;refine q2Y ?_;refine q2o ?_;have hm9:p.Domains.length≤9223372036854775807:=hp_0.2.1▸hp_0.1.max;refine dD ?_;refine T.cond rfl (fun h4=>?_) (fun h4=>?_)
   ·have p4:=of_decide_eq_true h4;rw [fw a5] at hk;generalize hn2:da f2 kk2 (p.Domains.length - (i_3+1)) (i_3+1)=next2 at hk;rw [←hf2] at hk; (try dsimp only at hk);refine q3S ?_;refine cK (dg (i:=i_3) rfl rfl rfl hp_0.1 hp_0.2.1 rfl a5) ?_;refine cK (gj rfl rfl hp_0.1 hp_0.2.1 a5) ?_;refine cK (dT 1 (i:=i_3) (j:=0) rfl rfl rfl hp_0.1 hp_0.2.1 a5 rfl (GDomain.c0 (hp_0.2.2 i_3 a5))) ?_;refine jo ?_;refine T.cond rfl (fun h5=>?_) (fun h5=>?_)
    ·have p5:=of_decide_eq_true h5;replace hk:=dp hk h5;refine jX ?_;refine q3b ?_;subst hk;exact d7
    ·have p5:=of_decide_eq_false h5;replace hk:=dn hk h5;refine im ?_;rw [←hn2] at hk;exact q4t
   ·have p4:=of_decide_eq_false h4;rw [fA a5,←hkk2] at hk; (try dsimp only at hk);refine eF ?_;refine q2N ?_;exact kx
 ·rintro _ hk;rw [←hk1] at hk; (try dsimp only at hk);refine kd ?_;subst hk;exact d7
def jC (n:Int):Bool:=
 ((decide (0≤n))&&(decide (n≤511)))
theorem zbf (F0:Frz)(w:World)(hF0:F0.At w)(n:Int):Calls Tryz.prog 56 #[.int .i64 n] w fun e w'=>e= .returned (.bool (jC n))∧Below w.heap.size w w':=by
 obtain ⟨r,hk⟩:∃r,jC n=r:=⟨_,rfl⟩;rw [hk];unfold jC at hk;obtain ⟨S0,F1,rfl,hS0,hp0⟩:=eX hF0;refine dv Tryz.func56 rfl rfl rfl hp0 ?_;refine eO ?_;refine dc (ι:=Unit) (fun z=>[(2, .bool ((decide (0≤n))&&(decide (n≤511))))]) (fun z=>[.fr F1]) (fun z=>True) ?_ ?_
 ·refine eS ?_;refine eM ?_;refine dw rfl rfl rfl (fun h1=>?_) (fun h1=>?_)
  ·have p1:=of_decide_eq_true h1;refine ku ?_;exact q4u
  ·have p1:=of_decide_eq_false h1;refine ku ?_;exact q4v
 ·rintro _ _;refine T.ret ?_;subst hk;exact d7
def za8 (l:List GChoice):Bool:=
 dL (fun (_:Unit)=>
  true)
 (fun k1=>
  da (fun (i_3:Nat) (next2:Unit→Bool) (_:Unit)=>
   (bif ((((!(jC ((cI l i_3).Station)))||(decide ((cI l i_3).Channel<2)))||(decide (51<(cI l i_3).Channel)))||((decide (0<(i_3:Int)))&&(decide ((cI l i_3).Station≤(cI l (((i_3:Int) - 1).toNat)).Station)))) then
    false
    else
    next2 ()))
  (fun (_:Unit)=>
   k1 ()) (l.length - 0) 0 ())
theorem zfH (F0:Frz)(w:World)(hF0:F0.At w)(l:List GChoice)(vl:Value)(hl:SlC F0 vl 2 (l.map cU)):Calls Tryz.prog 45 #[vl] w fun e w'=>e= .returned (.bool (za8 l))∧Below w.heap.size w w':=by
 obtain ⟨r,hk⟩:∃r,za8 l=r:=⟨_,rfl⟩;rw [hk];unfold za8 at hk;haveI:=hl.oneC;obtain ⟨S0,F1,rfl,hS0,hp0⟩:=eX hF0;refine dv Tryz.func45 rfl rfl rfl hp0 ?_;refine q3R ?_;have hq:=em hk;clear hk;obtain ⟨k1,hk1,hk⟩:=hq; (try dsimp only at hk);refine dc (ι:=Unit) (fun z=>[]) (fun z=>[.fr F1]) (fun z=>k1 ()=r) ?_ ?_
 ·have hq:=fx hk;clear hk;obtain ⟨f2,kk2,hf2,hkk2,hk⟩:=hq;refine fm ?_;refine T.loop (ι:=Nat) (fun z=>[(0,vl),(3, .int .i64 (z:Int))]) (fun z=>[.fr F1]) (fun z=>da f2 kk2 (l.length - z) z ()=r) (fun z=>l.length - z) 0 ?_ ?_ ?_ ?_
  ·exact hk
  ·exact mO
  ·exact eQ
  ·rintro i_3 hk;refine mm ?_;refine q2k ?_;have hm6:l.length≤9223372036854775807:=(List.length_map _)▸hl.max;refine dD ?_;refine T.cond rfl (fun h4=>?_) (fun h4=>?_)
   ·have p4:=of_decide_eq_true h4;rw [fw a5] at hk;generalize hn2:da f2 kk2 (l.length - (i_3+1)) (i_3+1)=next2 at hk;rw [←hf2] at hk; (try dsimp only at hk);refine j1 ?_;refine dc (ι:=Unit) (fun z=>[(0,vl),(3, .int .i64 (i_3:Int)),(50, .bool ((((!(jC ((cI l i_3).Station)))||(decide ((cI l i_3).Channel<2)))||(decide (51<(cI l i_3).Channel)))||((decide (0<(i_3:Int)))&&(decide ((cI l i_3).Station≤(cI l (((i_3:Int) - 1).toNat)).Station)))))]) (fun z=>[.fr F1]) (fun z=>True) ?_ ?_
    ·refine dI (sN 0 5 (.eff 5 (sN 6 34 (.still 40 .done)))) _ a7 (List.Sublist.refl _) ?_;refine q1o ?_;refine q2l ?_;refine q2q ?_;refine dy ?_;refine c6 rfl (Wt.none) rfl rfl (cL rfl rfl rfl (fun w hw=>zbf _ w (hw.fr (i:=0) rfl) ((cI l i_3).Station))) ?_;refine mQ ?_;refine dB rfl rfl rfl rfl (fun h5=>?_) (fun h5=>?_)
     ·refine TS.run 33 rfl ?_;refine fc ?_;exact cS () trivial (.c (.c (.b (iC (iC (iC h5))).symm .nil))) (List.Sublist.refl _)
     ·refine q1o ?_;refine q2l ?_;refine cP rfl (d6 0 (i:=i_3) (j:=1) rfl rfl rfl hl a5) ?_;refine gp ?_;refine dB rfl rfl rfl rfl (fun h6=>?_) (fun h6=>?_)
      ·have p6:=of_decide_eq_true h6;refine TS.run 25 rfl ?_;refine fc ?_;exact cS () trivial (.c (.c (.b (iC (iC (jM h5 h6))).symm .nil))) (List.Sublist.refl _)
      ·have p6:=of_decide_eq_false h6;refine q1o ?_;refine q2l ?_;refine cP rfl (d6 0 (i:=i_3) (j:=1) rfl rfl rfl hl a5) ?_;refine gp ?_;refine dB rfl rfl rfl rfl (fun h7=>?_) (fun h7=>?_)
       ·have p7:=of_decide_eq_true h7;refine TS.run 17 rfl ?_;refine fc ?_;exact cS () trivial (.c (.c (.b (iC (jM (jM h5 h6) h7)).symm .nil))) (List.Sublist.refl _)
       ·have p7:=of_decide_eq_false h7;refine gp ?_;refine dB rfl rfl rfl rfl (fun h8=>?_) (fun h8=>?_)
        ·have p8:=of_decide_eq_true h8;refine gM ?_;refine q13 ?_;refine q2l ?_;refine q2X ?_;refine q2l ?_;refine q2q ?_;refine gp ?_;refine fc ?_;exact cS () trivial (.c (.c (.b (Eq.trans (l5 h8) (gN (jM (jM h5 h6) h7))) .nil))) (List.Sublist.refl _)
        ·have p8:=of_decide_eq_false h8;refine TS.run 14 rfl ?_;refine fc ?_;exact cS () trivial (.c (.c (.b (jM (jM (jM h5 h6) h7) (jr h8)).symm .nil))) (List.Sublist.refl _)
    ·rintro _ _;refine T.cond rfl (fun h9=>?_) (fun h9=>?_)
     ·replace hk:=dp hk h9;refine iu ?_;subst hk;exact d7
     ·have p9:=h9; (try simp only [cW] at p9);replace hk:=dn hk h9;refine im ?_;rw [←hn2] at hk;exact K.next (i_3+1) hk a5 (.c (.c .nil)) (List.Sublist.refl _)
   ·have p4:=of_decide_eq_false h4;rw [fA a5,←hkk2] at hk; (try dsimp only at hk);refine eF ?_;exact kx
 ·rintro _ hk;rw [←hk1] at hk; (try dsimp only at hk);refine kd ?_;subst hk;exact d7
def zbU (a:List Int)(b:List Int):Bool:=
 (bif decide (¬(a.length:Int)=(b.length:Int)) then
  false
  else
  dL (fun (_:Unit)=>
   true)
  (fun k2=>
   da (fun (i_4:Nat) (next3:Unit→Bool) (_:Unit)=>
    (bif decide (¬(cI a i_4)=(cI b i_4)) then
     false
     else
     next3 ()))
   (fun (_:Unit)=>
    k2 ()) (a.length - 0) 0 ()))
theorem zfQ (F0:Frz)(w:World)(hF0:F0.At w)(a:List Int)(va:Value)(ha:SlC F0 va 1 (a.map eI))(b:List Int)(vb:Value)(hb:SlC F0 vb 1 (b.map eI)):Calls Tryz.prog 52 #[va,vb] w fun e w'=>e= .returned (.bool (zbU a b))∧Below w.heap.size w w':=by
 obtain ⟨r,hk⟩:∃r,zbU a b=r:=⟨_,rfl⟩;rw [hk];unfold zbU at hk;haveI:=ha.oneC;haveI:=hb.oneC;obtain ⟨S0,F1,rfl,hS0,hp0⟩:=eX hF0;refine dv Tryz.func52 rfl rfl rfl hp0 ?_;refine i5 ?_;refine q3y ?_;have hm7:a.length≤9223372036854775807:=(List.length_map _)▸ha.max;refine dd ?_;refine cK (dh rfl rfl hb (List.length_map _)) ?_;have hm9:b.length≤9223372036854775807:=(List.length_map _)▸hb.max;refine dD ?_;refine T.cond rfl (fun h1=>?_) (fun h1=>?_)
 ·have p1:=of_decide_eq_true h1;replace hk:=dp hk h1;refine ik ?_;subst hk;exact d7
 ·have p1:=of_decide_eq_false h1;replace hk:=dn hk h1;refine jx ?_;refine dD ?_;have hq:=em hk;clear hk;obtain ⟨k2,hk2,hk⟩:=hq; (try dsimp only at hk);refine dc (ι:=Unit) (fun z=>[]) (fun z=>[.fr F1]) (fun z=>k2 ()=r) ?_ ?_
  ·have hq:=fx hk;clear hk;obtain ⟨f3,kk3,hf3,hkk3,hk⟩:=hq;refine fm ?_;refine T.loop (ι:=Nat) (fun z=>[(0,va),(1,vb),(5, .int .i64 (z:Int))]) (fun z=>[.fr F1]) (fun z=>da f3 kk3 (a.length - z) z ()=r) (fun z=>a.length - z) 0 ?_ ?_ ?_ ?_
   ·exact hk
   ·exact q4m
   ·exact eQ
   ·rintro i_4 hk;refine mm ?_;refine q3y ?_;refine dD ?_;refine T.cond rfl (fun h5=>?_) (fun h5=>?_)
    ·have p5:=of_decide_eq_true h5;rw [fw a5] at hk;generalize hn3:da f3 kk3 (a.length - (i_4+1)) (i_4+1)=next3 at hk;rw [←hf3] at hk; (try dsimp only at hk);refine j1 ?_;refine q1B ?_;refine gM ?_;refine cP rfl (dg (i:=i_4) rfl rfl rfl ha (List.length_map _) rfl a5) ?_;refine cP rfl (d6 0 (i:=i_4) (j:=0) rfl rfl rfl ha a5) ?_;refine gM ?_;refine cP rfl (dg (i:=i_4) rfl rfl rfl hb (List.length_map _) rfl a5) ?_;refine cP rfl (d6 0 (i:=i_4) (j:=0) rfl rfl rfl hb a5) ?_;refine j9 ?_;refine T.cond rfl (fun h6=>?_) (fun h6=>?_)
     ·have p6:=of_decide_eq_true h6;replace hk:=dp hk h6;refine iu ?_;subst hk;exact d7
     ·have p6:=of_decide_eq_false h6;replace hk:=dn hk h6;refine im ?_;rw [←hn3] at hk;exact q4K
    ·have p5:=of_decide_eq_false h5;rw [fA a5,←hkk3] at hk; (try dsimp only at hk);refine eF ?_;exact kx
  ·rintro _ hk;rw [←hk2] at hk; (try dsimp only at hk);refine kd ?_;subst hk;exact d7
def zcd (a:List GChoice)(b:List GChoice):Bool:=
 (bif decide (¬(a.length:Int)=(b.length:Int)) then
  false
  else
  dL (fun (_:Unit)=>
   true)
  (fun k2=>
   da (fun (i_4:Nat) (next3:Unit→Bool) (_:Unit)=>
    (bif !(decide ((cI a i_4).Station=(cI b i_4).Station)&&decide ((cI a i_4).Channel=(cI b i_4).Channel)) then
     false
     else
     next3 ()))
   (fun (_:Unit)=>
    k2 ()) (a.length - 0) 0 ()))
theorem zfT (F0:Frz)(w:World)(hF0:F0.At w)(a:List GChoice)(va:Value)(ha:SlC F0 va 2 (a.map cU))(b:List GChoice)(vb:Value)(hb:SlC F0 vb 2 (b.map cU)):Calls Tryz.prog 84 #[va,vb] w fun e w'=>e= .returned (.bool (zcd a b))∧Below w.heap.size w w':=by
 obtain ⟨r,hk⟩:∃r,zcd a b=r:=⟨_,rfl⟩;rw [hk];unfold zcd at hk;haveI:=ha.oneC;haveI:=hb.oneC;obtain ⟨S0,F1,rfl,hS0,hp0⟩:=eX hF0;refine dv Tryz.func84 rfl rfl rfl hp0 ?_;refine i5 ?_;refine q3y ?_;have hm7:a.length≤9223372036854775807:=(List.length_map _)▸ha.max;refine dd ?_;refine cK (dh rfl rfl hb (List.length_map _)) ?_;have hm9:b.length≤9223372036854775807:=(List.length_map _)▸hb.max;refine dD ?_;refine T.cond rfl (fun h1=>?_) (fun h1=>?_)
 ·have p1:=of_decide_eq_true h1;replace hk:=dp hk h1;refine ik ?_;subst hk;exact d7
 ·have p1:=of_decide_eq_false h1;replace hk:=dn hk h1;refine jx ?_;refine dD ?_;have hq:=em hk;clear hk;obtain ⟨k2,hk2,hk⟩:=hq; (try dsimp only at hk);refine dc (ι:=Unit) (fun z=>[]) (fun z=>[.fr F1]) (fun z=>k2 ()=r) ?_ ?_
  ·have hq:=fx hk;clear hk;obtain ⟨f3,kk3,hf3,hkk3,hk⟩:=hq;refine fm ?_;refine T.loop (ι:=Nat) (fun z=>[(0,va),(1,vb),(5, .int .i64 (z:Int))]) (fun z=>[.fr F1]) (fun z=>da f3 kk3 (a.length - z) z ()=r) (fun z=>a.length - z) 0 ?_ ?_ ?_ ?_
   ·exact hk
   ·exact q4m
   ·exact eQ
   ·rintro i_4 hk;refine mm ?_;refine q3y ?_;refine dD ?_;refine T.cond rfl (fun h5=>?_) (fun h5=>?_)
    ·have p5:=of_decide_eq_true h5;rw [fw a5] at hk;generalize hn3:da f3 kk3 (a.length - (i_4+1)) (i_4+1)=next3 at hk;rw [←hf3] at hk; (try dsimp only at hk);refine j1 ?_;refine q1B ?_;refine gM ?_;refine cP rfl (dg (i:=i_4) rfl rfl rfl ha (List.length_map _) rfl a5) ?_;refine cP rfl (ep 0 (i:=i_4) rfl rfl rfl ha a5) ?_;refine gM ?_;refine cP rfl (dg (i:=i_4) rfl rfl rfl hb (List.length_map _) rfl a5) ?_;refine cP rfl (ep 0 (i:=i_4) rfl rfl rfl hb a5) ?_;refine cP rfl (Yv.cA a7 rfl rfl rfl) ?_;refine fc ?_;refine K.seq ?_;refine T.cond rfl (fun h6=>?_) (fun h6=>?_)
     ·replace hk:=dp hk h6;refine iu ?_;subst hk;exact d7
     ·have p6:=h6; (try simp only [cW] at p6);replace hk:=dn hk h6;refine im ?_;rw [←hn3] at hk;exact q4K
    ·have p5:=of_decide_eq_false h5;rw [fA a5,←hkk3] at hk; (try dsimp only at hk);refine eF ?_;exact kx
  ·rintro _ hk;rw [←hk2] at hk; (try dsimp only at hk);refine kd ?_;subst hk;exact d7
def mB (low:Int)(high:Int):Bool:=
 (((decide (2≤low))&&(decide (low≤high)))&&(decide (high≤51)))
theorem zep (F0:Frz)(w:World)(hF0:F0.At w)(low:Int)(high:Int):Calls Tryz.prog 88 #[.int .i64 low, .int .i64 high] w fun e w'=>e= .returned (.bool (mB low high))∧Below w.heap.size w w':=by
 obtain ⟨r,hk⟩:∃r,mB low high=r:=⟨_,rfl⟩;rw [hk];unfold mB at hk;obtain ⟨S0,F1,rfl,hS0,hp0⟩:=eX hF0;refine dv Tryz.func88 rfl rfl rfl hp0 ?_;refine eO ?_;refine dc (ι:=Unit) (fun z=>[(4, .bool (((decide (2≤low))&&(decide (low≤high)))&&(decide (high≤51))))]) (fun z=>[.fr F1]) (fun z=>True) ?_ ?_
 ·refine eS ?_;refine eM ?_;refine dw rfl rfl rfl (fun h1=>?_) (fun h1=>?_)
  ·have p1:=of_decide_eq_true h1;refine TL.run 5 rfl ?_;refine dw rfl rfl rfl (fun h2=>?_) (fun h2=>?_)
   ·have p2:=of_decide_eq_true h2;refine ku ?_;exact cS () trivial (.b (l5 (ze6 h1 h2)) .nil) (List.Sublist.refl _)
   ·have p2:=of_decide_eq_false h2;refine ku ?_;exact cS () trivial (.b (jr (ze6 h1 h2)).symm .nil) (List.Sublist.refl _)
  ·have p1:=of_decide_eq_false h1;refine TL.run 9 rfl ?_;refine fG ?_;exact cS () trivial (.b (jr (jr h1)).symm .nil) (List.Sublist.refl _)
 ·rintro _ _;refine T.ret ?_;subst hk;exact d7
def ly (a:List Int)(b:List Int):Option Bool:=
 dL (fun (_:Unit)=>
  some false)
 (fun k1=>
  da (fun (i_3:Nat) (next2:Unit→Option Bool) (_:Unit)=>
   eg (0≤(i_3:Int)∧(i_3:Int)<(b.length:Int)) <|
   (bif decide (¬(cI a i_3)=(cI b i_3)) then
    some (decide ((cI a i_3)<(cI b i_3)))
    else
    next2 ()))
  (fun (_:Unit)=>
   k1 ()) (a.length - 0) 0 ())
theorem zen (F0:Frz)(w:World)(hF0:F0.At w)(a:List Int)(va:Value)(ha:SlC F0 va 1 (a.map eI))(b:List Int)(vb:Value)(hb:SlC F0 vb 1 (b.map eI))(r:Bool)(hr:ly a b=some r):Calls Tryz.prog 89 #[va,vb] w fun e w'=>e= .returned (.bool r)∧Below w.heap.size w w':=by
 have hk:=hr;unfold ly at hk;haveI:=ha.oneC;haveI:=hb.oneC;obtain ⟨S0,F1,rfl,hS0,hp0⟩:=eX hF0;refine dv Tryz.func89 rfl rfl rfl hp0 ?_;refine q3R ?_;have hq:=em hk;clear hk;obtain ⟨k1,hk1,hk⟩:=hq; (try dsimp only at hk);refine dc (ι:=Unit) (fun z=>[]) (fun z=>[.fr F1]) (fun z=>k1 ()=some r) ?_ ?_
 ·have hq:=fx hk;clear hk;obtain ⟨f2,kk2,hf2,hkk2,hk⟩:=hq;refine fm ?_;refine T.loop (ι:=Nat) (fun z=>[(0,va),(1,vb),(5, .int .i64 (z:Int))]) (fun z=>[.fr F1]) (fun z=>da f2 kk2 (a.length - z) z ()=some r) (fun z=>a.length - z) 0 ?_ ?_ ?_ ?_
  ·exact hk
  ·exact q4m
  ·exact eQ
  ·rintro i_3 hk;refine mm ?_;refine q3y ?_;have hm8:a.length≤9223372036854775807:=(List.length_map _)▸ha.max;refine dD ?_;refine T.cond rfl (fun h4=>?_) (fun h4=>?_)
   ·have p4:=of_decide_eq_true h4;rw [fw a5] at hk;generalize hn2:da f2 kk2 (a.length - (i_3+1)) (i_3+1)=next2 at hk;rw [←hf2] at hk; (try dsimp only at hk);refine j1 ?_;have hq:(0≤(i_3:Int)∧(i_3:Int)<(b.length:Int))∧_:=fQ hk;clear hk;obtain ⟨g18,hk⟩:=hq; (try dsimp only at hk);refine q1B ?_;refine q16 ?_;refine j9 ?_;refine T.cond rfl (fun h5=>?_) (fun h5=>?_)
    ·have p5:=of_decide_eq_true h5;replace hk:=dp hk h5;refine T.seq ?_;refine dI (sN 0 9 (.still 9 .done)) _ a7 (List.Sublist.refl _) ?_;refine q16 ?_;refine gM ?_;refine fc ?_;refine K.seq (T.ret (fi (dX (dX (fi (dX ?_))))));obtain rfl:=Option.some.inj hk;exact d7
    ·have p5:=of_decide_eq_false h5;replace hk:=dn hk h5;refine im ?_;rw [←hn2] at hk;exact q4t
   ·have p4:=of_decide_eq_false h4;rw [fA a5,←hkk2] at hk; (try dsimp only at hk);refine eF ?_;exact kx
 ·rintro _ hk;rw [←hk1] at hk; (try dsimp only at hk);refine kd ?_;obtain rfl:=Option.some.inj hk;exact d7
def kC (x_:GPair):List Int:=
 [x_.A,x_.B,x_.Offset,x_.Low,x_.High]
theorem zeE (F0:Frz)(w:World)(hF0:F0.At w)(x_:GPair):Calls Tryz.prog 90 #[.agg [.int .i64 x_.A, .int .i64 x_.B, .int .i64 x_.Offset, .int .i64 x_.Low, .int .i64 x_.High].toArray] w fun e w'=>∃(y:Value) (G:Frz),(SlC G y 1 ((kC x_).map eI))∧e= .returned (y)∧Fx F0 w G w':=by
 obtain ⟨r,hk⟩:∃r,kC x_=r:=⟨_,rfl⟩;rw [hk];unfold kC at hk;obtain ⟨S0,F1,rfl,hS0,hp0⟩:=eX hF0;refine dv Tryz.func90 rfl rfl rfl hp0 ?_;refine iW ?_;rintro _ _ ⟨g1,rfl,rfl⟩;refine gy ?_;refine q2V ?_;refine ef ?_;refine ef ?_;refine j2 ?_;rintro _ _ ⟨g13,rfl,rfl⟩;refine fo ?_;refine q3f ?_;rintro F2 ⟨le1_2,hz2⟩;refine iG ?_;have hf2:SlC F2.toFrz (.slice (some ⟨g13,0,none⟩) 5 5) 1 ([x_.A,x_.B,x_.Offset,x_.Low,x_.High].map eI):=(SlK.lit hz2 rfl (Nat.le_refl _) a6).toF (xs:=[x_.A,x_.B,x_.Offset,x_.Low,x_.High]) rfl (fun _=>rfl);subst hk;exact q4U
def kF (x_:GLoad):List Int:=
 [x_.To,x_.From,x_.Weight,x_.Low,x_.High]
theorem zeF (F0:Frz)(w:World)(hF0:F0.At w)(x_:GLoad):Calls Tryz.prog 91 #[.agg [.int .i64 x_.To, .int .i64 x_.From, .int .i64 x_.Weight, .int .i64 x_.Low, .int .i64 x_.High].toArray] w fun e w'=>∃(y:Value) (G:Frz),(SlC G y 1 ((kF x_).map eI))∧e= .returned (y)∧Fx F0 w G w':=by
 obtain ⟨r,hk⟩:∃r,kF x_=r:=⟨_,rfl⟩;rw [hk];unfold kF at hk;obtain ⟨S0,F1,rfl,hS0,hp0⟩:=eX hF0;refine dv Tryz.func91 rfl rfl rfl hp0 ?_;refine iW ?_;rintro _ _ ⟨g1,rfl,rfl⟩;refine gy ?_;refine q2V ?_;refine ef ?_;refine ef ?_;refine j2 ?_;rintro _ _ ⟨g13,rfl,rfl⟩;refine fo ?_;refine q3f ?_;rintro F2 ⟨le1_2,hz2⟩;refine iG ?_;have hf2:SlC F2.toFrz (.slice (some ⟨g13,0,none⟩) 5 5) 1 ([x_.To,x_.From,x_.Weight,x_.Low,x_.High].map eI):=(SlK.lit hz2 rfl (Nat.le_refl _) a6).toF (xs:=[x_.To,x_.From,x_.Weight,x_.Low,x_.High]) rfl (fun _=>rfl);subst hk;exact q4U
def kw (x_:GCap):List Int:=
 [x_.Station,x_.Max,x_.Low,x_.High]
theorem zfh (F0:Frz)(w:World)(hF0:F0.At w)(x_:GCap):Calls Tryz.prog 92 #[.agg [.int .i64 x_.Station, .int .i64 x_.Max, .int .i64 x_.Low, .int .i64 x_.High].toArray] w fun e w'=>∃(y:Value) (G:Frz),(SlC G y 1 ((kw x_).map eI))∧e= .returned (y)∧Fx F0 w G w':=by
 obtain ⟨r,hk⟩:∃r,kw x_=r:=⟨_,rfl⟩;rw [hk];unfold kw at hk;obtain ⟨S0,F1,rfl,hS0,hp0⟩:=eX hF0;refine dv Tryz.func92 rfl rfl rfl hp0 ?_;refine iW ?_;rintro _ _ ⟨g1,rfl,rfl⟩;refine gy ?_;refine q2V ?_;refine ef ?_;refine j2 ?_;rintro _ _ ⟨g11,rfl,rfl⟩;refine fo ?_;refine q3f ?_;rintro F2 ⟨le1_2,hz2⟩;refine iG ?_;have hf2:SlC F2.toFrz (.slice (some ⟨g11,0,none⟩) 4 4) 1 ([x_.Station,x_.Max,x_.Low,x_.High].map eI):=(SlK.lit hz2 rfl (Nat.le_refl _) a6).toF (xs:=[x_.Station,x_.Max,x_.Low,x_.High]) rfl (fun _=>rfl);subst hk;exact cX rfl rfl (fun w' hw=>⟨(.slice (some ⟨g11,0,none⟩) 4 4),F2.toFrz,hf2,rfl,fN hw (i:=1) rfl hS0 le1_2⟩)
def zcT (d:List GDomain)(s:Int)(c:Int):Option (List GDomain):=
 dL (fun (out_1:List GDomain)=>
  some out_1)
 (fun k2=>
  da (fun (i_5:Nat) (next4:List GDomain→Option (List GDomain)) (out_3:List GDomain)=>
   eg (dl ([]++(cI d i_5).Channels).length 8) <|
   dL (fun (s9:Int×List Int)=>
    eg (dl (out_3++[(GDomain.mk s9.1 s9.2)]).length 32) <|
    next4 (out_3++[(GDomain.mk s9.1 s9.2)]))
   (fun k9=>
    (bif decide ((cI d i_5).Station=s) then
     (bif (d4 ((cI d i_5).Channels) c) then
      k9 ((cI d i_5).Station,[c])
      else
      k9 ((cI d i_5).Station,[]))
     else
     k9 ((cI d i_5).Station,([]++(cI d i_5).Channels)))))
  (fun (out_3:List GDomain)=>
   k2 out_3) (d.length - 0) 0 [])
def zb2 (d:List GDomain)(s:Int)(c:Int):Option (List GDomain):=
 dL (fun (out_1:List GDomain)=>
  some out_1)
 (fun k2=>
  da (fun (i_5:Nat) (next4:List GDomain→Option (List GDomain)) (out_3:List GDomain)=>
   dL (fun (s9:Int×List Int)=>
    eg (dl (out_3++[(GDomain.mk s9.1 s9.2)]).length 32) <|
    next4 (out_3++[(GDomain.mk s9.1 s9.2)]))
   (fun k9=>
    da (fun (k_13:Nat) (next12:(Int×List Int)→Option (List GDomain)) (s12:Int×List Int)=>
     (bif ((decide (¬(cI d i_5).Station=s))||(decide (¬(cI ((cI d i_5).Channels) k_13)=c))) then
      eg (dl (s12.2++[(cI ((cI d i_5).Channels) k_13)]).length 8) <|
      next12 (s12.1,(s12.2++[(cI ((cI d i_5).Channels) k_13)]))
      else
      next12 (s12.1,s12.2)))
    (fun (s12:Int×List Int)=>
     k9 (s12.1,s12.2)) ((((cI d i_5).Channels).length) - 0) 0 ((cI d i_5).Station,[])))
  (fun (out_3:List GDomain)=>
   k2 out_3) (d.length - 0) 0 [])
def zbJ (low:Int)(c:Int)(high:Int):Bool:=
 ((decide (low≤c))&&(decide (c≤high)))
def zcj (d:List GDomain)(station:Int)(channel:Int):Bool:=
 dL (fun (_:Unit)=>
  true)
 (fun k1=>
  da (fun (i_3:Nat) (next2:Unit→Bool) (_:Unit)=>
   dL (fun (_:Unit)=>
    next2 ())
   (fun k5=>
    (bif decide (¬(cI d i_3).Station=station) then
     k5 ()
     else
     da (fun (k_8:Nat) (next7:Unit→Bool) (_:Unit)=>
      (bif decide (¬(cI ((cI d i_3).Channels) k_8)=channel) then
       false
       else
       next7 ()))
     (fun (_:Unit)=>
      k5 ()) ((((cI d i_3).Channels).length) - 0) 0 ())))
  (fun (_:Unit)=>
   k1 ()) (d.length - 0) 0 ())
def zdw (p:GProblem)(d:List GDomain)(s:Int)(c:Int):Bool:=
 dL (fun (_:Unit)=>
  false)
 (fun k1=>
  da (fun (i_3:Nat) (next2:Unit→Bool) (_:Unit)=>
   (bif (((decide ((cI p.Rules.Pairs i_3).A=s))&&(zbJ ((cI p.Rules.Pairs i_3).Low) c ((cI p.Rules.Pairs i_3).High)))&&(zcj d ((cI p.Rules.Pairs i_3).B) (wI (c+((cI p.Rules.Pairs i_3).Offset))))) then
    true
    else
    (bif (((decide ((cI p.Rules.Pairs i_3).B=s))&&(zbJ ((cI p.Rules.Pairs i_3).Low) (wI (c - ((cI p.Rules.Pairs i_3).Offset))) ((cI p.Rules.Pairs i_3).High)))&&(zcj d ((cI p.Rules.Pairs i_3).A) (wI (c - ((cI p.Rules.Pairs i_3).Offset))))) then
     true
     else
     next2 ())))
  (fun (_:Unit)=>
   k1 ()) (p.Rules.Pairs.length - 0) 0 ())
def zdV (p:GProblem)(d:List GDomain)(to_:Int)(c:Int)(further:Int):Int:=
 dL (fun (n_1:Int)=>
  n_1)
 (fun k2=>
  da (fun (i_5:Nat) (next4:Int→Int) (n_3:Int)=>
   (bif (((decide ((cI p.Rules.Loads i_5).To=to_))&&(zbJ ((cI p.Rules.Loads i_5).Low) c ((cI p.Rules.Loads i_5).High)))&&((decide ((cI p.Rules.Loads i_5).From=further))||(zcj d ((cI p.Rules.Loads i_5).From) c))) then
    next4 (wI (n_3+((cI p.Rules.Loads i_5).Weight)))
    else
    next4 n_3))
  (fun (n_3:Int)=>
   k2 n_3) (p.Rules.Loads.length - 0) 0 0)
def zdp (p:GProblem)(station:Int)(c:Int)(loss:Int):Bool:=
 dL (fun (_:Unit)=>
  false)
 (fun k1=>
  da (fun (i_3:Nat) (next2:Unit→Bool) (_:Unit)=>
   (bif (((decide ((cI p.Rules.Caps i_3).Station=station))&&(zbJ ((cI p.Rules.Caps i_3).Low) c ((cI p.Rules.Caps i_3).High)))&&(decide ((cI p.Rules.Caps i_3).Max<loss))) then
    true
    else
    next2 ()))
  (fun (_:Unit)=>
   k1 ()) (p.Rules.Caps.length - 0) 0 ())
def zdu (p:GProblem)(d:List GDomain)(s:Int)(c:Int):Bool:=
 dL (fun (_:Unit)=>
  false)
 (fun k1=>
  da (fun (i_3:Nat) (next2:Unit→Bool) (_:Unit)=>
   (bif ((((decide ((cI p.Rules.Loads i_3).From=s))&&(zbJ ((cI p.Rules.Loads i_3).Low) c ((cI p.Rules.Loads i_3).High)))&&(zcj d ((cI p.Rules.Loads i_3).To) c))&&(zdp p ((cI p.Rules.Loads i_3).To) c (zdV p d ((cI p.Rules.Loads i_3).To) c s))) then
    true
    else
    next2 ()))
  (fun (_:Unit)=>
   k1 ()) (p.Rules.Loads.length - 0) 0 ())
def zdl (p:GProblem)(d:List GDomain)(s:Int)(c:Int):Bool:=
 (((zdw p d s c)||(zdp p s c (zdV p d s c (-1))))||(zdu p d s c))
theorem has_x {l:List Int}{n:Int}:d4 l n=l.any fun k=>decide (k=n):=by
 unfold d4;refine l9 ?_;rw [zeb (fun i=>decide (cI l i=n)) (fun i next _=>?_),zdI (q:=fun k=>decide (k=n)),Bool.or_false]
 cases decide (cI l i=n) <;> rfl
def ja (d:List GDomain)(s c:Int):Bool:=d.all fun x=>(decide (¬x.Station=s)||x.Channels.all fun k=>decide (k=c))
theorem zll {d:List GDomain}{s c:Int}:zcj d s c=ja d s c:=by
 unfold zcj ja;refine l9 ?_;rw [zdD (fun i=>(decide (¬(cI d i).Station=s)||(cI d i).Channels.all fun k=>decide (k=c))) (fun i next _=>?_),zcb (l:=d) (q:=fun x=>(decide (¬x.Station=s)||x.Channels.all fun k=>decide (k=c))),Bool.and_true];rw [zdD (fun k=>decide (cI (cI d i).Channels k=c)) (fun k nx _=>?_),zcb (q:=fun k=>decide (k=c))]
 ·cases decide (¬(cI d i).Station=s) <;> rfl
 ·by_cases h:cI (cI d i).Channels k=c <;> simp [h]
theorem zgb {a b c:Int}:zbJ a b c=decide (a≤b∧b≤c):=by
 unfold zbJ;by_cases h1:a≤b <;> by_cases h2:b≤c <;> simp [h1,h2]
def zht (d:List GDomain)(s c:Int)(x:GPair):Bool:=(decide (x.A=s)&&decide (x.Low≤c∧c≤x.High)&&ja d x.B (wI (c+x.Offset)))||(decide (x.B=s)&&decide (x.Low≤wI (c - x.Offset)∧wI (c - x.Offset)≤x.High)&&ja d x.A (wI (c - x.Offset)))
theorem zmx {p:GProblem}{d:List GDomain}{s c:Int}:zdw p d s c=p.Rules.Pairs.any (zht d s c):=by
 unfold zdw;simp only [dL,Nat.sub_zero,zll,zgb];rw [zeb (fun i=>zht d s c (cI p.Rules.Pairs i)) (fun i next _=>?_),zdI (q:=zht d s c),Bool.or_false];unfold zht;generalize (decide ((cI p.Rules.Pairs i).A=s)&&decide ((cI p.Rules.Pairs i).Low≤c∧c≤(cI p.Rules.Pairs i).High)&&ja d (cI p.Rules.Pairs i).B (wI (c+(cI p.Rules.Pairs i).Offset)))=a
 cases a
 ·rw [cond_false,Bool.false_or];generalize (decide ((cI p.Rules.Pairs i).B=s)&&decide ((cI p.Rules.Pairs i).Low≤wI (c - (cI p.Rules.Pairs i).Offset)∧wI (c - (cI p.Rules.Pairs i).Offset)≤(cI p.Rules.Pairs i).High)&&ja d (cI p.Rules.Pairs i).A (wI (c - (cI p.Rules.Pairs i).Offset)))=b
  cases b <;> rfl
 ·rfl
def loadC (d:List GDomain)(t c f:Int)(x:GLoad):Bool:=decide (x.To=t)&&decide (x.Low≤c∧c≤x.High)&&(decide (x.From=f)||ja d x.From c)
def ir (p:GProblem)(d:List GDomain)(t c f:Int):Int:=p.Rules.Loads.foldl (fun n x=>bif loadC d t c f x then wI (n+x.Weight) else n) 0
theorem zoG {p:GProblem}{d:List GDomain}{t c f:Int}:zdV p d t c f=ir p d t c f:=by
 unfold zdV ir;simp only [dL,Nat.sub_zero,zll,zgb];rw [zj3 (fun i n=>bif loadC d t c f (cI p.Rules.Loads i) then wI (n+(cI p.Rules.Loads i).Weight) else n) (fun i next n _=>?_),zb1 (g:=fun n x=>bif loadC d t c f x then wI (n+x.Weight) else n)];unfold loadC;generalize (decide ((cI p.Rules.Loads i).To=t)&&decide ((cI p.Rules.Loads i).Low≤c∧c≤(cI p.Rules.Loads i).High)&&(decide ((cI p.Rules.Loads i).From=f)||ja d (cI p.Rules.Loads i).From c))=a
 cases a <;> rfl
def mg (p:GProblem)(s c l:Int):Bool:=p.Rules.Caps.any fun x=>decide (x.Station=s)&&decide (x.Low≤c∧c≤x.High)&&decide (x.Max<l)
theorem zm0 {p:GProblem}{s c l:Int}:zdp p s c l=mg p s c l:=by
 unfold zdp mg;simp only [dL,Nat.sub_zero,zgb];rw [zeb (fun i=>decide ((cI p.Rules.Caps i).Station=s)&&decide ((cI p.Rules.Caps i).Low≤c∧c≤(cI p.Rules.Caps i).High)&&decide ((cI p.Rules.Caps i).Max<l)) (fun i next _=>?_),zdI (l:=p.Rules.Caps) (q:=fun x=>decide (x.Station=s)&&decide (x.Low≤c∧c≤x.High)&&decide (x.Max<l)),Bool.or_false];generalize (decide ((cI p.Rules.Caps i).Station=s)&&decide ((cI p.Rules.Caps i).Low≤c∧c≤(cI p.Rules.Caps i).High)&&decide ((cI p.Rules.Caps i).Max<l))=a
 cases a <;> rfl
def loadR (p:GProblem)(d:List GDomain)(s c:Int)(x:GLoad):Bool:=decide (x.From=s)&&decide (x.Low≤c∧c≤x.High)&&ja d x.To c&&mg p x.To c (ir p d x.To c s)
theorem zmk {p:GProblem}{d:List GDomain}{s c:Int}:zdu p d s c=p.Rules.Loads.any (loadR p d s c):=by
 unfold zdu;simp only [dL,Nat.sub_zero,zll,zgb,zm0,zoG];rw [zeb (fun i=>loadR p d s c (cI p.Rules.Loads i)) (fun i next _=>?_),zdI (q:=loadR p d s c),Bool.or_false];unfold loadR;generalize (decide ((cI p.Rules.Loads i).From=s)&&decide ((cI p.Rules.Loads i).Low≤c∧c≤(cI p.Rules.Loads i).High)&&ja d (cI p.Rules.Loads i).To c&&mg p (cI p.Rules.Loads i).To c (ir p d (cI p.Rules.Loads i).To c s))=a
 cases a <;> rfl
def iZ (p:GProblem)(d:List GDomain)(s c:Int):Bool:=p.Rules.Pairs.any (zht d s c)||mg p s c (ir p d s c (-1))||p.Rules.Loads.any (loadR p d s c)
theorem zlT {p:GProblem}{d:List GDomain}{s c:Int}:zdl p d s c=iZ p d s c:=by
 unfold zdl iZ;rw [zmx,zm0,zoG,zmk]
def iV (s c:Int)(x:GDomain):GDomain:=⟨x.Station,x.Channels.filter fun k=>decide (¬x.Station=s)||decide (¬k=c)⟩
theorem zkC {d:List GDomain}{s c:Int}(hd:d.length≤100000)(hc:∀x∈d,x.Channels.length≤100000):zb2 d s c=some (d.map (iV s c)):=by
 unfold zb2;refine l9 ?_;refine (zbI (fun i out=>out.length=i) (fun i out=>out++[iV s c (cI d i)]) rfl (fun i out _ h=>by simp [h]) (fun i next out hi hl=>?_)).1.trans ?_
 ·have hci:=hc (cI d i) (by rw [dS hi];exact List.getElem_mem _);refine (zbI (fun k (t:Int×List Int)=>t.2.length≤k) (fun k t=>(t.1,bif (decide (¬(cI d i).Station=s)||decide (¬cI (cI d i).Channels k=c)) then t.2++[cI (cI d i).Channels k] else t.2)) (by exact Nat.le_refl 0) (fun k t _ h=>?_) (fun k nx t hk ht=>?_)).1.trans ?_
  ·(try dsimp only)
   cases (decide (¬(cI d i).Station=s)||decide (¬cI (cI d i).Channels k=c)) <;> simp <;> omega
  ·(try dsimp only)
   cases (decide (¬(cI d i).Station=s)||decide (¬cI (cI d i).Channels k=c))
   ·rfl
   ·exact fZ (by simp only [dl,List.length_append,List.length_singleton];omega)
  ·rw [zkV (g:=fun t k=>bif (decide (¬(cI d i).Station=s)||decide (¬cI (cI d i).Channels k=c)) then t++[cI (cI d i).Channels k] else t),zb1 (l:=(cI d i).Channels) (g:=fun t k=>bif (decide (¬(cI d i).Station=s)||decide (¬k=c)) then t++[k] else t),zke (g:=fun k=>k)];rw [fZ (by simp only [dl,List.length_append,List.length_singleton];omega)];simp [iV]
 ·rw [zb1 (l:=d) (g:=fun out x=>out++[iV s c x]),zhd];rfl
def iP (s c:Int)(x:GDomain):GDomain:=⟨x.Station,bif decide (x.Station=s) then (bif x.Channels.any (fun k=>decide (k=c)) then [c] else []) else x.Channels⟩
theorem zm2 {d:List GDomain}{s c:Int}(hd:d.length≤100000)(hc:∀x∈d,x.Channels.length≤100000):zcT d s c=some (d.map (iP s c)):=by
 unfold zcT;simp only [dL,Nat.sub_zero,has_x];refine (zbI (fun i out=>out.length=i) (fun i out=>out++[iP s c (cI d i)]) rfl (fun i out _ h=>by simp [h]) (fun i next out hi hl=>?_)).1.trans ?_
 ·have hci:=hc (cI d i) (by rw [dS hi];exact List.getElem_mem _);rw [fZ (by simp only [dl,List.nil_append];omega)]; (have hr:∀y:GDomain,dl (out++[y]).length 32:=fun y=>by simp only [dl,List.length_append,List.length_singleton];omega);simp only [fZ (hr _),iP]
  cases decide ((cI d i).Station=s) <;> cases ((cI d i).Channels.any fun k=>decide (k=c)) <;> rfl
 ·rw [zb1 (l:=d) (g:=fun out x=>out++[iP s c x]),zhd];rfl
def zba (fuel:Nat)(p:GProblem)(d:List GDomain):Option (List GDomain×Bool):=
 dL (fun (d_1:List GDomain)=>
  dL (fun (_:Unit)=>
   some (d_1,true))
  (fun k20=>
   da (fun (i_22:Nat) (next21:Unit→Option (List GDomain×Bool)) (_:Unit)=>
    (bif decide ((((cI d_1 i_22).Channels).length:Int)=0) then
     some ([],false)
     else
     next21 ()))
   (fun (_:Unit)=>
    k20 ()) (d_1.length - 0) 0 ()))
 (fun k2=>
  jn (fun (next5:(List GDomain×Bool)→Option (List GDomain×Bool)) (s5:List GDomain×Bool)=>
   (bif s5.2 then
    jn (fun (next11:(List GDomain×Bool×Int)→Option (List GDomain×Bool)) (s11:List GDomain×Bool×Int)=>
     (bif decide (s11.2.2<(s11.1.length:Int)) then
      eg (0≤s11.2.2∧s11.2.2<(s11.1.length:Int)) <|
      mA (fun (k_17:Nat) (next16:(List GDomain×Bool)→Option (List GDomain×Bool)) (s16:List GDomain×Bool)=>
       eg (0≤s11.2.2∧s11.2.2<(s16.1.length:Int)) <|
       eg (0≤(k_17:Int)∧(k_17:Int)<(((cI s16.1 s11.2.2.toNat).Channels).length:Int)) <|
       (bif (zdl p s16.1 ((cI s16.1 s11.2.2.toNat).Station) (cI ((cI s16.1 s11.2.2.toNat).Channels) k_17)) then
        (zb2 s16.1 ((cI s16.1 s11.2.2.toNat).Station) (cI ((cI s16.1 s11.2.2.toNat).Channels) k_17)).bind fun r51=>
        next16 (r51,true)
        else
        next16 (s16.1,s16.2)))
      (fun (s16:List GDomain×Bool)=>
       next11 (s16.1,s16.2,(s11.2.2+1))) (((cI s11.1 s11.2.2.toNat).Channels).length) (s11.1,s11.2.1)
      else
      next5 (s11.1,s11.2.1))) fuel (s5.1,false,0)
    else
    k2 s5.1)) fuel (d,true))
theorem fI {α:Type}[Inhabited α]{xs:List α}{k:Nat}(h:k<xs.length):cI xs k∈xs:=by rw [dS h];exact List.getElem_mem _
theorem io {α:Type}[Inhabited α]{xs:List α}{x:α}(h:x∈xs):∃k,k<xs.length∧cI xs k=x:=by
 obtain ⟨k,hk,rfl⟩:=List.mem_iff_getElem.1 h;exact ⟨k,hk,dS hk⟩
theorem iH {α β:Type}[Inhabited α][Inhabited β]{f:α→β}{xs:List α}{i:Nat}(h:i<xs.length):cI (xs.map f) i=f (cI xs i):=jm h
theorem zfw {α:Type}[Inhabited α]{a b:List α}(hl:a.length=b.length)(h:∀i,i<a.length→cI a i=cI b i):a=b:=by
 apply List.ext_getElem hl;intro i h1 h2;have:=h i h1
 rwa [dS h1,dS h2] at this
def SubD (a b:List GDomain):Prop:=a.length=b.length∧∀i,i<b.length→(cI a i).Station=(cI b i).Station∧∀c∈(cI a i).Channels,c∈(cI b i).Channels
theorem SubD.refl (a:List GDomain):SubD a a:=⟨rfl,fun _ _=>⟨rfl,fun _ h=>h⟩⟩
theorem SubD.trans {a b c:List GDomain}(h:SubD a b)(k:SubD b c):SubD a c:=⟨h.1.trans k.1,fun i hi=>⟨((h.2 i (by rw [k.1];exact hi)).1).trans (k.2 i hi).1,fun x hx=>(k.2 i hi).2 x ((h.2 i (by rw [k.1];exact hi)).2 x hx)⟩⟩
def WtP (p:GProblem):Prop:=p.Rules.Loads.length≤1024∧∀x∈p.Rules.Loads,0≤x.Weight∧x.Weight≤1073741824
section
variable {p:GProblem}{a b d:List GDomain}
theorem gK {s c:Int}:ja d s c=true↔∀x∈d,x.Station=s→∀k∈x.Channels,k=c:=by
 unfold ja;simp only [List.all_eq_true,Bool.or_eq_true,decide_eq_true_eq];constructor
 ·intro h x hx hs k hk;rcases h x hx with h1|h1
  ·exact absurd hs h1
  ·exact h1 k hk
 ·intro h x hx;by_cases hs:x.Station=s
  ·exact .inr (h x hx hs)
  ·exact .inl hs
theorem zc6 (h:SubD a b){s c:Int}(ho:ja b s c=true):ja a s c=true:=by
 rw [gK] at ho ⊢;intro x hx hs k hk;obtain ⟨i,hi,rfl⟩:=io hx;have h2:=h.2 i (by rw [←h.1];exact hi);exact ho (cI b i) (fI (by rw [←h.1];exact hi)) (by rw [←h2.1];exact hs) k (h2.2 k hk)
theorem zfJ {t c f : Int} (h : SubD a b) : ∀ (l : List GLoad), (∀ x ∈ l, 0 ≤ x.Weight ∧ x.Weight ≤ 1073741824) → ∀ n n' : Int, 0 ≤ n → n ≤ n' → n' + 1073741824 * (l.length : Int) ≤ 4611686018427387904 →
    l.foldl (fun n x => bif loadC b t c f x then wI (n + x.Weight) else n) n ≤ l.foldl (fun n x => bif loadC a t c f x then wI (n + x.Weight) else n) n'
  | [], _, n, n', _, hn, _ => hn
  | x :: r, hw, n, n', h0, hn, hb => by
    have h1 := hw x a8; simp only [List.length_cons] at hb; rw [List.foldl_cons, List.foldl_cons]; have e1 : wI (n + x.Weight) = n + x.Weight := zj4 a5; have e2 : wI (n' + x.Weight) = n' + x.Weight := zj4 a5; rw [e1, e2]
    have hc : loadC b t c f x = true → loadC a t c f x = true := by
      unfold loadC;simp only [Bool.and_eq_true, Bool.or_eq_true]; rintro ⟨h3, h4⟩; exact ⟨h3, h4.imp id (zc6 h)⟩
    refine zfJ h r (fun y hy => hw y (by simp [hy])) _ _ ?_ ?_ ?_
    · cases loadC b t c f x <;> simp <;> omega
    · cases hb' : loadC b t c f x
      · cases loadC a t c f x <;> simp <;> omega
      · rw [hc hb']; simp; omega
    · cases loadC a t c f x <;> simp <;> omega
theorem zhX (hp:WtP p)(h:SubD a b){t c f:Int}:ir p b t c f≤ir p a t c f:=by
 unfold ir;have:=hp.1;exact zfJ h _ hp.2 0 0 a5 a5 a5
theorem zgX {s c l l':Int}(hl:l≤l')(h:mg p s c l=true):mg p s c l'=true:=by
 unfold mg at h ⊢;rw [List.any_eq_true] at h ⊢;obtain ⟨x,hx,h⟩:=h;refine ⟨x,hx,?_⟩;simp only [Bool.and_eq_true,decide_eq_true_eq] at h ⊢;exact ⟨h.1,by omega⟩
theorem zge (hp:WtP p)(h:SubD a b){s c:Int}(hr:iZ p b s c=true):iZ p a s c=true:=by
 unfold iZ at hr ⊢;simp only [Bool.or_eq_true,List.any_eq_true] at hr ⊢;rcases hr with (⟨x,hx,hr⟩|hr)|⟨x,hx,hr⟩
 ·refine .inl (.inl ⟨x,hx,?_⟩);unfold zht at hr ⊢;simp only [Bool.or_eq_true,Bool.and_eq_true] at hr ⊢;exact hr.imp (fun q=>⟨q.1,zc6 h q.2⟩) (fun q=>⟨q.1,zc6 h q.2⟩)
 ·exact .inl (.inr (zgX (zhX hp h) hr))
 ·refine .inr ⟨x,hx,?_⟩;unfold loadR at hr ⊢;simp only [Bool.and_eq_true] at hr ⊢;exact ⟨⟨hr.1.1,zc6 h hr.1.2⟩,zgX (zhX hp h) hr.2⟩
structure ClosedD (p:GProblem) (d:List GDomain):Prop where
 ne:∀x∈d,x.Channels≠[]
 calm:∀x∈d,∀c∈x.Channels,iZ p d x.Station c=false
def OrdD (a b:List GDomain):Prop:=∀i,i<b.length→(cI a i).Channels.Sublist (cI b i).Channels
def PropD (p:GProblem)(d:List GDomain)(r:List GDomain×Bool):Prop:=
 (r.2=true∧ClosedD p r.1∧(SubD r.1 d∧OrdD r.1 d)∧∀S,ClosedD p S→SubD S d→SubD S r.1)∨(r=([],false)∧∀S,ClosedD p S→¬SubD S d)
def zmw (R:List GDomain→Int→Int→Bool)(d:List GDomain):Prop:=∀x∈d,∀c∈x.Channels,R d x.Station c=false
def MonoR (R:List GDomain→Int→Int→Bool):Prop:=∀a b s c,SubD a b→R b s c=true→R a s c=true
theorem zj5 {R:List GDomain→Int→Int→Bool}(hp:MonoR R){S:List GDomain}(hS:zmw R S)(h:SubD S d){s c:Int}(hr:R d s c=true):SubD S (d.map (iV s c)):=by
 refine ⟨by rw [h.1,List.length_map],fun i hi=>?_⟩;rw [List.length_map] at hi;rw [iH hi];have h2:=h.2 i hi;refine ⟨h2.1,fun k hk=>?_⟩;unfold iV;rw [List.mem_filter];refine ⟨h2.2 k hk,?_⟩;simp only [Bool.or_eq_true,decide_eq_true_eq];by_cases hs:(cI d i).Station=s
 ·refine .inr fun hkc=>?_;subst hkc;have hm:=fI (show i<S.length by rw [h.1];exact hi);have:=hS _ hm k hk;rw [h2.1,hs,hp _ _ _ _ h hr] at this
  cases this
 ·exact .inl hs
theorem drop_sub {s c:Int}:SubD (d.map (iV s c)) d:=by
 refine ⟨List.length_map _,fun i hi=>?_⟩;rw [iH hi];exact ⟨rfl,fun k hk=>(List.mem_filter.1 hk).1⟩
def ei (d:List GDomain):Nat:=(d.map fun x=>x.Channels.length).sum
theorem zl2:∀(d:List GDomain) (f:GDomain→GDomain),(∀x∈d,(f x).Channels.length≤x.Channels.length)→ei (d.map f)≤ei d
 | [],_,_=>Nat.le_refl _
 |x :: r,f,h=>by
  have:=zl2 r f (fun y hy=>h y (by simp [hy]));have h1:=h x a8;simp only [ei,List.map_cons,List.sum_cons] at this ⊢;omega
theorem zlg:∀(d:List GDomain) (f:GDomain→GDomain),(∀x∈d,(f x).Channels.length≤x.Channels.length)→(∃x∈d,(f x).Channels.length<x.Channels.length)→ei (d.map f)<ei d
 |x :: r,f,h,he=>by
  have h1:=h x a8;obtain ⟨y,hy,hlt⟩:=he;rcases List.mem_cons.1 hy with rfl|hy
  ·have:=zl2 r f (fun z hz=>h z (by simp [hz]));simp only [ei,List.map_cons,List.sum_cons] at this ⊢;omega
  ·have:=zlg r f (fun z hz=>h z (by simp [hz])) ⟨y,hy,hlt⟩;simp only [ei,List.map_cons,List.sum_cons] at this ⊢;omega
theorem zg0 {α:Type}{q:α→Bool}:∀ {l:List α} {x:α},x∈l→q x=false→(l.filter q).length<l.length
 |y :: r,x,hx,hq=>by
  rcases List.mem_cons.1 hx with rfl|hx
  ·rw [List.filter_cons,hq];have:=List.length_filter_le q r;simp;omega
  ·have:=zg0 hx hq;rw [List.filter_cons];split <;> simp only [List.length_cons] <;> omega
theorem zlw {s c:Int}{i:Nat}(hi:i<d.length)(hs:(cI d i).Station=s)(hc:c∈(cI d i).Channels):ei (d.map (iV s c))<ei d:=
 zlg d _ (fun x _=>List.length_filter_le _ _) ⟨cI d i,fI hi,zg0 hc (by simp [hs])⟩
structure Bd (d:List GDomain):Prop where
 len:d.length≤100000
 ch:∀x∈d,x.Channels.length≤100000∧x.Channels.Nodup
theorem Bd.drop (h:Bd d){s c:Int}:Bd (d.map (iV s c)):=by
 refine ⟨by rw [List.length_map];exact h.len,fun x hx=>?_⟩;obtain ⟨y,hy,rfl⟩:=List.mem_map.1 hx;exact ⟨Nat.le_trans (List.length_filter_le _ _) (h.ch y hy).1,(h.ch y hy).2.filter _⟩
theorem zks {s c:Int}{i k:Nat}(hb:Bd d)(hi:i<d.length)(hk:k<(cI d i).Channels.length)(hc:cI (cI d i).Channels k=c):k≤(cI (d.map (iV s c)) i).Channels.length:=by
 rw [iH hi];unfold iV;have hn:=(hb.ch _ (fI hi)).2;have e:(cI d i).Channels=(cI d i).Channels.take k++(cI d i).Channels.drop k:=(List.take_append_drop k _).symm
 have hf:((cI d i).Channels.take k).filter (fun q=>decide (¬(cI d i).Station=s)||decide (¬q=c))=(cI d i).Channels.take k:=by
  rw [List.filter_eq_self];intro q hq;simp only [Bool.or_eq_true,decide_eq_true_eq];refine .inr fun hqc=>?_;obtain ⟨j,hj,rfl⟩:=List.mem_iff_getElem.1 hq;simp only [List.length_take] at hj;rw [List.getElem_take] at hqc;rw [dS hk] at hc;have:=(List.getElem_inj (h₀:=by omega) (h₁:=hk) hn).1 (hqc.trans hc.symm);omega
 show k≤((cI d i).Channels.filter _).length
 rw [e,List.filter_append,hf,List.length_append,List.length_take];omega
structure InvR (R:List GDomain→Int→Int→Bool) (d0 d:List GDomain):Prop where
 bd:Bd d
 sub:SubD d d0
 ord:OrdD d d0
 sup:∀S,zmw R S→SubD S d0→SubD S d
theorem InvR.step {R:List GDomain→Int→Int→Bool}{d0:List GDomain}(hp:MonoR R)(h:InvR R d0 d){s c:Int}(hr:R d s c=true):InvR R d0 (d.map (iV s c)):=
 ⟨h.bd.drop,drop_sub.trans h.sub,fun i hi=>by
  rw [iH (by rw [h.sub.1];exact hi)]
  exact (List.filter_sublist).trans (h.ord i hi),fun S hS hs=>zj5 hp hS (h.sup S hS hs) hr⟩
theorem znK {R : List GDomain → Int → Int → Bool} {ρ : Type} {fuel : Nat} {d0 : List GDomain} {k2 : List GDomain → Option ρ} (post : Option ρ → Prop) (hp : MonoR R) (hb : Bd d0) (hf1 : d0.length < fuel) (hf2 : ei d0 + 1 < fuel) (hend : ∀ d, InvR R d0 d → zmw R d → post (k2 d)) :
    post (jn (fun (next5 : (List GDomain × Bool) → Option ρ) (s5 : List GDomain × Bool) =>
      (bif s5.2 then
        jn (fun (next11 : (List GDomain × Bool × Int) → Option ρ) (s11 : List GDomain × Bool × Int) =>
          (bif decide (s11.2.2 < (s11.1.length : Int)) then
            eg (0 ≤ s11.2.2 ∧ s11.2.2 < (s11.1.length : Int)) <|
            mA (fun (k_17 : Nat) (next16 : (List GDomain × Bool) → Option ρ) (s16 : List GDomain × Bool) =>
              eg (0 ≤ s11.2.2 ∧ s11.2.2 < (s16.1.length : Int)) <|
              eg (0 ≤ (k_17 : Int) ∧ (k_17 : Int) < (((cI s16.1 s11.2.2.toNat).Channels).length : Int)) <|
              (bif (R s16.1 ((cI s16.1 s11.2.2.toNat).Station) (cI ((cI s16.1 s11.2.2.toNat).Channels) k_17)) then
                (zb2 s16.1 ((cI s16.1 s11.2.2.toNat).Station) (cI ((cI s16.1 s11.2.2.toNat).Channels) k_17)).bind fun r51 =>
                next16 (r51, true)
                else
                next16 (s16.1, s16.2)))
            (fun (s16 : List GDomain × Bool) =>
              next11 (s16.1, s16.2, (s11.2.2 + 1))) (((cI s11.1 s11.2.2.toNat).Channels).length) (s11.1, s11.2.1)
            else
            next5 (s11.1, s11.2.1))) fuel (s5.1, false, 0)
        else
        k2 s5.1)) fuel (d0, true)) := by
  refine zdE (σ := List GDomain × Bool) (I := fun s => InvR R d0 s.1 ∧ (s.2 = false → zmw R s.1)) (μ := fun s => ei s.1 + (bif s.2 then 1 else 0)) (post := post) ⟨⟨hb, .refl _, fun _ _ => List.Sublist.refl _, fun S _ h => h⟩, fun h => by cases h⟩ hf2 ?_; rintro ⟨d, again⟩ next ⟨hI, hA⟩ hn; dsimp only at hI hA hn ⊢
  cases again with
  | false =>
    rw [cond_false]; exact hend d hI (hA rfl)
  | true =>
    rw [cond_true]
    -- one sweep over the stations
    refine zdE (σ := List GDomain × Bool × Int) (I := fun s => InvR R d0 s.1 ∧ 0 ≤ s.2.2 ∧ s.2.2 ≤ s.1.length ∧ s.1.length = d.length ∧ (s.2.1 = false → s.1 = d ∧ ∀ j : Nat, (j : Int) < s.2.2 → ∀ c ∈ (cI d j).Channels, R d (cI d j).Station c = false) ∧ (s.2.1 = true → ei s.1 < ei d)) (μ := fun s => (s.1.length - s.2.2).toNat) (post := post) ⟨hI, by simp, by simp, rfl, fun _ => ⟨rfl, fun j hj => absurd hj a8⟩, fun h => by cases h⟩ (by simp only [Int.sub_zero, Int.toNat_natCast]; rw [hI.sub.1]; exact hf1) ?_; rintro ⟨d1, ag, i⟩ next1 ⟨hI1, h0, h1, hl, hF, hT⟩ hn1; dsimp only at hI1 h0 h1 hl hF hT hn1 ⊢; by_cases hi : i < (d1.length : Int)
    · rw [decide_eq_true hi, cond_true, fZ ⟨h0, hi⟩]; (have hin : i.toNat < d1.length := by omega); refine zlk (σ := List GDomain × Bool) (I := fun m s => InvR R d0 s.1 ∧ s.1.length = d.length ∧ m ≤ (cI s.1 i.toNat).Channels.length ∧ (s.2 = false → s.1 = d ∧ (∀ j : Nat, (j : Int) < i → ∀ c ∈ (cI d j).Channels, R d (cI d j).Station c = false) ∧ ∀ k, m ≤ k → k < (cI d i.toNat).Channels.length → R d (cI d i.toNat).Station (cI (cI d i.toNat).Channels k) = false) ∧ (s.2 = true → ei s.1 < ei d)) (post := post) ?_ ?_ ?_
      · dsimp only; refine ⟨hI1, hl, Nat.le_refl _, fun h => ?_, hT⟩; obtain ⟨h2, h3⟩ := hF h; subst h2; exact ⟨rfl, h3, fun k h4 h5 => absurd h5 a5⟩
      · rintro ⟨d2, ag2⟩ ⟨g1, g2, _, g4, g5⟩; dsimp only at g1 g2 g4 g5 ⊢; refine hn1 _ ⟨g1, by dsimp only; omega, by dsimp only; omega, g2, fun h => ?_, g5⟩ (by dsimp only; omega); dsimp only at h; obtain ⟨h2, h3, h4⟩ := g4 h; refine ⟨h2, fun j hj c hc => ?_⟩; dsimp only at hj; by_cases hji : (j : Int) < i
        · exact h3 j hji c hc
        · (obtain rfl : j = i.toNat := by omega); obtain ⟨k, hk, rfl⟩ := io hc; exact h4 k (Nat.zero_le _) hk
      · rintro k ⟨d2, ag2⟩ nx hk ⟨g1, g2, g3, g4, g5⟩ hnx; dsimp only at g1 g2 g3 g4 g5 hnx ⊢; (have hid : i.toNat < d2.length := by omega); rw [fZ ⟨h0, by omega⟩, fZ ⟨by omega, by omega⟩]
        cases hr : R d2 (cI d2 i.toNat).Station (cI (cI d2 i.toNat).Channels k) with
        | true =>
          rw [cond_true, zkC g1.bd.len (fun x hx => (g1.bd.ch x hx).1), Option.bind_some]; refine hnx _ ⟨g1.step hp hr, by dsimp only; rw [List.length_map]; exact g2, zks g1.bd hid a5 rfl, (fun h => by cases h), fun _ => ?_⟩;dsimp only; have h6 := zlw hid rfl (fI (show k < (cI d2 i.toNat).Channels.length by omega))
          cases ag2 with
          | true => have := g5 rfl; omega
          | false => obtain ⟨h7, _⟩ := g4 rfl; subst h7; exact h6
        | false =>
          rw [cond_false]; refine hnx _ ⟨g1, g2, by dsimp only; omega, fun h => ?_, g5⟩; dsimp only at h ⊢; obtain ⟨h7, h8, h9⟩ := g4 h; refine ⟨h7, h8, fun q h10 h11 => ?_⟩; rcases Nat.lt_or_ge k q with h12 | h12
          · exact h9 q h12 h11
          · (obtain rfl : q = k := by omega); subst h7; exact hr
    · rw [decide_eq_false hi, cond_false]; (have hil : i = d1.length := by omega); refine hn (d1, ag) ⟨hI1, fun h => ?_⟩ ?_
      · dsimp only at h ⊢; obtain ⟨h2, h3⟩ := hF h; subst h2; intro x hx c hc; obtain ⟨j, hj, rfl⟩ := io hx; exact h3 j a5 c hc
      · dsimp only
        cases ag with
        | true => have := hT rfl;simp only [cond_true]; omega
        | false => obtain ⟨h2, _⟩ := hF rfl; subst h2;simp only [cond_true, cond_false]; omega
theorem MonoR.rem (hp:WtP p):MonoR (iZ p):=fun _ _ _ _ h hr=>zge hp h hr
theorem zeM {fuel : Nat} {d0 : List GDomain} (hp : WtP p) (hb : Bd d0) (hf1 : d0.length < fuel) (hf2 : ei d0 + 1 < fuel) : ∃ r, zba fuel p d0 = some r ∧ PropD p d0 r := by
  unfold zba;simp only [dL, Nat.sub_zero, zlT]; refine znK (R := iZ p) (k2 := fun d => da (fun (i : Nat) (next : Unit → Option (List GDomain × Bool)) (_ : Unit) => bif decide ((((cI d i).Channels).length : Int) = 0) then some ([], false) else next ()) (fun (_ : Unit) => some (d, true)) d.length 0 ()) (fun o => ∃ r, o = some r ∧ PropD p d0 r) (.rem hp) hb hf1 hf2 fun d hI hA => ?_
  -- the end: is a domain empty?
  refine zcp (σ := Unit) (I := fun i _ => ∀ j, j < i → (cI d j).Channels ≠ []) (post := fun o => ∃ r, o = some r ∧ PropD p d0 r) (fun j hj => absurd hj (Nat.not_lt_zero j)) ?_ ?_
  · intro _ h; refine ⟨_, rfl, .inl ⟨rfl, ⟨fun x hx => ?_, hA⟩, ⟨hI.sub, hI.ord⟩, fun S hS => hI.sup S hS.calm⟩⟩; obtain ⟨i, hi, rfl⟩ := io hx; exact h i hi
  · intro i _ nx hi h hnx; by_cases he : (cI d i).Channels = []
    · rw [he]; refine ⟨_, rfl, .inr ⟨rfl, fun S hS hs => ?_⟩⟩; have h2 := hI.sup S hS.calm hs; have h3 := (h2.2 i hi).2; rw [he] at h3; have hm := fI (show i < S.length by rw [h2.1]; exact hi); apply hS.ne _ hm
      cases hc : (cI S i).Channels with
      | nil => rfl
      | cons c r => exact absurd (h3 c (by rw [hc]; simp)) a8
    · have : ¬ ((cI d i).Channels.length : Int) = 0 := fun h0 => he (List.eq_nil_of_length_eq_zero a5); rw [decide_eq_false this, cond_false]; refine hnx () (fun j hj => ?_); rcases Nat.lt_or_ge j i with h1 | h1
      · exact h j h1
      · rw [show j = i by omega]; exact he
end
end Go.Proofs.YtogbggmckmnlfaaGreatDoor
