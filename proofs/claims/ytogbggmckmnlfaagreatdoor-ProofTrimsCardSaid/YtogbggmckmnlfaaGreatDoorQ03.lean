/- Ya Yd Cb: shortened and put together by squeeze.py. -/
import Derived.Test.YtogbggmckmnlfaaGreatDoorQ02
set_option maxRecDepth 100000
set_option maxHeartbeats 4000000
set_option linter.unusedVariables false
set_option linter.unusedSectionVars false
set_option linter.unusedSimpArgs false
namespace Go.Proofs.YtogbggmckmnlfaaGreatDoor
open Go.RowKit
structure GDomain where
 Station:Int
 Channels:List Int
deriving DecidableEq,Inhabited
def cK (F:Frz)(c:List Value)(x:GDomain):Prop:=∃(v1:Value),c=[.int .i64 x.Station,v1]∧SlC F v1 1 (x.Channels.map eI)
theorem GDomain.mono {F G:Frz}{c:List Value}{x:GDomain}(hle:F.Le G)(h:cK F c x):cK G c x:=by
 obtain ⟨v1,h0,h2⟩:=h;exact ⟨v1,h0,h2.mono hle⟩
theorem GDomain.len {F:Frz}{c:List Value}{x:GDomain}(h:cK F c x):c.length=2:=by
 obtain ⟨v1,h0,h2⟩:=h;subst h0;rfl
theorem GDomain.one {F:Frz}{c:List Value}{x:GDomain}(h:cK F c x):OneCs c:=by
 obtain ⟨v1,h0,h2⟩:=h;subst h0;haveI:=h2.oneC
 infer_instance
theorem GDomain.c0 {F:Frz}{c:List Value}{x:GDomain}(h:cK F c x):c[0]?=some (.int .i64 x.Station):=by
 obtain ⟨v1,h0,h2⟩:=h;subst h0;rfl
theorem GDomain.c1 {F:Frz}{c:List Value}{x:GDomain}(h:cK F c x):c[1]?=some (cJ c 1)∧SlC F (cJ c 1) 1 (x.Channels.map eI):=by
 obtain ⟨v1,h0,h2⟩:=h;subst h0;exact ⟨rfl,h2⟩
theorem fL {F:Frz}{c:List Value}{x:GDomain}(h:cK F c x):(c.drop 0).take 2=[.int .i64 x.Station,cJ c 1]:=by
 obtain ⟨v1,h0,h2⟩:=h;subst h0;rfl
structure GPair where
 A:Int
 B:Int
 Offset:Int
 Low:Int
 High:Int
deriving DecidableEq,Inhabited
abbrev cO (x:GPair):List Value:=[.int .i64 x.A, .int .i64 x.B, .int .i64 x.Offset, .int .i64 x.Low, .int .i64 x.High]
theorem GPair.len (x:GPair):(cO x).length=5:=rfl
structure GLoad where
 To:Int
 From:Int
 Weight:Int
 Low:Int
 High:Int
deriving DecidableEq,Inhabited
abbrev cP (x:GLoad):List Value:=[.int .i64 x.To, .int .i64 x.From, .int .i64 x.Weight, .int .i64 x.Low, .int .i64 x.High]
theorem GLoad.len (x:GLoad):(cP x).length=5:=rfl
structure GCap where
 Station:Int
 Max:Int
 Low:Int
 High:Int
deriving DecidableEq,Inhabited
abbrev cR (x:GCap):List Value:=[.int .i64 x.Station, .int .i64 x.Max, .int .i64 x.Low, .int .i64 x.High]
theorem GCap.len (x:GCap):(cR x).length=4:=rfl
structure GRules where
 Pairs:List GPair
 Loads:List GLoad
 Caps:List GCap
deriving DecidableEq,Inhabited
def ei (F:Frz)(c:List Value)(x:GRules):Prop:=∃(v0:Value) (v1:Value) (v2:Value),c=[v0,v1,v2]∧SlC F v0 5 (x.Pairs.map cO)∧SlC F v1 5 (x.Loads.map cP)∧SlC F v2 4 (x.Caps.map cR)
theorem GRules.mono {F G:Frz}{c:List Value}{x:GRules}(hle:F.Le G)(h:ei F c x):ei G c x:=by
 obtain ⟨v0,v1,v2,h0,h1,h2,h3⟩:=h;exact ⟨v0,v1,v2,h0,h1.mono hle,h2.mono hle,h3.mono hle⟩
theorem GRules.len {F:Frz}{c:List Value}{x:GRules}(h:ei F c x):c.length=3:=by
 obtain ⟨v0,v1,v2,h0,h1,h2,h3⟩:=h;subst h0;rfl
theorem GRules.one {F:Frz}{c:List Value}{x:GRules}(h:ei F c x):OneCs c:=by
 obtain ⟨v0,v1,v2,h0,h1,h2,h3⟩:=h;subst h0;haveI:=h1.oneC;haveI:=h2.oneC;haveI:=h3.oneC
 infer_instance
theorem GRules.c0 {F:Frz}{c:List Value}{x:GRules}(h:ei F c x):c[0]?=some (cJ c 0)∧SlC F (cJ c 0) 5 (x.Pairs.map cO):=by
 obtain ⟨v0,v1,v2,h0,h1,h2,h3⟩:=h;subst h0;exact ⟨rfl,h1⟩
theorem GRules.c1 {F:Frz}{c:List Value}{x:GRules}(h:ei F c x):c[1]?=some (cJ c 1)∧SlC F (cJ c 1) 5 (x.Loads.map cP):=by
 obtain ⟨v0,v1,v2,h0,h1,h2,h3⟩:=h;subst h0;exact ⟨rfl,h2⟩
theorem GRules.c2 {F:Frz}{c:List Value}{x:GRules}(h:ei F c x):c[2]?=some (cJ c 2)∧SlC F (cJ c 2) 4 (x.Caps.map cR):=by
 obtain ⟨v0,v1,v2,h0,h1,h2,h3⟩:=h;subst h0;exact ⟨rfl,h3⟩
theorem GRules.form {F:Frz}{c:List Value}{x:GRules}(h:ei F c x):(c.drop 0).take 3=[cJ c 0,cJ c 1,cJ c 2]:=by
 obtain ⟨v0,v1,v2,h0,h1,h2,h3⟩:=h;subst h0;rfl
structure GProblem where
 Domains:List GDomain
 Rules:GRules
deriving DecidableEq,Inhabited
def dS (F:Frz)(c:List Value)(x:GProblem):Prop:=∃(v0:Value) (cs0:List (List Value)) (v1:Value) (v2:Value) (v3:Value),c=[v0,v1,v2,v3]∧SlD cK F v0 2 cs0 x.Domains∧SlC F v1 5 (x.Rules.Pairs.map cO)∧SlC F v2 5 (x.Rules.Loads.map cP)∧SlC F v3 4 (x.Rules.Caps.map cR)
theorem GProblem.mono {F G:Frz}{c:List Value}{x:GProblem}(hle:F.Le G)(h:dS F c x):dS G c x:=by
 obtain ⟨v0,cs0,v1,v2,v3,h0,h1,h2,h3,h4⟩:=h;exact ⟨v0,cs0,v1,v2,v3,h0,SlD.mono (rep:=cK) (fun _ _ _ _=>GDomain.mono) h1 hle,h2.mono hle,h3.mono hle,h4.mono hle⟩
theorem GProblem.len {F:Frz}{c:List Value}{x:GProblem}(h:dS F c x):c.length=4:=by
 obtain ⟨v0,cs0,v1,v2,v3,h0,h1,h2,h3,h4⟩:=h;subst h0;rfl
theorem GProblem.one {F:Frz}{c:List Value}{x:GProblem}(h:dS F c x):OneCs c:=by
 obtain ⟨v0,cs0,v1,v2,v3,h0,h1,h2,h3,h4⟩:=h;subst h0;haveI:=h1.1.oneC;haveI:=h2.oneC;haveI:=h3.oneC;haveI:=h4.oneC
 infer_instance
theorem GProblem.c0 {F:Frz}{c:List Value}{x:GProblem}(h:dS F c x):c[0]?=some (cJ c 0)∧∃cs,SlD cK F (cJ c 0) 2 cs x.Domains:=by
 obtain ⟨v0,cs0,v1,v2,v3,h0,h1,h2,h3,h4⟩:=h;subst h0;exact ⟨rfl,cs0,h1⟩
theorem GProblem.c1 {F:Frz}{c:List Value}{x:GProblem}(h:dS F c x):c[1]?=some (cJ c 1)∧SlC F (cJ c 1) 5 (x.Rules.Pairs.map cO):=by
 obtain ⟨v0,cs0,v1,v2,v3,h0,h1,h2,h3,h4⟩:=h;subst h0;exact ⟨rfl,h2⟩
theorem GProblem.c2 {F:Frz}{c:List Value}{x:GProblem}(h:dS F c x):c[2]?=some (cJ c 2)∧SlC F (cJ c 2) 5 (x.Rules.Loads.map cP):=by
 obtain ⟨v0,cs0,v1,v2,v3,h0,h1,h2,h3,h4⟩:=h;subst h0;exact ⟨rfl,h3⟩
theorem GProblem.c3 {F:Frz}{c:List Value}{x:GProblem}(h:dS F c x):c[3]?=some (cJ c 3)∧SlC F (cJ c 3) 4 (x.Rules.Caps.map cR):=by
 obtain ⟨v0,cs0,v1,v2,v3,h0,h1,h2,h3,h4⟩:=h;subst h0;exact ⟨rfl,h4⟩
theorem GProblem.form {F:Frz}{c:List Value}{x:GProblem}(h:dS F c x):(c.drop 0).take 4=[cJ c 0,cJ c 1,cJ c 2,cJ c 3]:=by
 obtain ⟨v0,cs0,v1,v2,v3,h0,h1,h2,h3,h4⟩:=h;subst h0;rfl
structure GChoice where
 Station:Int
 Channel:Int
deriving DecidableEq,Inhabited
abbrev cV (x:GChoice):List Value:=[.int .i64 x.Station, .int .i64 x.Channel]
theorem GChoice.len (x:GChoice):(cV x).length=2:=rfl
def ed (l:List Int)(n:Int):Bool:=
 dH (fun (_:Unit)=>
  false)
 (fun k1=>
  c6 (fun (i_3:Nat) (next2:Unit→Bool) (_:Unit)=>
   (bif decide ((cJ l i_3)=n) then
    true
    else
    next2 ()))
  (fun (_:Unit)=>
   k1 ()) (l.length - 0) 0 ())
theorem zb7 (F0:Frz)(w:World)(hF0:F0.At w)(l:List Int)(vl:Value)(hl:SlC F0 vl 1 (l.map eI))(n:Int):Calls Tryz.prog 21 #[vl, .int .i64 n] w fun e w'=>e= .returned (.bool (ed l n))∧Below w.heap.size w w':=by
 obtain ⟨r,hk⟩:∃r,ed l n=r:=⟨_,rfl⟩;rw [hk];unfold ed at hk;haveI:=hl.oneC;obtain ⟨S0,F1,rfl,hS0,hp0⟩:=ey hF0;refine dt Tryz.func21 rfl rfl rfl hp0 ?_;refine gy ?_;refine mc ?_;have hq:=d7 hk;clear hk;obtain ⟨k1,hk1,hk⟩:=hq; (try dsimp only at hk);refine cZ (ι:=Unit) (fun z=>[]) (fun z=>[.fr F1]) (fun z=>k1 ()=r) ?_ ?_
 ·have hq:=eS hk;clear hk;obtain ⟨f2,kk2,hf2,hkk2,hk⟩:=hq;refine eA ?_;refine T.loop (ι:=Nat) (fun z=>[(0,vl),(1, .int .i64 n),(5, .int .i64 (z:Int))]) (fun z=>[.fr F1]) (fun z=>c6 f2 kk2 (l.length - z) z ()=r) (fun z=>l.length - z) 0 ?_ ?_ ?_ ?_
  ·exact hk
  ·exact l9
  ·exact eh
  ·rintro i_3 hk;refine iC ?_;refine q2D ?_;have hm8:l.length≤9223372036854775807:=(List.length_map _)▸hl.max;refine dA ?_;refine T.cond rfl (fun h4=>?_) (fun h4=>?_)
   ·have p4:=of_decide_eq_true h4;rw [eQ a5] at hk;generalize hn2:c6 f2 kk2 (l.length - (i_3+1)) (i_3+1)=next2 at hk;rw [←hf2] at hk; (try dsimp only at hk);refine fh ?_;refine d8 ?_;refine q4k ?_;refine jE ?_;refine T.cond rfl (fun h5=>?_) (fun h5=>?_)
    ·have p5:=of_decide_eq_true h5;replace hk:=dr hk h5;refine gN ?_;subst hk;exact dW
    ·have p5:=of_decide_eq_false h5;replace hk:=dq hk h5;refine ga ?_;rw [←hn2] at hk;exact q47
   ·have p4:=of_decide_eq_false h4;rw [eO a5,←hkk2] at hk; (try dsimp only at hk);refine eC ?_;exact jS
 ·rintro _ hk;rw [←hk1] at hk; (try dsimp only at hk);refine jB ?_;subst hk;exact dW
def fF (p:GProblem)(n:Int):Int:=
 dH (fun (_:Unit)=>
  (-1))
 (fun k1=>
  c6 (fun (i_3:Nat) (next2:Unit→Int) (_:Unit)=>
   (bif decide ((cJ p.Domains i_3).Station=n) then
    (i_3:Int)
    else
    next2 ()))
  (fun (_:Unit)=>
   k1 ()) (p.Domains.length - 0) 0 ())
theorem zcp (F0:Frz)(w:World)(hF0:F0.At w)(p:GProblem)(vp_0:Value)(cp_0:List (List Value))(hp_0:SlD cK F0 vp_0 2 cp_0 p.Domains)(vp_1:Value)(hp_1:SlC F0 vp_1 5 (p.Rules.Pairs.map cO))(vp_2:Value)(hp_2:SlC F0 vp_2 5 (p.Rules.Loads.map cP))(vp_3:Value)(hp_3:SlC F0 vp_3 4 (p.Rules.Caps.map cR))(n:Int):Calls Tryz.prog 22 #[.agg [vp_0,vp_1,vp_2,vp_3].toArray, .int .i64 n] w fun e w'=>e= .returned (.int .i64 (fF p n))∧Below w.heap.size w w':=by
 obtain ⟨r,hk⟩:∃r,fF p n=r:=⟨_,rfl⟩;rw [hk];unfold fF at hk;haveI:=hp_0.1.oneC;haveI:=hp_1.oneC;haveI:=hp_2.oneC;haveI:=hp_3.oneC;obtain ⟨S0,F1,rfl,hS0,hp0⟩:=ey hF0;refine dt Tryz.func22 rfl rfl rfl hp0 ?_;refine gp ?_;rintro _ _ ⟨g2,rfl,rfl⟩;refine mX ?_;have hq:=d7 hk;clear hk;obtain ⟨k1,hk1,hk⟩:=hq; (try dsimp only at hk);refine cZ (ι:=Unit) (fun z=>[]) (fun z=>[.fr F1]) (fun z=>k1 ()=r) ?_ ?_
 ·have hq:=eS hk;clear hk;obtain ⟨f2,kk2,hf2,hkk2,hk⟩:=hq;refine eA ?_;refine T.loop (ι:=Nat) (fun z=>[(1, .int .i64 n),(2, .pointer (some ⟨g2,0,none⟩)),(5, .int .i64 (z:Int))]) (fun z=>[.row g2 29 [vp_0,vp_1,vp_2,vp_3], .fr F1]) (fun z=>c6 f2 kk2 (p.Domains.length - z) z ()=r) (fun z=>p.Domains.length - z) 0 ?_ ?_ ?_ ?_
  ·exact hk
  ·exact l9
  ·exact eh
  ·rintro i_3 hk;refine jz ?_;refine ef ?_;refine q2J ?_;have hm9:p.Domains.length≤9223372036854775807:=hp_0.2.1▸hp_0.1.max;refine dA ?_;refine T.cond rfl (fun h4=>?_) (fun h4=>?_)
   ·have p4:=of_decide_eq_true h4;rw [eQ a5] at hk;generalize hn2:c6 f2 kk2 (p.Domains.length - (i_3+1)) (i_3+1)=next2 at hk;rw [←hf2] at hk; (try dsimp only at hk);refine fh ?_;refine i2 ?_;refine cL (c8 (i:=i_3) rfl rfl rfl hp_0.1 hp_0.2.1 rfl a5) ?_;refine cL (eE rfl rfl hp_0.1 hp_0.2.1 a5) ?_;refine cL (dj 1 (i:=i_3) (j:=0) rfl rfl rfl hp_0.1 hp_0.2.1 a5 rfl (GDomain.c0 (hp_0.2.2 i_3 a5))) ?_;refine jE ?_;refine T.cond rfl (fun h5=>?_) (fun h5=>?_)
    ·have p5:=of_decide_eq_true h5;replace hk:=dr hk h5;refine jg ?_;refine q2p ?_;subst hk;exact dW
    ·have p5:=of_decide_eq_false h5;replace hk:=dq hk h5;refine ga ?_;rw [←hn2] at hk;exact q47
   ·have p4:=of_decide_eq_false h4;rw [eO a5,←hkk2] at hk; (try dsimp only at hk);refine nI ?_;exact jS
 ·rintro _ hk;rw [←hk1] at hk; (try dsimp only at hk);refine jB ?_;subst hk;exact dW
def kb (n:Int):Bool:=
 ((decide (0≤n))&&(decide (n≤511)))
theorem zbl (F0:Frz)(w:World)(hF0:F0.At w)(n:Int):Calls Tryz.prog 56 #[.int .i64 n] w fun e w'=>e= .returned (.bool (kb n))∧Below w.heap.size w w':=by
 obtain ⟨r,hk⟩:∃r,kb n=r:=⟨_,rfl⟩;rw [hk];unfold kb at hk;obtain ⟨S0,F1,rfl,hS0,hp0⟩:=ey hF0;refine dt Tryz.func56 rfl rfl rfl hp0 ?_;refine fb ?_;refine cZ (ι:=Unit) (fun z=>[(2, .bool ((decide (0≤n))&&(decide (n≤511))))]) (fun z=>[.fr F1]) (fun z=>True) ?_ ?_
 ·refine q4F ?_;refine dn rfl rfl rfl (fun h1=>?_) (fun h1=>?_)
  ·have p1:=of_decide_eq_true h1;refine kA ?_;exact q41
  ·have p1:=of_decide_eq_false h1;refine kA ?_;exact q42
 ·refine m9 ?_;subst hk;exact dW
def zaS (l:List GChoice):Bool:=
 dH (fun (_:Unit)=>
  true)
 (fun k1=>
  c6 (fun (i_3:Nat) (next2:Unit→Bool) (_:Unit)=>
   (bif ((((!(kb ((cJ l i_3).Station)))||(decide ((cJ l i_3).Channel<2)))||(decide (51<(cJ l i_3).Channel)))||((decide (0<(i_3:Int)))&&(decide ((cJ l i_3).Station≤(cJ l (((i_3:Int) - 1).toNat)).Station)))) then
    false
    else
    next2 ()))
  (fun (_:Unit)=>
   k1 ()) (l.length - 0) 0 ())
theorem zdY (F0:Frz)(w:World)(hF0:F0.At w)(l:List GChoice)(vl:Value)(hl:SlC F0 vl 2 (l.map cV)):Calls Tryz.prog 45 #[vl] w fun e w'=>e= .returned (.bool (zaS l))∧Below w.heap.size w w':=by
 obtain ⟨r,hk⟩:∃r,zaS l=r:=⟨_,rfl⟩;rw [hk];unfold zaS at hk;haveI:=hl.oneC;obtain ⟨S0,F1,rfl,hS0,hp0⟩:=ey hF0;refine dt Tryz.func45 rfl rfl rfl hp0 ?_;refine gy ?_;refine mc ?_;have hq:=d7 hk;clear hk;obtain ⟨k1,hk1,hk⟩:=hq; (try dsimp only at hk);refine cZ (ι:=Unit) (fun z=>[]) (fun z=>[.fr F1]) (fun z=>k1 ()=r) ?_ ?_
 ·have hq:=eS hk;clear hk;obtain ⟨f2,kk2,hf2,hkk2,hk⟩:=hq;refine eA ?_;refine T.loop (ι:=Nat) (fun z=>[(0,vl),(3, .int .i64 (z:Int))]) (fun z=>[.fr F1]) (fun z=>c6 f2 kk2 (l.length - z) z ()=r) (fun z=>l.length - z) 0 ?_ ?_ ?_ ?_
  ·exact hk
  ·exact nE
  ·exact eh
  ·rintro i_3 hk;refine iC ?_;refine q2D ?_;have hm6:l.length≤9223372036854775807:=(List.length_map _)▸hl.max;refine dA ?_;refine T.cond rfl (fun h4=>?_) (fun h4=>?_)
   ·have p4:=of_decide_eq_true h4;rw [eQ a5] at hk;generalize hn2:c6 f2 kk2 (l.length - (i_3+1)) (i_3+1)=next2 at hk;rw [←hf2] at hk; (try dsimp only at hk);refine je ?_;refine cZ (ι:=Unit) (fun z=>[(0,vl),(3, .int .i64 (i_3:Int)),(50, .bool ((((!(kb ((cJ l i_3).Station)))||(decide ((cJ l i_3).Channel<2)))||(decide (51<(cJ l i_3).Channel)))||((decide (0<(i_3:Int)))&&(decide ((cJ l i_3).Station≤(cJ l (((i_3:Int) - 1).toNat)).Station)))))]) (fun z=>[.fr F1]) (fun z=>True) ?_ ?_
    ·refine dD (sN 0 5 (.eff 5 (sN 6 34 (.still 40 .done)))) _ a7 (List.Sublist.refl _) ?_;refine q1A ?_;refine q2G ?_;refine q2M ?_;refine dy ?_;refine cW rfl (Wt.none) rfl rfl (cM rfl rfl rfl (fun w hw=>zbl _ w (hw.fr (i:=0) rfl) ((cJ l i_3).Station))) ?_;refine mL ?_;refine dB rfl rfl rfl rfl (fun h5=>?_) (fun h5=>?_)
     ·refine TS.run 33 rfl ?_;refine gh ?_;exact cS () trivial (.c (.c (.b (ie (ie (ie h5))).symm .nil))) (List.Sublist.refl _)
     ·refine q1A ?_;refine q2G ?_;refine cQ rfl (dN 0 (i:=i_3) (j:=1) rfl rfl rfl hl a5) ?_;refine gb ?_;refine dB rfl rfl rfl rfl (fun h6=>?_) (fun h6=>?_)
      ·have p6:=of_decide_eq_true h6;refine TS.run 25 rfl ?_;refine gh ?_;exact cS () trivial (.c (.c (.b (ie (ie (jK h5 h6))).symm .nil))) (List.Sublist.refl _)
      ·have p6:=of_decide_eq_false h6;refine q1A ?_;refine q2G ?_;refine cQ rfl (dN 0 (i:=i_3) (j:=1) rfl rfl rfl hl a5) ?_;refine gb ?_;refine dB rfl rfl rfl rfl (fun h7=>?_) (fun h7=>?_)
       ·have p7:=of_decide_eq_true h7;refine TS.run 17 rfl ?_;refine gh ?_;exact cS () trivial (.c (.c (.b (ie (jK (jK h5 h6) h7)).symm .nil))) (List.Sublist.refl _)
       ·have p7:=of_decide_eq_false h7;refine gb ?_;refine dB rfl rfl rfl rfl (fun h8=>?_) (fun h8=>?_)
        ·have p8:=of_decide_eq_true h8;refine gV ?_;refine q2j ?_;refine q2G ?_;refine q3k ?_;refine q2G ?_;refine q2M ?_;refine gb ?_;refine gh ?_;exact cS () trivial (.c (.c (.b (Eq.trans (ku h8) (f9 (jK (jK h5 h6) h7))) .nil))) (List.Sublist.refl _)
        ·have p8:=of_decide_eq_false h8;refine TS.run 14 rfl ?_;refine gh ?_;exact cS () trivial (.c (.c (.b (jK (jK (jK h5 h6) h7) (gr h8)).symm .nil))) (List.Sublist.refl _)
    ·rintro _ _;refine T.cond rfl (fun h9=>?_) (fun h9=>?_)
     ·replace hk:=dr hk h9;refine gN ?_;subst hk;exact dW
     ·have p9:=h9; (try simp only [cX] at p9);replace hk:=dq hk h9;refine ga ?_;rw [←hn2] at hk;exact K.next (i_3+1) hk a5 (.c (.c .nil)) (List.Sublist.refl _)
   ·have p4:=of_decide_eq_false h4;rw [eO a5,←hkk2] at hk; (try dsimp only at hk);refine eC ?_;exact jS
 ·rintro _ hk;rw [←hk1] at hk; (try dsimp only at hk);refine jB ?_;subst hk;exact dW
def zbK (a:List Int)(b:List Int):Bool:=
 (bif decide (¬(a.length:Int)=(b.length:Int)) then
  false
  else
  dH (fun (_:Unit)=>
   true)
  (fun k2=>
   c6 (fun (i_4:Nat) (next3:Unit→Bool) (_:Unit)=>
    (bif decide (¬(cJ a i_4)=(cJ b i_4)) then
     false
     else
     next3 ()))
   (fun (_:Unit)=>
    k2 ()) (a.length - 0) 0 ()))
theorem zgm (F0:Frz)(w:World)(hF0:F0.At w)(a:List Int)(va:Value)(ha:SlC F0 va 1 (a.map eI))(b:List Int)(vb:Value)(hb:SlC F0 vb 1 (b.map eI)):Calls Tryz.prog 52 #[va,vb] w fun e w'=>e= .returned (.bool (zbK a b))∧Below w.heap.size w w':=by
 obtain ⟨r,hk⟩:∃r,zbK a b=r:=⟨_,rfl⟩;rw [hk];unfold zbK at hk;haveI:=ha.oneC;haveI:=hb.oneC;obtain ⟨S0,F1,rfl,hS0,hp0⟩:=ey hF0;refine dt Tryz.func52 rfl rfl rfl hp0 ?_;refine jo ?_;refine q31 ?_;have hm7:a.length≤9223372036854775807:=(List.length_map _)▸ha.max;refine di ?_;refine cL (df rfl rfl hb (List.length_map _)) ?_;have hm9:b.length≤9223372036854775807:=(List.length_map _)▸hb.max;refine dA ?_;refine T.cond rfl (fun h1=>?_) (fun h1=>?_)
 ·have p1:=of_decide_eq_true h1;replace hk:=dr hk h1;refine iw ?_;subst hk;exact dW
 ·have p1:=of_decide_eq_false h1;replace hk:=dq hk h1;refine m5 ?_;have hq:=d7 hk;clear hk;obtain ⟨k2,hk2,hk⟩:=hq; (try dsimp only at hk);refine cZ (ι:=Unit) (fun z=>[]) (fun z=>[.fr F1]) (fun z=>k2 ()=r) ?_ ?_
  ·have hq:=eS hk;clear hk;obtain ⟨f3,kk3,hf3,hkk3,hk⟩:=hq;refine eA ?_;refine T.loop (ι:=Nat) (fun z=>[(0,va),(1,vb),(5, .int .i64 (z:Int))]) (fun z=>[.fr F1]) (fun z=>c6 f3 kk3 (a.length - z) z ()=r) (fun z=>a.length - z) 0 ?_ ?_ ?_ ?_
   ·exact hk
   ·exact l9
   ·exact eh
   ·rintro i_4 hk;refine iC ?_;refine q31 ?_;refine dA ?_;refine T.cond rfl (fun h5=>?_) (fun h5=>?_)
    ·have p5:=of_decide_eq_true h5;rw [eQ a5] at hk;generalize hn3:c6 f3 kk3 (a.length - (i_4+1)) (i_4+1)=next3 at hk;rw [←hf3] at hk; (try dsimp only at hk);refine je ?_;refine q1R ?_;refine gV ?_;refine cQ rfl (c8 (i:=i_4) rfl rfl rfl ha (List.length_map _) rfl a5) ?_;refine cQ rfl (dN 0 (i:=i_4) (j:=0) rfl rfl rfl ha a5) ?_;refine gV ?_;refine cQ rfl (c8 (i:=i_4) rfl rfl rfl hb (List.length_map _) rfl a5) ?_;refine cQ rfl (dN 0 (i:=i_4) (j:=0) rfl rfl rfl hb a5) ?_;refine kg ?_;refine T.cond rfl (fun h6=>?_) (fun h6=>?_)
     ·have p6:=of_decide_eq_true h6;replace hk:=dr hk h6;refine gN ?_;subst hk;exact dW
     ·have p6:=of_decide_eq_false h6;replace hk:=dq hk h6;refine ga ?_;rw [←hn3] at hk;exact q5m
    ·have p5:=of_decide_eq_false h5;rw [eO a5,←hkk3] at hk; (try dsimp only at hk);refine eC ?_;exact jS
  ·rintro _ hk;rw [←hk2] at hk; (try dsimp only at hk);refine jB ?_;subst hk;exact dW
def zbM (a:List GChoice)(b:List GChoice):Bool:=
 (bif decide (¬(a.length:Int)=(b.length:Int)) then
  false
  else
  dH (fun (_:Unit)=>
   true)
  (fun k2=>
   c6 (fun (i_4:Nat) (next3:Unit→Bool) (_:Unit)=>
    (bif !(decide ((cJ a i_4).Station=(cJ b i_4).Station)&&decide ((cJ a i_4).Channel=(cJ b i_4).Channel)) then
     false
     else
     next3 ()))
   (fun (_:Unit)=>
    k2 ()) (a.length - 0) 0 ()))
theorem zgh (F0:Frz)(w:World)(hF0:F0.At w)(a:List GChoice)(va:Value)(ha:SlC F0 va 2 (a.map cV))(b:List GChoice)(vb:Value)(hb:SlC F0 vb 2 (b.map cV)):Calls Tryz.prog 84 #[va,vb] w fun e w'=>e= .returned (.bool (zbM a b))∧Below w.heap.size w w':=by
 obtain ⟨r,hk⟩:∃r,zbM a b=r:=⟨_,rfl⟩;rw [hk];unfold zbM at hk;haveI:=ha.oneC;haveI:=hb.oneC;obtain ⟨S0,F1,rfl,hS0,hp0⟩:=ey hF0;refine dt Tryz.func84 rfl rfl rfl hp0 ?_;refine jo ?_;refine q31 ?_;have hm7:a.length≤9223372036854775807:=(List.length_map _)▸ha.max;refine di ?_;refine cL (df rfl rfl hb (List.length_map _)) ?_;have hm9:b.length≤9223372036854775807:=(List.length_map _)▸hb.max;refine dA ?_;refine T.cond rfl (fun h1=>?_) (fun h1=>?_)
 ·have p1:=of_decide_eq_true h1;replace hk:=dr hk h1;refine iw ?_;subst hk;exact dW
 ·have p1:=of_decide_eq_false h1;replace hk:=dq hk h1;refine m5 ?_;have hq:=d7 hk;clear hk;obtain ⟨k2,hk2,hk⟩:=hq; (try dsimp only at hk);refine cZ (ι:=Unit) (fun z=>[]) (fun z=>[.fr F1]) (fun z=>k2 ()=r) ?_ ?_
  ·have hq:=eS hk;clear hk;obtain ⟨f3,kk3,hf3,hkk3,hk⟩:=hq;refine eA ?_;refine T.loop (ι:=Nat) (fun z=>[(0,va),(1,vb),(5, .int .i64 (z:Int))]) (fun z=>[.fr F1]) (fun z=>c6 f3 kk3 (a.length - z) z ()=r) (fun z=>a.length - z) 0 ?_ ?_ ?_ ?_
   ·exact hk
   ·exact l9
   ·exact eh
   ·rintro i_4 hk;refine iC ?_;refine q31 ?_;refine dA ?_;refine T.cond rfl (fun h5=>?_) (fun h5=>?_)
    ·have p5:=of_decide_eq_true h5;rw [eQ a5] at hk;generalize hn3:c6 f3 kk3 (a.length - (i_4+1)) (i_4+1)=next3 at hk;rw [←hf3] at hk; (try dsimp only at hk);refine je ?_;refine q1R ?_;refine gV ?_;refine cQ rfl (c8 (i:=i_4) rfl rfl rfl ha (List.length_map _) rfl a5) ?_;refine cQ rfl (eg 0 (i:=i_4) rfl rfl rfl ha a5) ?_;refine gV ?_;refine cQ rfl (c8 (i:=i_4) rfl rfl rfl hb (List.length_map _) rfl a5) ?_;refine cQ rfl (eg 0 (i:=i_4) rfl rfl rfl hb a5) ?_;refine cQ rfl (Yv.cA a7 rfl rfl rfl) ?_;refine gh ?_;refine K.seq ?_;refine T.cond rfl (fun h6=>?_) (fun h6=>?_)
     ·replace hk:=dr hk h6;refine gN ?_;subst hk;exact dW
     ·have p6:=h6; (try simp only [cX] at p6);replace hk:=dq hk h6;refine ga ?_;rw [←hn3] at hk;exact q5m
    ·have p5:=of_decide_eq_false h5;rw [eO a5,←hkk3] at hk; (try dsimp only at hk);refine eC ?_;exact jS
  ·rintro _ hk;rw [←hk2] at hk; (try dsimp only at hk);refine jB ?_;subst hk;exact dW
def nC (low:Int)(high:Int):Bool:=
 (((decide (2≤low))&&(decide (low≤high)))&&(decide (high≤51)))
theorem zeH (F0:Frz)(w:World)(hF0:F0.At w)(low:Int)(high:Int):Calls Tryz.prog 88 #[.int .i64 low, .int .i64 high] w fun e w'=>e= .returned (.bool (nC low high))∧Below w.heap.size w w':=by
 obtain ⟨r,hk⟩:∃r,nC low high=r:=⟨_,rfl⟩;rw [hk];unfold nC at hk;obtain ⟨S0,F1,rfl,hS0,hp0⟩:=ey hF0;refine dt Tryz.func88 rfl rfl rfl hp0 ?_;refine fb ?_;refine cZ (ι:=Unit) (fun z=>[(4, .bool (((decide (2≤low))&&(decide (low≤high)))&&(decide (high≤51))))]) (fun z=>[.fr F1]) (fun z=>True) ?_ ?_
 ·refine q4F ?_;refine dn rfl rfl rfl (fun h1=>?_) (fun h1=>?_)
  ·have p1:=of_decide_eq_true h1;refine TL.run 5 rfl ?_;refine dn rfl rfl rfl (fun h2=>?_) (fun h2=>?_)
   ·have p2:=of_decide_eq_true h2;refine kA ?_;exact cS () trivial (.b (ku (jn h1 h2)) .nil) (List.Sublist.refl _)
   ·have p2:=of_decide_eq_false h2;refine kA ?_;exact cS () trivial (.b (gr (jn h1 h2)).symm .nil) (List.Sublist.refl _)
  ·have p1:=of_decide_eq_false h1;refine TL.run 9 rfl ?_;refine eW ?_;exact cS () trivial (.b (gr (gr h1)).symm .nil) (List.Sublist.refl _)
 ·refine m9 ?_;subst hk;exact dW
def mb (a:List Int)(b:List Int):Option Bool:=
 dH (fun (_:Unit)=>
  some false)
 (fun k1=>
  c6 (fun (i_3:Nat) (next2:Unit→Option Bool) (_:Unit)=>
   ej (0≤(i_3:Int)∧(i_3:Int)<(b.length:Int)) <|
   (bif decide (¬(cJ a i_3)=(cJ b i_3)) then
    some (decide ((cJ a i_3)<(cJ b i_3)))
    else
    next2 ()))
  (fun (_:Unit)=>
   k1 ()) (a.length - 0) 0 ())
theorem zev (F0:Frz)(w:World)(hF0:F0.At w)(a:List Int)(va:Value)(ha:SlC F0 va 1 (a.map eI))(b:List Int)(vb:Value)(hb:SlC F0 vb 1 (b.map eI))(r:Bool)(hr:mb a b=some r):Calls Tryz.prog 89 #[va,vb] w fun e w'=>e= .returned (.bool r)∧Below w.heap.size w w':=by
 have hk:=hr;unfold mb at hk;haveI:=ha.oneC;haveI:=hb.oneC;obtain ⟨S0,F1,rfl,hS0,hp0⟩:=ey hF0;refine dt Tryz.func89 rfl rfl rfl hp0 ?_;refine gy ?_;refine mc ?_;have hq:=d7 hk;clear hk;obtain ⟨k1,hk1,hk⟩:=hq; (try dsimp only at hk);refine cZ (ι:=Unit) (fun z=>[]) (fun z=>[.fr F1]) (fun z=>k1 ()=some r) ?_ ?_
 ·have hq:=eS hk;clear hk;obtain ⟨f2,kk2,hf2,hkk2,hk⟩:=hq;refine eA ?_;refine T.loop (ι:=Nat) (fun z=>[(0,va),(1,vb),(5, .int .i64 (z:Int))]) (fun z=>[.fr F1]) (fun z=>c6 f2 kk2 (a.length - z) z ()=some r) (fun z=>a.length - z) 0 ?_ ?_ ?_ ?_
  ·exact hk
  ·exact l9
  ·exact eh
  ·rintro i_3 hk;refine iC ?_;refine q31 ?_;have hm8:a.length≤9223372036854775807:=(List.length_map _)▸ha.max;refine dA ?_;refine T.cond rfl (fun h4=>?_) (fun h4=>?_)
   ·have p4:=of_decide_eq_true h4;rw [eQ a5] at hk;generalize hn2:c6 f2 kk2 (a.length - (i_3+1)) (i_3+1)=next2 at hk;rw [←hf2] at hk; (try dsimp only at hk);refine je ?_;have hq:(0≤(i_3:Int)∧(i_3:Int)<(b.length:Int))∧_:=fu hk;clear hk;obtain ⟨g18,hk⟩:=hq; (try dsimp only at hk);refine q1R ?_;refine q2g ?_;refine kg ?_;refine T.cond rfl (fun h5=>?_) (fun h5=>?_)
    ·have p5:=of_decide_eq_true h5;replace hk:=dr hk h5;refine T.seq ?_;refine dD (sN 0 9 (.still 9 .done)) _ a7 (List.Sublist.refl _) ?_;refine q2g ?_;refine kR ?_;refine K.seq (T.ret (fB (ee (ee (fB (ee ?_))))));obtain rfl:=Option.some.inj hk;exact dW
    ·have p5:=of_decide_eq_false h5;replace hk:=dq hk h5;refine ga ?_;rw [←hn2] at hk;exact q47
   ·have p4:=of_decide_eq_false h4;rw [eO a5,←hkk2] at hk; (try dsimp only at hk);refine eC ?_;exact jS
 ·rintro _ hk;rw [←hk1] at hk; (try dsimp only at hk);refine jB ?_;obtain rfl:=Option.some.inj hk;exact dW
def li (x_:GPair):List Int:=
 [x_.A,x_.B,x_.Offset,x_.Low,x_.High]
theorem zeY (F0:Frz)(w:World)(hF0:F0.At w)(x_:GPair):Calls Tryz.prog 90 #[.agg [.int .i64 x_.A, .int .i64 x_.B, .int .i64 x_.Offset, .int .i64 x_.Low, .int .i64 x_.High].toArray] w fun e w'=>∃(y:Value) (G:Frz),(SlC G y 1 ((li x_).map eI))∧e= .returned (y)∧Fx F0 w G w':=by
 obtain ⟨r,hk⟩:∃r,li x_=r:=⟨_,rfl⟩;rw [hk];unfold li at hk;obtain ⟨S0,F1,rfl,hS0,hp0⟩:=ey hF0;refine dt Tryz.func90 rfl rfl rfl hp0 ?_;refine gp ?_;rintro _ _ ⟨g1,rfl,rfl⟩;refine gF ?_;refine q3j ?_;refine ef ?_;refine ef ?_;refine jG ?_;rintro _ _ ⟨g13,rfl,rfl⟩;refine fw ?_;refine q3I ?_;rintro F2 ⟨le1_2,hz2⟩;refine it ?_;have hf2:SlC F2.toFrz (.slice (some ⟨g13,0,none⟩) 5 5) 1 ([x_.A,x_.B,x_.Offset,x_.Low,x_.High].map eI):=(SlK.lit hz2 rfl (Nat.le_refl _) a6).toF (xs:=[x_.A,x_.B,x_.Offset,x_.Low,x_.High]) rfl (fun _=>rfl);subst hk;exact q5z
def ln (x_:GLoad):List Int:=
 [x_.To,x_.From,x_.Weight,x_.Low,x_.High]
theorem zeZ (F0:Frz)(w:World)(hF0:F0.At w)(x_:GLoad):Calls Tryz.prog 91 #[.agg [.int .i64 x_.To, .int .i64 x_.From, .int .i64 x_.Weight, .int .i64 x_.Low, .int .i64 x_.High].toArray] w fun e w'=>∃(y:Value) (G:Frz),(SlC G y 1 ((ln x_).map eI))∧e= .returned (y)∧Fx F0 w G w':=by
 obtain ⟨r,hk⟩:∃r,ln x_=r:=⟨_,rfl⟩;rw [hk];unfold ln at hk;obtain ⟨S0,F1,rfl,hS0,hp0⟩:=ey hF0;refine dt Tryz.func91 rfl rfl rfl hp0 ?_;refine gp ?_;rintro _ _ ⟨g1,rfl,rfl⟩;refine gF ?_;refine q3j ?_;refine ef ?_;refine ef ?_;refine jG ?_;rintro _ _ ⟨g13,rfl,rfl⟩;refine fw ?_;refine q3I ?_;rintro F2 ⟨le1_2,hz2⟩;refine it ?_;have hf2:SlC F2.toFrz (.slice (some ⟨g13,0,none⟩) 5 5) 1 ([x_.To,x_.From,x_.Weight,x_.Low,x_.High].map eI):=(SlK.lit hz2 rfl (Nat.le_refl _) a6).toF (xs:=[x_.To,x_.From,x_.Weight,x_.Low,x_.High]) rfl (fun _=>rfl);subst hk;exact q5z
def kY (x_:GCap):List Int:=
 [x_.Station,x_.Max,x_.Low,x_.High]
theorem zfC (F0:Frz)(w:World)(hF0:F0.At w)(x_:GCap):Calls Tryz.prog 92 #[.agg [.int .i64 x_.Station, .int .i64 x_.Max, .int .i64 x_.Low, .int .i64 x_.High].toArray] w fun e w'=>∃(y:Value) (G:Frz),(SlC G y 1 ((kY x_).map eI))∧e= .returned (y)∧Fx F0 w G w':=by
 obtain ⟨r,hk⟩:∃r,kY x_=r:=⟨_,rfl⟩;rw [hk];unfold kY at hk;obtain ⟨S0,F1,rfl,hS0,hp0⟩:=ey hF0;refine dt Tryz.func92 rfl rfl rfl hp0 ?_;refine gp ?_;rintro _ _ ⟨g1,rfl,rfl⟩;refine gF ?_;refine q3j ?_;refine ef ?_;refine jG ?_;rintro _ _ ⟨g11,rfl,rfl⟩;refine fw ?_;refine q3I ?_;rintro F2 ⟨le1_2,hz2⟩;refine it ?_;have hf2:SlC F2.toFrz (.slice (some ⟨g11,0,none⟩) 4 4) 1 ([x_.Station,x_.Max,x_.Low,x_.High].map eI):=(SlK.lit hz2 rfl (Nat.le_refl _) a6).toF (xs:=[x_.Station,x_.Max,x_.Low,x_.High]) rfl (fun _=>rfl);subst hk;exact c4 rfl rfl (fun w' hw=>⟨(.slice (some ⟨g11,0,none⟩) 4 4),F2.toFrz,hf2,rfl,eJ hw (i:=1) rfl hS0 le1_2⟩)
def zb2 (d:List GDomain)(s:Int)(c:Int):Option (List GDomain):=
 dH (fun (out_1:List GDomain)=>
  some out_1)
 (fun k2=>
  c6 (fun (i_5:Nat) (next4:List GDomain→Option (List GDomain)) (out_3:List GDomain)=>
   ej (dl ([]++(cJ d i_5).Channels).length 8) <|
   dH (fun (s9:Int×List Int)=>
    ej (dl (out_3++[(GDomain.mk s9.1 s9.2)]).length 32) <|
    next4 (out_3++[(GDomain.mk s9.1 s9.2)]))
   (fun k9=>
    (bif decide ((cJ d i_5).Station=s) then
     (bif (ed ((cJ d i_5).Channels) c) then
      k9 ((cJ d i_5).Station,[c])
      else
      k9 ((cJ d i_5).Station,[]))
     else
     k9 ((cJ d i_5).Station,([]++(cJ d i_5).Channels)))))
  (fun (out_3:List GDomain)=>
   k2 out_3) (d.length - 0) 0 [])
theorem zi9 (F0:Frz)(w:World)(hF0:F0.At w)(d:List GDomain)(vd:Value)(cd:List (List Value))(hd:SlD cK F0 vd 2 cd d)(s:Int)(c:Int)(r:List GDomain)(hr:zb2 d s c=some r):Calls Tryz.prog 120 #[vd, .int .i64 s, .int .i64 c] w fun e w'=>∃(y:Value×List (List Value)) (G:Frz),(SlD cK G y.1 2 y.2 r)∧e= .returned (y.1)∧Fx F0 w G w':=by
 have hk:=hr;unfold zb2 at hk;haveI:=hd.1.oneC;obtain ⟨S0,F1,rfl,hS0,hp0⟩:=ey hF0;refine dt Tryz.func120 rfl rfl rfl hp0 ?_;refine q4G ?_;refine TL.slNil 98 2 ?_;refine mc ?_;have hq:=d7 hk;clear hk;obtain ⟨k2,hk2,hk⟩:=hq; (try dsimp only at hk);refine cZ (ι:=List GDomain×Value×List (List Value)×FzB w (fun _=>False) S0) (fun z=>[(7,z.2.1)]) (fun z=>[.sl z.2.1 98 2 z.1.length z.2.2.1.flatten, .fr z.2.2.2]) (fun z=>k2 z.1=some r∧OwnD cK z.2.2.2.toFrz 2 z.2.2.1 z.1∧OneC z.2.1∧F1.toFrz.Le z.2.2.2.toFrz) ?_ ?_
 ·have hq:=eS hk;clear hk;obtain ⟨f4,kk4,hf4,hkk4,hk⟩:=hq;refine eA ?_;refine T.loop (ι:=Nat×List GDomain×Value×List (List Value)×FzB w (fun _=>False) S0) (fun z=>[(0,vd),(1, .int .i64 s),(2, .int .i64 c),(7,z.2.2.1),(8, .int .i64 (z.1:Int))]) (fun z=>[.sl z.2.2.1 98 2 z.2.1.length z.2.2.2.1.flatten, .fr z.2.2.2.2]) (fun z=>c6 f4 kk4 (d.length - z.1) z.1 z.2.1=some r∧OwnD cK z.2.2.2.2.toFrz 2 z.2.2.2.1 z.2.1∧OneC z.2.2.1∧F1.toFrz.Le z.2.2.2.2.toFrz) (fun z=>d.length - z.1) (0,[],(.slice none 0 0),[],F1) ?_ ?_ ?_ ?_
  ·exact ⟨hk,(OwnD.nil _ _ 2),inferInstance,(Frz.Le.refl _)⟩
  ·exact jM
  ·exact eh
  ·rintro ⟨i_5,out_3,vout_3,cout_3,F3⟩ ⟨hk,hout_3,oout_3,le1_3⟩; (try dsimp only at *);refine q3S ?_;have hm12:d.length≤9223372036854775807:=(SlD.mono (rep:=cK) (fun _ _ _ _=>GDomain.mono) hd le1_3).2.1▸(SlD.mono (rep:=cK) (fun _ _ _ _=>GDomain.mono) hd le1_3).1.max;refine dA ?_;refine T.cond rfl (fun h6=>?_) (fun h6=>?_)
   ·have p6:=of_decide_eq_true h6;rw [eQ a5] at hk;generalize hn4:c6 f4 kk4 (d.length - (i_5+1)) (i_5+1)=next4 at hk;rw [←hf4] at hk; (try dsimp only at hk);refine je ?_;have hq:(dl ([]++(cJ d i_5).Channels).length 8)∧_:=fu hk;clear hk;obtain ⟨g26,hk⟩:=hq; (try dsimp only at hk);refine cZ (ι:=Nat×Value) (fun z=>[(0,vd),(1, .int .i64 s),(2, .int .i64 c),(7,vout_3),(8, .int .i64 (i_5:Int)),(9, .pointer (some ⟨z.1,0,none⟩))]) (fun z=>[.row z.1 98 [.int .i64 ((cJ d i_5).Station),z.2], .sl z.2 3 1 ([]++(cJ d i_5).Channels).length (([]++(cJ d i_5).Channels).flatMap eI), .sl vout_3 98 2 out_3.length cout_3.flatten, .fr F3]) (fun z=>OneC z.2) ?_ ?_
    ·refine dD (.still 0 (.still 1 (.still 2 (.still 3 (.still 4 (.still 5 (.still 6 (.still 7 (.still 8 (.still 9 (.two 10 12 (.still 11 (.eff 12 (.eff 13 .done))) (.eff 10 (.still 11 (.eff 13 .done)))))))))))))) _ a7 (List.Sublist.refl _) ?_;refine q03 ?_;refine cQ rfl (dj 1 (i:=i_5) (j:=0) rfl rfl rfl (SlD.mono (rep:=cK) (fun _ _ _ _=>GDomain.mono) hd le1_3).1 (SlD.mono (rep:=cK) (fun _ _ _ _=>GDomain.mono) hd le1_3).2.1 a5 rfl (GDomain.c0 ((SlD.mono (rep:=cK) (fun _ _ _ _=>GDomain.mono) hd le1_3).2.2 i_5 a5))) ?_;refine q2o ?_;have hd25_1:=(GDomain.c1 ((SlD.mono (rep:=cK) (fun _ _ _ _=>GDomain.mono) hd le1_3).2.2 i_5 a5)).2;haveI:=hd25_1.oneC;refine TS.two ?_ ?_
     ·refine TSo.slNil 3 1 ?_;refine cW rfl (Wt.none) rfl rfl (jZ 0 2 (zgP (fun _=>inferInstance)) rfl rfl rfl rfl rfl hd25_1 (zkA (xs:=([]:List Int))) (ziN (xs:=([]:List Int))) g26 a6) ?_;rintro v26 _ ⟨hv26,rfl⟩;refine q1t ?_;refine cQ rfl (Yv.build) ?_;refine dy ?_;refine cW rfl (Wt.none) rfl rfl (Ew.alloc) ?_;rintro _ _ ⟨g9,rfl,rfl⟩;refine q1t ?_;refine q3J ?_;refine gh ?_;exact cS (g9,v26) hv26 (.c (.c (.c (.c (.c (.c .nil)))))) (List.Sublist.refl _)
     ·refine cW rfl (Wt.none) rfl rfl (Ew.alloc) ?_;rintro _ _ ⟨g9,rfl,rfl⟩;refine nb ?_;refine TSo.slNil 3 1 ?_;refine cW rfl (Wt.none) rfl rfl (jZ 0 3 (zgP (fun _=>inferInstance)) rfl rfl rfl rfl rfl hd25_1 (zkA (xs:=([]:List Int))) (ziN (xs:=([]:List Int))) g26 a6) ?_;rintro v26 _ ⟨hv26,rfl⟩;refine q1t ?_;refine cQ rfl (Yv.build) ?_;refine dy ?_;refine gQ rfl (Wt.none) rfl (dI 1) ?_;refine iJ ?_;refine gh ?_;refine K.pick [1,0,2,3] rfl a6 ?_;exact cS (g9,v26) hv26 (.c (.c (.c (.c (.c (.c .nil)))))) (List.Sublist.refl _)
    ·rintro ⟨g9,v26⟩ hv26; (try dsimp only at *);refine T.seq (dh ?_);refine ef ?_;refine jE ?_;have hq:=d7 hk;clear hk;obtain ⟨k9,hk9,hk⟩:=hq; (try dsimp only at hk);refine cZ (ι:=Int×List Int×Value×FzB w (fun _=>False) S0) (fun z=>[(0,vd),(1, .int .i64 s),(2, .int .i64 c),(7,vout_3),(8, .int .i64 (i_5:Int)),(9, .pointer (some ⟨g9,0,none⟩))]) (fun z=>[.row g9 98 [.int .i64 z.1,z.2.2.1], .sl vout_3 98 2 out_3.length cout_3.flatten, .fr z.2.2.2]) (fun z=>k9 (z.1,z.2.1)=some r∧SlC z.2.2.2.toFrz z.2.2.1 1 (z.2.1.map eI)∧F3.toFrz.Le z.2.2.2.toFrz) ?_ ?_
     ·refine T.cond rfl (fun h10=>?_) (fun h10=>?_)
      ·have p10:=of_decide_eq_true h10;replace hk:=dr hk h10;refine dh ?_;refine fc ?_;refine eY (eo 0 rfl rfl rfl rfl a9) ?_;refine fD ?_;refine dX ?_;refine d8 ?_;refine q1m ?_;have hd37_1:=(GDomain.c1 ((SlD.mono (rep:=cK) (fun _ _ _ _=>GDomain.mono) hd le1_3).2.2 i_5 a5)).2;haveI:=hd37_1.oneC;refine di ?_;refine cU (cM rfl rfl rfl (fun w hw=>zb7 _ w (hw.fr (i:=3) rfl) ((cJ d i_5).Channels) (cJ (cJ cd i_5) 1) hd37_1 c)) ?_;refine nJ ?_;refine T.cond rfl (fun h11=>?_) (fun h11=>?_)
       ·replace hk:=dr hk h11;refine gM ?_;refine jG ?_;rintro _ _ ⟨g41,rfl,rfl⟩;refine fc ?_;refine eY (eo 1 rfl rfl rfl rfl a9) ?_;refine fD ?_;refine eW ?_;refine iQ (fun w hw=>hw.freezeR (i:=4) (j:=0) a6 rfl rfl) ?_;rintro F5 ⟨le3_5,hz5⟩;refine it ?_;have hf5:SlC F5.toFrz (.slice (some ⟨g41,0,none⟩) 1 1) 1 ([c].map eI):=(SlK.lit hz5 rfl (Nat.le_refl _) a6).toF (xs:=[c]) rfl (fun _=>rfl);refine K.pick [0,2,3] rfl a6 ?_;exact cS ((cJ d i_5).Station,[c],(.slice (some ⟨g41,0,none⟩) 1 1),F5) ⟨hk,hf5,le3_5⟩ (.c (.c (.c (.c (.c (.c .nil)))))) (List.Sublist.refl _)
       ·replace hk:=dq hk h11;refine T.skip ?_;refine K.pick [0,2,3] rfl a6 ?_;exact cS ((cJ d i_5).Station,[],(.slice none 0 0),F3) ⟨hk,(SlC.nil _ 1),(Frz.Le.refl _)⟩ (.c (.c (.c (.c (.c (.c .nil)))))) (List.Sublist.refl _)
      ·have p10:=of_decide_eq_false h10;replace hk:=dq hk h10;refine T.skip ?_;refine iQ (fun w hw=>hw.freezeS (i:=3) (j:=1) a6 rfl rfl) ?_;rintro F6 ⟨le3_6,hz6⟩;refine it ?_;have hf6:=hz6.toF rfl (fun _=>rfl);haveI:=hf6.oneC;exact cS ((cJ d i_5).Station,([]++(cJ d i_5).Channels),v26,F6) ⟨hk,hf6,le3_6⟩ (.c (.c (.c (.c (.c (.c .nil)))))) (List.Sublist.refl _)
     ·rintro ⟨c_7,c_8,vc_8,F4⟩ ⟨hk,hc_8,le3_4⟩; (try dsimp only at *);rw [←hk9] at hk; (try dsimp only at hk);have le1_4:=le1_3.trans le3_4;haveI:=hc_8.oneC;have hq:(dl (out_3++[(GDomain.mk c_7 c_8)]).length 32)∧_:=fu hk;clear hk;obtain ⟨g46,hk⟩:=hq; (try dsimp only at hk);refine gM ?_;refine ik ?_;refine jG ?_;rintro _ _ ⟨g45,rfl,rfl⟩;have hl45:OwnD cK F4.toFrz 2 [[.int .i64 c_7,vc_8]] [(GDomain.mk c_7 c_8)]:=(c9 (OwnD.nil _ _ 2) ⟨_,rfl,hc_8⟩);refine cU (ff 2 0 rfl rfl rfl rfl rfl rfl (kd (ys:=[(GDomain.mk c_7 c_8)])) (zbB (cs:=cout_3) (ds:=[[.int .i64 c_7,vc_8]])) g46 a6) ?_;rintro v46 _ ⟨hv46,rfl⟩;have ho46:OwnD cK F4.toFrz 2 (cout_3++[[.int .i64 c_7,vc_8]]) (out_3++[(GDomain.mk c_7 c_8)]):=(c9 (OwnD.mono (rep:=cK) (fun _ _ _ _=>GDomain.mono) hout_3 le3_4) ⟨_,rfl,hc_8⟩);refine di ?_;refine q4o ?_;rw [←hn4] at hk;refine K.pick [2,3] rfl a6 ?_;exact K.next ((i_5+1),(out_3++[(GDomain.mk c_7 c_8)]),v46,(cout_3++[[.int .i64 c_7,vc_8]]),F4) ⟨hk,ho46,inferInstance,le1_4⟩ (by dsimp only;omega) (.c (.c (.c (.c (.c .nil))))) (List.Sublist.refl _)
   ·have p6:=of_decide_eq_false h6;rw [eO a5,←hkk4] at hk; (try dsimp only at hk);refine eC ?_;exact q5A
 ·rintro ⟨out_1,vout_1,cout_1,F2⟩ ⟨hk,hout_1,oout_1,le1_2⟩; (try dsimp only at *);rw [←hk2] at hk; (try dsimp only at hk);refine jg ?_;refine fW ?_;refine q3M ?_;rintro F7 ⟨le2_7,hz7⟩;refine it ?_;have le1_7:=le1_2.trans le2_7;have hf7:=hz7.toD (OwnD.mono (rep:=cK) (fun _ _ _ _=>GDomain.mono) hout_1 le2_7) rfl;haveI:=hf7.1.oneC;obtain rfl:=Option.some.inj hk;exact c4 rfl rfl (fun w' hw=>⟨(vout_1,cout_1),F7.toFrz,hf7,rfl,eJ hw (i:=0) rfl hS0 le1_7⟩)
def zbx (d:List GDomain)(s:Int)(c:Int):Option (List GDomain):=
 dH (fun (out_1:List GDomain)=>
  some out_1)
 (fun k2=>
  c6 (fun (i_5:Nat) (next4:List GDomain→Option (List GDomain)) (out_3:List GDomain)=>
   dH (fun (s9:Int×List Int)=>
    ej (dl (out_3++[(GDomain.mk s9.1 s9.2)]).length 32) <|
    next4 (out_3++[(GDomain.mk s9.1 s9.2)]))
   (fun k9=>
    c6 (fun (k_13:Nat) (next12:(Int×List Int)→Option (List GDomain)) (s12:Int×List Int)=>
     (bif ((decide (¬(cJ d i_5).Station=s))||(decide (¬(cJ ((cJ d i_5).Channels) k_13)=c))) then
      ej (dl (s12.2++[(cJ ((cJ d i_5).Channels) k_13)]).length 8) <|
      next12 (s12.1,(s12.2++[(cJ ((cJ d i_5).Channels) k_13)]))
      else
      next12 (s12.1,s12.2)))
    (fun (s12:Int×List Int)=>
     k9 (s12.1,s12.2)) ((((cJ d i_5).Channels).length) - 0) 0 ((cJ d i_5).Station,[])))
  (fun (out_3:List GDomain)=>
   k2 out_3) (d.length - 0) 0 [])
theorem zji (F0:Frz)(w:World)(hF0:F0.At w)(d:List GDomain)(vd:Value)(cd:List (List Value))(hd:SlD cK F0 vd 2 cd d)(s:Int)(c:Int)(r:List GDomain)(hr:zbx d s c=some r):Calls Tryz.prog 150 #[vd, .int .i64 s, .int .i64 c] w fun e w'=>∃(y:Value×List (List Value)) (G:Frz),(SlD cK G y.1 2 y.2 r)∧e= .returned (y.1)∧Fx F0 w G w':=by
 have hk:=hr;unfold zbx at hk;haveI:=hd.1.oneC;obtain ⟨S0,F1,rfl,hS0,hp0⟩:=ey hF0;refine dt Tryz.func150 rfl rfl rfl hp0 ?_;refine q4G ?_;refine TL.slNil 98 2 ?_;refine mc ?_;have hq:=d7 hk;clear hk;obtain ⟨k2,hk2,hk⟩:=hq; (try dsimp only at hk);refine cZ (ι:=List GDomain×Value×List (List Value)×FzB w (fun _=>False) S0) (fun z=>[(7,z.2.1)]) (fun z=>[.sl z.2.1 98 2 z.1.length z.2.2.1.flatten, .fr z.2.2.2]) (fun z=>k2 z.1=some r∧OwnD cK z.2.2.2.toFrz 2 z.2.2.1 z.1∧OneC z.2.1∧F1.toFrz.Le z.2.2.2.toFrz) ?_ ?_
 ·have hq:=eS hk;clear hk;obtain ⟨f4,kk4,hf4,hkk4,hk⟩:=hq;refine eA ?_;refine T.loop (ι:=Nat×List GDomain×Value×List (List Value)×FzB w (fun _=>False) S0) (fun z=>[(0,vd),(1, .int .i64 s),(2, .int .i64 c),(7,z.2.2.1),(8, .int .i64 (z.1:Int))]) (fun z=>[.sl z.2.2.1 98 2 z.2.1.length z.2.2.2.1.flatten, .fr z.2.2.2.2]) (fun z=>c6 f4 kk4 (d.length - z.1) z.1 z.2.1=some r∧OwnD cK z.2.2.2.2.toFrz 2 z.2.2.2.1 z.2.1∧OneC z.2.2.1∧F1.toFrz.Le z.2.2.2.2.toFrz) (fun z=>d.length - z.1) (0,[],(.slice none 0 0),[],F1) ?_ ?_ ?_ ?_
  ·exact ⟨hk,(OwnD.nil _ _ 2),inferInstance,(Frz.Le.refl _)⟩
  ·exact jM
  ·exact eh
  ·rintro ⟨i_5,out_3,vout_3,cout_3,F3⟩ ⟨hk,hout_3,oout_3,le1_3⟩; (try dsimp only at *);refine q3S ?_;have hm13:d.length≤9223372036854775807:=(SlD.mono (rep:=cK) (fun _ _ _ _=>GDomain.mono) hd le1_3).2.1▸(SlD.mono (rep:=cK) (fun _ _ _ _=>GDomain.mono) hd le1_3).1.max;refine dA ?_;refine T.cond rfl (fun h6=>?_) (fun h6=>?_)
   ·have p6:=of_decide_eq_true h6;rw [eQ a5] at hk;generalize hn4:c6 f4 kk4 (d.length - (i_5+1)) (i_5+1)=next4 at hk;rw [←hf4] at hk; (try dsimp only at hk);refine fh ?_;refine d8 ?_;refine q0D ?_;refine cL (dj 1 (i:=i_5) (j:=0) rfl rfl rfl (SlD.mono (rep:=cK) (fun _ _ _ _=>GDomain.mono) hd le1_3).1 (SlD.mono (rep:=cK) (fun _ _ _ _=>GDomain.mono) hd le1_3).2.1 a5 rfl (GDomain.c0 ((SlD.mono (rep:=cK) (fun _ _ _ _=>GDomain.mono) hd le1_3).2.2 i_5 a5))) ?_;refine lk ?_;refine fX ?_;rintro _ _ ⟨g9,rfl,rfl⟩;refine TL.slNil 3 1 ?_;refine q2f ?_;refine TL.slNil 3 1 ?_;refine mc ?_;have hq:=d7 hk;clear hk;obtain ⟨k9,hk9,hk⟩:=hq; (try dsimp only at hk);refine cZ (ι:=Int×List Int×Value) (fun z=>[(0,vd),(1, .int .i64 s),(2, .int .i64 c),(7,vout_3),(8, .int .i64 (i_5:Int)),(9, .pointer (some ⟨g9,0,none⟩))]) (fun z=>[.sl z.2.2 3 1 z.2.1.length (z.2.1.flatMap eI), .row g9 98 [.int .i64 z.1,z.2.2], .sl vout_3 98 2 out_3.length cout_3.flatten, .fr F3]) (fun z=>k9 (z.1,z.2.1)=some r∧OneC z.2.2) ?_ ?_
    ·have hq:=eS hk;clear hk;obtain ⟨f12,kk12,hf12,hkk12,hk⟩:=hq;refine eA ?_;refine T.pick [0,2,3,4] rfl a6 ?_;refine T.loop (ι:=Nat×Int×List Int×Value) (fun z=>[(0,vd),(1, .int .i64 s),(2, .int .i64 c),(7,vout_3),(8, .int .i64 (i_5:Int)),(9, .pointer (some ⟨g9,0,none⟩)),(10, .int .i64 (z.1:Int))]) (fun z=>[.sl z.2.2.2 3 1 z.2.2.1.length (z.2.2.1.flatMap eI), .row g9 98 [.int .i64 z.2.1,z.2.2.2], .sl vout_3 98 2 out_3.length cout_3.flatten, .fr F3]) (fun z=>c6 f12 kk12 ((((cJ d i_5).Channels).length) - z.1) z.1 (z.2.1,z.2.2.1)=some r∧OneC z.2.2.2) (fun z=>(((cJ d i_5).Channels).length) - z.1) (0,(cJ d i_5).Station,[],(.slice none 0 0)) ?_ ?_ ?_ ?_
     ·exact q43
     ·exact q4Y
     ·exact eh
     ·rintro ⟨k_13,c_10,c_11,vc_11⟩ ⟨hk,oc_11⟩; (try dsimp only at *);refine T.seq (dh ?_);refine eB ?_;refine q1m ?_;have hd28_1:=(GDomain.c1 ((SlD.mono (rep:=cK) (fun _ _ _ _=>GDomain.mono) hd le1_3).2.2 i_5 a5)).2;haveI:=hd28_1.oneC;refine cL (df rfl rfl hd28_1 (List.length_map _)) ?_;have hm29:((cJ d i_5).Channels).length≤9223372036854775807:=(List.length_map _)▸hd28_1.max;refine dA ?_;refine T.cond rfl (fun h14=>?_) (fun h14=>?_)
      ·have p14:=of_decide_eq_true h14;rw [eQ a5] at hk;generalize hn12:c6 f12 kk12 ((((cJ d i_5).Channels).length) - (k_13+1)) (k_13+1)=next12 at hk;rw [←hf12] at hk; (try dsimp only at hk);refine je ?_;refine cZ (ι:=Unit) (fun z=>[(0,vd),(1, .int .i64 s),(2, .int .i64 c),(7,vout_3),(8, .int .i64 (i_5:Int)),(9, .pointer (some ⟨g9,0,none⟩)),(10, .int .i64 (k_13:Int)),(51, .bool ((decide (¬(cJ d i_5).Station=s))||(decide (¬(cJ ((cJ d i_5).Channels) k_13)=c))))]) (fun z=>[.sl vc_11 3 1 c_11.length (c_11.flatMap eI), .row g9 98 [.int .i64 c_10,vc_11], .sl vout_3 98 2 out_3.length cout_3.flatten, .fr F3]) (fun z=>True) ?_ ?_
       ·refine iW ?_;refine q0D ?_;refine cL (dj 3 (i:=i_5) (j:=0) rfl rfl rfl (SlD.mono (rep:=cK) (fun _ _ _ _=>GDomain.mono) hd le1_3).1 (SlD.mono (rep:=cK) (fun _ _ _ _=>GDomain.mono) hd le1_3).2.1 a5 rfl (GDomain.c0 ((SlD.mono (rep:=cK) (fun _ _ _ _=>GDomain.mono) hd le1_3).2.2 i_5 a5))) ?_;refine eB ?_;refine dn rfl rfl rfl (fun h15=>?_) (fun h15=>?_)
        ·have p15:=of_decide_eq_true h15;refine TL.run 11 rfl ?_;refine eW ?_;exact cS () trivial (.c (.c (.c (.c (.c (.c (.c (.b (ie h15).symm .nil)))))))) (List.Sublist.refl _)
        ·have p15:=of_decide_eq_false h15;refine d8 ?_;refine q1m ?_;refine di ?_;refine cL (c8 (i:=k_13) rfl rfl rfl hd28_1 (List.length_map _) rfl a5) ?_;refine cL (dN 3 (i:=k_13) (j:=0) rfl rfl rfl hd28_1 a5) ?_;refine eB ?_;refine eW ?_;exact cS () trivial (.c (.c (.c (.c (.c (.c (.c (.b (f9 h15) .nil)))))))) (List.Sublist.refl _)
       ·rintro _ _;refine T.cond rfl (fun h16=>?_) (fun h16=>?_)
        ·replace hk:=dr hk h16;have hq:(dl (c_11++[(cJ ((cJ d i_5).Channels) k_13)]).length 8)∧_:=fu hk;clear hk;obtain ⟨g63,hk⟩:=hq; (try dsimp only at hk);refine dD (.still 0 (.still 2 (.still 3 (.still 4 (.still 5 (.still 6 (.still 7 (.still 8 (.still 9 (.two 1 10 (.eff 10 (.eff 11 (.still 12 (.eff 13 .done)))) (.eff 1 (.eff 11 (.still 12 (.eff 13 .done)))))))))))))) [.sl vout_3 98 2 out_3.length cout_3.flatten, .fr F3] a7 Sx ?_;refine fH ?_;refine q2o ?_;refine fK ?_;refine cQ rfl (c8 (i:=k_13) rfl rfl rfl hd28_1 (List.length_map _) rfl a5) ?_;refine cQ rfl (dN 1 (i:=k_13) (j:=0) rfl rfl rfl hd28_1 a5) ?_;refine TS.two ?_ ?_
         ·refine fv rfl (Wt.none) rfl rfl (dc 1) (fun w hw=>hw.sub Sx) ?_;refine dy ?_;refine lH ?_;rintro _ _ ⟨g62,rfl,rfl⟩;refine q1t ?_;refine q3b ?_;rintro v63 _ ⟨hv63,rfl⟩;refine q1e ?_;rw [←hn12] at hk;refine q3N ?_;exact q5B
         ·refine lH ?_;rintro _ _ ⟨g62,rfl,rfl⟩;refine nb ?_;refine fv rfl (Wt.none) rfl rfl (dc 2) (fun w hw=>hw.sub Sx) ?_;refine q3b ?_;rintro v63 _ ⟨hv63,rfl⟩;refine q1e ?_;rw [←hn12] at hk;refine q3N ?_;exact q5B
        ·have p16:=h16; (try simp only [cX] at p16);replace hk:=dq hk h16;refine ga ?_;rw [←hn12] at hk;exact K.next ((k_13+1),c_10,c_11,vc_11) ⟨hk,inferInstance⟩ (by dsimp only;omega) (.c (.c (.c (.c (.c (.c (.c .nil))))))) (List.Sublist.refl _)
      ·have p14:=of_decide_eq_false h14;rw [eO a5,←hkk12] at hk; (try dsimp only at hk);refine eC ?_;exact cS (c_10,c_11,vc_11) ⟨hk,inferInstance⟩ (.c (.c (.c (.c (.c (.c .nil)))))) (List.Sublist.refl _)
    ·rintro ⟨c_7,c_8,vc_8⟩ ⟨hk,oc_8⟩; (try dsimp only at *);rw [←hk9] at hk; (try dsimp only at hk);refine mm (fun w hw=>hw.freezeS (i:=3) (j:=0) a6 rfl rfl) ?_;rintro F4 ⟨le3_4,hz4⟩;refine it ?_;have le1_4:=le1_3.trans le3_4;have hf4:=hz4.toF rfl (fun _=>rfl);haveI:=hf4.oneC;have hq:(dl (out_3++[(GDomain.mk c_7 c_8)]).length 32)∧_:=fu hk;clear hk;obtain ⟨g68,hk⟩:=hq; (try dsimp only at hk);refine gM ?_;refine ik ?_;refine jG ?_;rintro _ _ ⟨g67,rfl,rfl⟩;have hl67:OwnD cK F4.toFrz 2 [[.int .i64 c_7,vc_8]] [(GDomain.mk c_7 c_8)]:=(c9 (OwnD.nil _ _ 2) ⟨_,rfl,hf4⟩);refine cU (ff 2 0 rfl rfl rfl rfl rfl rfl (kd (ys:=[(GDomain.mk c_7 c_8)])) (zbB (cs:=cout_3) (ds:=[[.int .i64 c_7,vc_8]])) g68 a6) ?_;rintro v68 _ ⟨hv68,rfl⟩;have ho68:OwnD cK F4.toFrz 2 (cout_3++[[.int .i64 c_7,vc_8]]) (out_3++[(GDomain.mk c_7 c_8)]):=(c9 (OwnD.mono (rep:=cK) (fun _ _ _ _=>GDomain.mono) hout_3 le3_4) ⟨_,rfl,hf4⟩);refine di ?_;refine q4o ?_;rw [←hn4] at hk;refine K.pick [2,3] rfl a6 ?_;exact K.next ((i_5+1),(out_3++[(GDomain.mk c_7 c_8)]),v68,(cout_3++[[.int .i64 c_7,vc_8]]),F4) ⟨hk,ho68,inferInstance,le1_4⟩ (by dsimp only;omega) (.c (.c (.c (.c (.c .nil))))) (List.Sublist.refl _)
   ·have p6:=of_decide_eq_false h6;rw [eO a5,←hkk4] at hk; (try dsimp only at hk);refine eC ?_;exact q5A
 ·rintro ⟨out_1,vout_1,cout_1,F2⟩ ⟨hk,hout_1,oout_1,le1_2⟩; (try dsimp only at *);rw [←hk2] at hk; (try dsimp only at hk);refine jg ?_;refine fW ?_;refine q3M ?_;rintro F5 ⟨le2_5,hz5⟩;refine it ?_;have le1_5:=le1_2.trans le2_5;have hf5:=hz5.toD (OwnD.mono (rep:=cK) (fun _ _ _ _=>GDomain.mono) hout_1 le2_5) rfl;haveI:=hf5.1.oneC;obtain rfl:=Option.some.inj hk;exact c4 rfl rfl (fun w' hw=>⟨(vout_1,cout_1),F5.toFrz,hf5,rfl,eJ hw (i:=0) rfl hS0 le1_5⟩)
def lK (low:Int)(c:Int)(high:Int):Bool:=
 ((decide (low≤c))&&(decide (c≤high)))
theorem zcx (F0:Frz)(w:World)(hF0:F0.At w)(low:Int)(c:Int)(high:Int):Calls Tryz.prog 180 #[.int .i64 low, .int .i64 c, .int .i64 high] w fun e w'=>e= .returned (.bool (lK low c high))∧Below w.heap.size w w':=by
 obtain ⟨r,hk⟩:∃r,lK low c high=r:=⟨_,rfl⟩;rw [hk];unfold lK at hk;obtain ⟨S0,F1,rfl,hS0,hp0⟩:=ey hF0;refine dt Tryz.func180 rfl rfl rfl hp0 ?_;refine fb ?_;refine cZ (ι:=Unit) (fun z=>[(6, .bool ((decide (low≤c))&&(decide (c≤high))))]) (fun z=>[.fr F1]) (fun z=>True) ?_ ?_
 ·refine fP ?_;refine TL.run 4 rfl ?_;refine dn rfl rfl rfl (fun h1=>?_) (fun h1=>?_)
  ·have p1:=of_decide_eq_true h1;refine lg ?_;exact q41
  ·have p1:=of_decide_eq_false h1;refine lg ?_;exact q42
 ·refine m9 ?_;subst hk;exact dW
def lX (d:List GDomain)(station:Int)(channel:Int):Bool:=
 dH (fun (_:Unit)=>
  true)
 (fun k1=>
  c6 (fun (i_3:Nat) (next2:Unit→Bool) (_:Unit)=>
   dH (fun (_:Unit)=>
    next2 ())
   (fun k5=>
    (bif decide (¬(cJ d i_3).Station=station) then
     k5 ()
     else
     c6 (fun (k_8:Nat) (next7:Unit→Bool) (_:Unit)=>
      (bif decide (¬(cJ ((cJ d i_3).Channels) k_8)=channel) then
       false
       else
       next7 ()))
     (fun (_:Unit)=>
      k5 ()) ((((cJ d i_3).Channels).length) - 0) 0 ())))
  (fun (_:Unit)=>
   k1 ()) (d.length - 0) 0 ())
theorem zdb (F0:Frz)(w:World)(hF0:F0.At w)(d:List GDomain)(vd:Value)(cd:List (List Value))(hd:SlD cK F0 vd 2 cd d)(station:Int)(channel:Int):Calls Tryz.prog 170 #[vd, .int .i64 station, .int .i64 channel] w fun e w'=>e= .returned (.bool (lX d station channel))∧Below w.heap.size w w':=by
 obtain ⟨r,hk⟩:∃r,lX d station channel=r:=⟨_,rfl⟩;rw [hk];unfold lX at hk;haveI:=hd.1.oneC;obtain ⟨S0,F1,rfl,hS0,hp0⟩:=ey hF0;refine dt Tryz.func170 rfl rfl rfl hp0 ?_;refine gy ?_;refine mc ?_;have hq:=d7 hk;clear hk;obtain ⟨k1,hk1,hk⟩:=hq; (try dsimp only at hk);refine cZ (ι:=Unit) (fun z=>[]) (fun z=>[.fr F1]) (fun z=>k1 ()=r) ?_ ?_
 ·have hq:=eS hk;clear hk;obtain ⟨f2,kk2,hf2,hkk2,hk⟩:=hq;refine eA ?_;refine T.loop (ι:=Nat) (fun z=>[(0,vd),(1, .int .i64 station),(2, .int .i64 channel),(7, .int .i64 (z:Int))]) (fun z=>[.fr F1]) (fun z=>c6 f2 kk2 (d.length - z) z ()=r) (fun z=>d.length - z) 0 ?_ ?_ ?_ ?_
  ·exact hk
  ·exact nA
  ·exact eh
  ·rintro i_3 hk;refine iC ?_;refine cL (df rfl rfl hd.1 hd.2.1) ?_;have hm11:d.length≤9223372036854775807:=hd.2.1▸hd.1.max;refine dA ?_;refine T.cond rfl (fun h4=>?_) (fun h4=>?_)
   ·have p4:=of_decide_eq_true h4;rw [eQ a5] at hk;generalize hn2:c6 f2 kk2 (d.length - (i_3+1)) (i_3+1)=next2 at hk;rw [←hf2] at hk; (try dsimp only at hk);refine jh ?_;have hq:=d7 hk;clear hk;obtain ⟨k5,hk5,hk⟩:=hq; (try dsimp only at hk);refine cZ (ι:=Unit) (fun z=>[(0,vd),(1, .int .i64 station),(2, .int .i64 channel),(7, .int .i64 (i_3:Int))]) (fun z=>[.fr F1]) (fun z=>k5 ()=r) ?_ ?_
    ·refine T.block (T.seq (dh ?_));refine d8 ?_;refine cL (c8 (i:=i_3) rfl rfl rfl hd.1 hd.2.1 rfl a5) ?_;refine cL (eE rfl rfl hd.1 hd.2.1 a5) ?_;refine cL (dj 0 (i:=i_3) (j:=0) rfl rfl rfl hd.1 hd.2.1 a5 rfl (GDomain.c0 (hd.2.2 i_3 a5))) ?_;refine jE ?_;refine T.cond rfl (fun h6=>?_) (fun h6=>?_)
     ·have p6:=of_decide_eq_true h6;replace hk:=dr hk h6;refine T.exit (gg (jt ?_));exact q5n
     ·have p6:=of_decide_eq_false h6;replace hk:=dq hk h6;refine iO ?_;refine dA ?_;have hq:=eS hk;clear hk;obtain ⟨f7,kk7,hf7,hkk7,hk⟩:=hq;refine eA ?_;refine T.loop (ι:=Nat) (fun z=>[(0,vd),(1, .int .i64 station),(2, .int .i64 channel),(7, .int .i64 (i_3:Int)),(8, .int .i64 (z:Int))]) (fun z=>[.fr F1]) (fun z=>c6 f7 kk7 ((((cJ d i_3).Channels).length) - z) z ()=r) (fun z=>(((cJ d i_3).Channels).length) - z) 0 ?_ ?_ ?_ ?_
      ·exact hk
      ·exact jM
      ·exact eh
      ·rintro k_8 hk;refine T.seq (dh ?_);refine eB ?_;refine q2X ?_;have hd27_1:=(GDomain.c1 (hd.2.2 i_3 a5)).2;haveI:=hd27_1.oneC;refine cL (df rfl rfl hd27_1 (List.length_map _)) ?_;have hm28:((cJ d i_3).Channels).length≤9223372036854775807:=(List.length_map _)▸hd27_1.max;refine dA ?_;refine T.cond rfl (fun h9=>?_) (fun h9=>?_)
       ·have p9:=of_decide_eq_true h9;rw [eQ a5] at hk;generalize hn7:c6 f7 kk7 ((((cJ d i_3).Channels).length) - (k_8+1)) (k_8+1)=next7 at hk;rw [←hf7] at hk; (try dsimp only at hk);refine fh ?_;refine d8 ?_;refine q2X ?_;refine di ?_;refine cL (c8 (i:=k_8) rfl rfl rfl hd27_1 (List.length_map _) rfl a5) ?_;refine cL (dN 0 (i:=k_8) (j:=0) rfl rfl rfl hd27_1 a5) ?_;refine jE ?_;refine T.cond rfl (fun h10=>?_) (fun h10=>?_)
        ·have p10:=of_decide_eq_true h10;replace hk:=dr hk h10;refine q2L ?_;subst hk;exact dW
        ·have p10:=of_decide_eq_false h10;replace hk:=dq hk h10;refine ga ?_;rw [←hn7] at hk;exact K.next (k_8+1) hk a5 (.c (.c (.c (.c (.c .nil))))) (List.Sublist.refl _)
       ·have p9:=of_decide_eq_false h9;rw [eO a5,←hkk7] at hk; (try dsimp only at hk);refine q36 ?_;exact q5n
    ·rintro _ hk;rw [←hk5] at hk; (try dsimp only at hk);refine gM ?_;refine jH ?_;rw [←hn2] at hk;exact q5o
   ·have p4:=of_decide_eq_false h4;rw [eO a5,←hkk2] at hk; (try dsimp only at hk);refine eC ?_;exact jS
 ·rintro _ hk;rw [←hk1] at hk; (try dsimp only at hk);refine jB ?_;subst hk;exact dW
def zbS (p:GProblem)(d:List GDomain)(s:Int)(c:Int):Bool:=
 dH (fun (_:Unit)=>
  false)
 (fun k1=>
  c6 (fun (i_3:Nat) (next2:Unit→Bool) (_:Unit)=>
   (bif (((decide ((cJ p.Rules.Pairs i_3).A=s))&&(lK ((cJ p.Rules.Pairs i_3).Low) c ((cJ p.Rules.Pairs i_3).High)))&&(lX d ((cJ p.Rules.Pairs i_3).B) (wI (c+((cJ p.Rules.Pairs i_3).Offset))))) then
    true
    else
    (bif (((decide ((cJ p.Rules.Pairs i_3).B=s))&&(lK ((cJ p.Rules.Pairs i_3).Low) (wI (c - ((cJ p.Rules.Pairs i_3).Offset))) ((cJ p.Rules.Pairs i_3).High)))&&(lX d ((cJ p.Rules.Pairs i_3).A) (wI (c - ((cJ p.Rules.Pairs i_3).Offset))))) then
     true
     else
     next2 ())))
  (fun (_:Unit)=>
   k1 ()) (p.Rules.Pairs.length - 0) 0 ())
theorem zhm (F0:Frz)(w:World)(hF0:F0.At w)(p:GProblem)(vp_0:Value)(cp_0:List (List Value))(hp_0:SlD cK F0 vp_0 2 cp_0 p.Domains)(vp_1:Value)(hp_1:SlC F0 vp_1 5 (p.Rules.Pairs.map cO))(vp_2:Value)(hp_2:SlC F0 vp_2 5 (p.Rules.Loads.map cP))(vp_3:Value)(hp_3:SlC F0 vp_3 4 (p.Rules.Caps.map cR))(d:List GDomain)(vd:Value)(cd:List (List Value))(hd:SlD cK F0 vd 2 cd d)(s:Int)(c:Int):Calls Tryz.prog 171 #[.agg [vp_0,vp_1,vp_2,vp_3].toArray,vd, .int .i64 s, .int .i64 c] w fun e w'=>e= .returned (.bool (zbS p d s c))∧Below w.heap.size w w':=by
 obtain ⟨r,hk⟩:∃r,zbS p d s c=r:=⟨_,rfl⟩;rw [hk];unfold zbS at hk;haveI:=hp_0.1.oneC;haveI:=hp_1.oneC;haveI:=hp_2.oneC;haveI:=hp_3.oneC;haveI:=hd.1.oneC;obtain ⟨S0,F1,rfl,hS0,hp0⟩:=ey hF0;refine dt Tryz.func171 rfl rfl rfl hp0 ?_;refine gp ?_;rintro _ _ ⟨g4,rfl,rfl⟩;refine mX ?_;have hq:=d7 hk;clear hk;obtain ⟨k1,hk1,hk⟩:=hq; (try dsimp only at hk);refine cZ (ι:=Unit) (fun z=>[]) (fun z=>[.fr F1]) (fun z=>k1 ()=r) ?_ ?_
 ·have hq:=eS hk;clear hk;obtain ⟨f2,kk2,hf2,hkk2,hk⟩:=hq;refine eA ?_;refine T.loop (ι:=Nat) (fun z=>[(1,vd),(2, .int .i64 s),(3, .int .i64 c),(4, .pointer (some ⟨g4,0,none⟩)),(9, .int .i64 (z:Int))]) (fun z=>[.row g4 29 [vp_0,vp_1,vp_2,vp_3], .fr F1]) (fun z=>c6 f2 kk2 (p.Rules.Pairs.length - z) z ()=r) (fun z=>p.Rules.Pairs.length - z) 0 ?_ ?_ ?_ ?_
  ·exact hk
  ·exact jM
  ·exact eh
  ·rintro i_3 hk;refine jz ?_;refine q4r ?_;have hm15:p.Rules.Pairs.length≤9223372036854775807:=(List.length_map _)▸hp_1.max;refine dA ?_;refine T.cond rfl (fun h4=>?_) (fun h4=>?_)
   ·have p4:=of_decide_eq_true h4;rw [eQ a5] at hk;generalize hn2:c6 f2 kk2 (p.Rules.Pairs.length - (i_3+1)) (i_3+1)=next2 at hk;rw [←hf2] at hk; (try dsimp only at hk);refine fh ?_;refine fc ?_;refine i2 ?_;refine cL (c8 (i:=i_3) rfl rfl rfl hp_1 (List.length_map _) rfl a5) ?_;refine cL (eg 1 (i:=i_3) rfl rfl rfl hp_1 a5) ?_;refine fX ?_;rintro _ _ ⟨g10,rfl,rfl⟩;refine j8 ?_;refine mo ?_;refine cZ (ι:=Unit) (fun z=>[(1,vd),(2, .int .i64 s),(3, .int .i64 c),(4, .pointer (some ⟨g4,0,none⟩)),(9, .int .i64 (i_3:Int)),(10, .pointer (some ⟨g10,0,none⟩)),(46, .bool (((decide ((cJ p.Rules.Pairs i_3).A=s))&&(lK ((cJ p.Rules.Pairs i_3).Low) c ((cJ p.Rules.Pairs i_3).High)))&&(lX d ((cJ p.Rules.Pairs i_3).B) (wI (c+((cJ p.Rules.Pairs i_3).Offset))))))]) (fun z=>[.row g10 100 [.int .i64 ((cJ p.Rules.Pairs i_3).A), .int .i64 ((cJ p.Rules.Pairs i_3).B), .int .i64 ((cJ p.Rules.Pairs i_3).Offset), .int .i64 ((cJ p.Rules.Pairs i_3).Low), .int .i64 ((cJ p.Rules.Pairs i_3).High)], .row g4 29 [vp_0,vp_1,vp_2,vp_3], .fr F1]) (fun z=>True) ?_ ?_
    ·refine lj ?_;refine eB ?_;refine dn rfl rfl rfl (fun h5=>?_) (fun h5=>?_)
     ·have p5:=of_decide_eq_true h5;refine i2 ?_;refine ef ?_;refine cU (cM rfl rfl rfl (fun w hw=>zcx _ w (hw.fr (i:=2) rfl) ((cJ p.Rules.Pairs i_3).Low) c ((cJ p.Rules.Pairs i_3).High))) ?_;refine kx ?_;refine dn rfl rfl rfl (fun h6=>?_) (fun h6=>?_)
      ·refine di ?_;refine i2 ?_;refine i2 ?_;refine cU (cM rfl rfl rfl (fun w hw=>zdb _ w (hw.fr (i:=2) rfl) d vd cd hd ((cJ p.Rules.Pairs i_3).B) (wI (c+((cJ p.Rules.Pairs i_3).Offset))))) ?_;refine kq ?_;refine eW ?_;exact cS () trivial (.c (.c (.c (.c (.c (.c (.b (ku (jn h5 h6)) .nil))))))) (List.Sublist.refl _)
      ·refine TL.run 9 rfl ?_;refine eW ?_;exact cS () trivial (.c (.c (.c (.c (.c (.c (.b (gr (jn h5 h6)).symm .nil))))))) (List.Sublist.refl _)
     ·have p5:=of_decide_eq_false h5;refine TL.run 17 rfl ?_;refine eW ?_;exact cS () trivial (.c (.c (.c (.c (.c (.c (.b (gr (gr h5)).symm .nil))))))) (List.Sublist.refl _)
    ·rintro _ _;refine T.cond rfl (fun h7=>?_) (fun h7=>?_)
     ·have p7:=h7; (try simp only [cX] at p7);replace hk:=dr hk h7;refine gy ?_;refine q19 ?_;subst hk;exact dW
     ·replace hk:=dq hk h7;refine jh ?_;refine cZ (ι:=Unit) (fun z=>[(1,vd),(2, .int .i64 s),(3, .int .i64 c),(4, .pointer (some ⟨g4,0,none⟩)),(9, .int .i64 (i_3:Int)),(71, .bool (((decide ((cJ p.Rules.Pairs i_3).B=s))&&(lK ((cJ p.Rules.Pairs i_3).Low) (wI (c - ((cJ p.Rules.Pairs i_3).Offset))) ((cJ p.Rules.Pairs i_3).High)))&&(lX d ((cJ p.Rules.Pairs i_3).A) (wI (c - ((cJ p.Rules.Pairs i_3).Offset))))))]) (fun z=>[.row g10 100 [.int .i64 ((cJ p.Rules.Pairs i_3).A), .int .i64 ((cJ p.Rules.Pairs i_3).B), .int .i64 ((cJ p.Rules.Pairs i_3).Offset), .int .i64 ((cJ p.Rules.Pairs i_3).Low), .int .i64 ((cJ p.Rules.Pairs i_3).High)], .row g4 29 [vp_0,vp_1,vp_2,vp_3], .fr F1]) (fun z=>True) ?_ ?_
      ·refine lj ?_;refine eB ?_;refine dn rfl rfl rfl (fun h8=>?_) (fun h8=>?_)
       ·have p8:=of_decide_eq_true h8;refine i2 ?_;refine i2 ?_;refine ef ?_;refine cU (cM rfl rfl rfl (fun w hw=>zcx _ w (hw.fr (i:=2) rfl) ((cJ p.Rules.Pairs i_3).Low) (wI (c - ((cJ p.Rules.Pairs i_3).Offset))) ((cJ p.Rules.Pairs i_3).High))) ?_;refine kx ?_;refine dn rfl rfl rfl (fun h9=>?_) (fun h9=>?_)
        ·refine di ?_;refine i2 ?_;refine i2 ?_;refine cU (cM rfl rfl rfl (fun w hw=>zdb _ w (hw.fr (i:=2) rfl) d vd cd hd ((cJ p.Rules.Pairs i_3).A) (wI (c - ((cJ p.Rules.Pairs i_3).Offset))))) ?_;refine kq ?_;refine eW ?_;exact cS () trivial (.c (.c (.c (.c (.c (.b (ku (jn h8 h9)) .nil)))))) (List.Sublist.refl _)
        ·refine TL.run 9 rfl ?_;refine eW ?_;exact cS () trivial (.c (.c (.c (.c (.c (.b (gr (jn h8 h9)).symm .nil)))))) (List.Sublist.refl _)
       ·have p8:=of_decide_eq_false h8;refine TL.run 20 rfl ?_;refine eW ?_;exact cS () trivial (.c (.c (.c (.c (.c (.b (gr (gr h8)).symm .nil)))))) (List.Sublist.refl _)
      ·rintro _ _;refine T.cond rfl (fun h10=>?_) (fun h10=>?_)
       ·have p10:=h10; (try simp only [cX] at p10);replace hk:=dr hk h10;refine gN ?_;subst hk;exact dW
       ·replace hk:=dq hk h10;refine ga ?_;rw [←hn2] at hk;refine mV ?_;exact q5p
   ·have p4:=of_decide_eq_false h4;rw [eO a5,←hkk2] at hk; (try dsimp only at hk);refine nI ?_;exact jS
 ·rintro _ hk;rw [←hk1] at hk; (try dsimp only at hk);refine jB ?_;subst hk;exact dW
def nt (p:GProblem)(d:List GDomain)(to_:Int)(c:Int)(further:Int):Int:=
 dH (fun (n_1:Int)=>
  n_1)
 (fun k2=>
  c6 (fun (i_5:Nat) (next4:Int→Int) (n_3:Int)=>
   (bif (((decide ((cJ p.Rules.Loads i_5).To=to_))&&(lK ((cJ p.Rules.Loads i_5).Low) c ((cJ p.Rules.Loads i_5).High)))&&((decide ((cJ p.Rules.Loads i_5).From=further))||(lX d ((cJ p.Rules.Loads i_5).From) c))) then
    next4 (wI (n_3+((cJ p.Rules.Loads i_5).Weight)))
    else
    next4 n_3))
  (fun (n_3:Int)=>
   k2 n_3) (p.Rules.Loads.length - 0) 0 0)
theorem zg3 (F0:Frz)(w:World)(hF0:F0.At w)(p:GProblem)(vp_0:Value)(cp_0:List (List Value))(hp_0:SlD cK F0 vp_0 2 cp_0 p.Domains)(vp_1:Value)(hp_1:SlC F0 vp_1 5 (p.Rules.Pairs.map cO))(vp_2:Value)(hp_2:SlC F0 vp_2 5 (p.Rules.Loads.map cP))(vp_3:Value)(hp_3:SlC F0 vp_3 4 (p.Rules.Caps.map cR))(d:List GDomain)(vd:Value)(cd:List (List Value))(hd:SlD cK F0 vd 2 cd d)(to_:Int)(c:Int)(further:Int):Calls Tryz.prog 173 #[.agg [vp_0,vp_1,vp_2,vp_3].toArray,vd, .int .i64 to_, .int .i64 c, .int .i64 further] w fun e w'=>e= .returned (.int .i64 (nt p d to_ c further))∧Below w.heap.size w w':=by
 obtain ⟨r,hk⟩:∃r,nt p d to_ c further=r:=⟨_,rfl⟩;rw [hk];unfold nt at hk;haveI:=hp_0.1.oneC;haveI:=hp_1.oneC;haveI:=hp_2.oneC;haveI:=hp_3.oneC;haveI:=hd.1.oneC;obtain ⟨S0,F1,rfl,hS0,hp0⟩:=ey hF0;refine dt Tryz.func173 rfl rfl rfl hp0 ?_;refine gp ?_;rintro _ _ ⟨g5,rfl,rfl⟩;refine gF ?_;refine mX ?_;have hq:=d7 hk;clear hk;obtain ⟨k2,hk2,hk⟩:=hq; (try dsimp only at hk);refine cZ (ι:=Int) (fun z=>[(11, .int .i64 z)]) (fun z=>[.fr F1]) (fun z=>k2 z=r) ?_ ?_
 ·have hq:=eS hk;clear hk;obtain ⟨f4,kk4,hf4,hkk4,hk⟩:=hq;refine eA ?_;refine T.loop (ι:=Nat×Int) (fun z=>[(1,vd),(2, .int .i64 to_),(3, .int .i64 c),(4, .int .i64 further),(5, .pointer (some ⟨g5,0,none⟩)),(11, .int .i64 z.2),(12, .int .i64 (z.1:Int))]) (fun z=>[.row g5 29 [vp_0,vp_1,vp_2,vp_3], .fr F1]) (fun z=>c6 f4 kk4 (p.Rules.Loads.length - z.1) z.1 z.2=r) (fun z=>p.Rules.Loads.length - z.1) (0,0) ?_ ?_ ?_ ?_
  ·exact hk
  ·exact q4Y
  ·exact eh
  ·rintro ⟨i_5,n_3⟩ hk; (try dsimp only at *);refine jz ?_;refine q3m ?_;have hm18:p.Rules.Loads.length≤9223372036854775807:=(List.length_map _)▸hp_2.max;refine dA ?_;refine T.cond rfl (fun h6=>?_) (fun h6=>?_)
   ·have p6:=of_decide_eq_true h6;rw [eQ a5] at hk;generalize hn4:c6 f4 kk4 (p.Rules.Loads.length - (i_5+1)) (i_5+1)=next4 at hk;rw [←hf4] at hk; (try dsimp only at hk);refine fh ?_;refine fc ?_;refine i2 ?_;refine cL (c8 (i:=i_5) rfl rfl rfl hp_2 (List.length_map _) rfl a5) ?_;refine cL (eg 1 (i:=i_5) rfl rfl rfl hp_2 a5) ?_;refine fX ?_;rintro _ _ ⟨g13,rfl,rfl⟩;refine kK ?_;refine cZ (ι:=Unit) (fun z=>[(1,vd),(2, .int .i64 to_),(3, .int .i64 c),(4, .int .i64 further),(5, .pointer (some ⟨g5,0,none⟩)),(11, .int .i64 n_3),(12, .int .i64 (i_5:Int)),(13, .pointer (some ⟨g13,0,none⟩)),(52, .bool (((decide ((cJ p.Rules.Loads i_5).To=to_))&&(lK ((cJ p.Rules.Loads i_5).Low) c ((cJ p.Rules.Loads i_5).High)))&&((decide ((cJ p.Rules.Loads i_5).From=further))||(lX d ((cJ p.Rules.Loads i_5).From) c))))]) (fun z=>[.row g13 102 [.int .i64 ((cJ p.Rules.Loads i_5).To), .int .i64 ((cJ p.Rules.Loads i_5).From), .int .i64 ((cJ p.Rules.Loads i_5).Weight), .int .i64 ((cJ p.Rules.Loads i_5).Low), .int .i64 ((cJ p.Rules.Loads i_5).High)], .row g5 29 [vp_0,vp_1,vp_2,vp_3], .fr F1]) (fun z=>True) ?_ ?_
    ·refine lj ?_;refine eB ?_;refine dn rfl rfl rfl (fun h7=>?_) (fun h7=>?_)
     ·have p7:=of_decide_eq_true h7;refine i2 ?_;refine ef ?_;refine cU (cM rfl rfl rfl (fun w hw=>zcx _ w (hw.fr (i:=2) rfl) ((cJ p.Rules.Loads i_5).Low) c ((cJ p.Rules.Loads i_5).High))) ?_;refine kx ?_;refine dn rfl rfl rfl (fun h8=>?_) (fun h8=>?_)
      ·refine ef ?_;refine eB ?_;refine dn rfl rfl rfl (fun h9=>?_) (fun h9=>?_)
       ·have p9:=of_decide_eq_true h9;refine TL.run 7 rfl ?_;refine eW ?_;exact cS () trivial (.c (.c (.c (.c (.c (.c (.c (.c (.b (jn (jn h7 h8) (ie h9)).symm .nil))))))))) (List.Sublist.refl _)
       ·have p9:=of_decide_eq_false h9;refine di ?_;refine i2 ?_;refine cU (cM rfl rfl rfl (fun w hw=>zdb _ w (hw.fr (i:=2) rfl) d vd cd hd ((cJ p.Rules.Loads i_5).From) c)) ?_;refine lc ?_;exact cS () trivial (.c (.c (.c (.c (.c (.c (.c (.c (.b (Eq.trans (f9 h9) (ku (jn h7 h8))) .nil))))))))) (List.Sublist.refl _)
      ·refine TL.run 12 rfl ?_;refine eW ?_;exact cS () trivial (.c (.c (.c (.c (.c (.c (.c (.c (.b (gr (jn h7 h8)).symm .nil))))))))) (List.Sublist.refl _)
     ·have p7:=of_decide_eq_false h7;refine TL.run 20 rfl ?_;refine eW ?_;exact cS () trivial (.c (.c (.c (.c (.c (.c (.c (.c (.b (gr (gr h7)).symm .nil))))))))) (List.Sublist.refl _)
    ·rintro _ _;refine T.cond rfl (fun h10=>?_) (fun h10=>?_)
     ·have p10:=h10; (try simp only [cX] at p10);replace hk:=dr hk h10;refine gM ?_;refine ef ?_;refine d8 ?_;refine q4o ?_;rw [←hn4] at hk;refine mV ?_;exact K.next ((i_5+1),wI (n_3+((cJ p.Rules.Loads i_5).Weight))) hk (by dsimp only;omega) (.c (.c (.c (.c (.c (.c (.c .nil))))))) (List.Sublist.refl _)
     ·replace hk:=dq hk h10;refine ga ?_;rw [←hn4] at hk;refine mV ?_;exact K.next ((i_5+1),n_3) hk (by dsimp only;omega) (.c (.c (.c (.c (.c (.c (.c .nil))))))) (List.Sublist.refl _)
   ·have p6:=of_decide_eq_false h6;rw [eO a5,←hkk4] at hk; (try dsimp only at hk);refine nI ?_;exact cS n_3 hk (.c .nil) (List.Sublist.refl _)
 ·rintro n_1 hk;rw [←hk2] at hk; (try dsimp only at hk);refine jg ?_;refine fW ?_;subst hk;exact dW
def zbP (p:GProblem)(station:Int)(c:Int)(loss:Int):Bool:=
 dH (fun (_:Unit)=>
  false)
 (fun k1=>
  c6 (fun (i_3:Nat) (next2:Unit→Bool) (_:Unit)=>
   (bif (((decide ((cJ p.Rules.Caps i_3).Station=station))&&(lK ((cJ p.Rules.Caps i_3).Low) c ((cJ p.Rules.Caps i_3).High)))&&(decide ((cJ p.Rules.Caps i_3).Max<loss))) then
    true
    else
    next2 ()))
  (fun (_:Unit)=>
   k1 ()) (p.Rules.Caps.length - 0) 0 ())
theorem zf7 (F0:Frz)(w:World)(hF0:F0.At w)(p:GProblem)(vp_0:Value)(cp_0:List (List Value))(hp_0:SlD cK F0 vp_0 2 cp_0 p.Domains)(vp_1:Value)(hp_1:SlC F0 vp_1 5 (p.Rules.Pairs.map cO))(vp_2:Value)(hp_2:SlC F0 vp_2 5 (p.Rules.Loads.map cP))(vp_3:Value)(hp_3:SlC F0 vp_3 4 (p.Rules.Caps.map cR))(station:Int)(c:Int)(loss:Int):Calls Tryz.prog 172 #[.agg [vp_0,vp_1,vp_2,vp_3].toArray, .int .i64 station, .int .i64 c, .int .i64 loss] w fun e w'=>e= .returned (.bool (zbP p station c loss))∧Below w.heap.size w w':=by
 obtain ⟨r,hk⟩:∃r,zbP p station c loss=r:=⟨_,rfl⟩;rw [hk];unfold zbP at hk;haveI:=hp_0.1.oneC;haveI:=hp_1.oneC;haveI:=hp_2.oneC;haveI:=hp_3.oneC;obtain ⟨S0,F1,rfl,hS0,hp0⟩:=ey hF0;refine dt Tryz.func172 rfl rfl rfl hp0 ?_;refine gp ?_;rintro _ _ ⟨g4,rfl,rfl⟩;refine mX ?_;have hq:=d7 hk;clear hk;obtain ⟨k1,hk1,hk⟩:=hq; (try dsimp only at hk);refine cZ (ι:=Unit) (fun z=>[]) (fun z=>[.fr F1]) (fun z=>k1 ()=r) ?_ ?_
 ·have hq:=eS hk;clear hk;obtain ⟨f2,kk2,hf2,hkk2,hk⟩:=hq;refine eA ?_;refine T.loop (ι:=Nat) (fun z=>[(1, .int .i64 station),(2, .int .i64 c),(3, .int .i64 loss),(4, .pointer (some ⟨g4,0,none⟩)),(9, .int .i64 (z:Int))]) (fun z=>[.row g4 29 [vp_0,vp_1,vp_2,vp_3], .fr F1]) (fun z=>c6 f2 kk2 (p.Rules.Caps.length - z) z ()=r) (fun z=>p.Rules.Caps.length - z) 0 ?_ ?_ ?_ ?_
  ·exact hk
  ·exact jM
  ·exact eh
  ·rintro i_3 hk;refine jz ?_;refine q4w ?_;have hm15:p.Rules.Caps.length≤9223372036854775807:=(List.length_map _)▸hp_3.max;refine dA ?_;refine T.cond rfl (fun h4=>?_) (fun h4=>?_)
   ·have p4:=of_decide_eq_true h4;rw [eQ a5] at hk;generalize hn2:c6 f2 kk2 (p.Rules.Caps.length - (i_3+1)) (i_3+1)=next2 at hk;rw [←hf2] at hk; (try dsimp only at hk);refine fh ?_;refine fc ?_;refine i2 ?_;refine cL (c8 (i:=i_3) rfl rfl rfl hp_3 (List.length_map _) rfl a5) ?_;refine cL (eg 1 (i:=i_3) rfl rfl rfl hp_3 a5) ?_;refine fX ?_;rintro _ _ ⟨g10,rfl,rfl⟩;refine kK ?_;refine cZ (ι:=Unit) (fun z=>[(1, .int .i64 station),(2, .int .i64 c),(3, .int .i64 loss),(4, .pointer (some ⟨g4,0,none⟩)),(9, .int .i64 (i_3:Int)),(42, .bool (((decide ((cJ p.Rules.Caps i_3).Station=station))&&(lK ((cJ p.Rules.Caps i_3).Low) c ((cJ p.Rules.Caps i_3).High)))&&(decide ((cJ p.Rules.Caps i_3).Max<loss))))]) (fun z=>[.row g10 104 [.int .i64 ((cJ p.Rules.Caps i_3).Station), .int .i64 ((cJ p.Rules.Caps i_3).Max), .int .i64 ((cJ p.Rules.Caps i_3).Low), .int .i64 ((cJ p.Rules.Caps i_3).High)], .row g4 29 [vp_0,vp_1,vp_2,vp_3], .fr F1]) (fun z=>True) ?_ ?_
    ·refine lj ?_;refine eB ?_;refine dn rfl rfl rfl (fun h5=>?_) (fun h5=>?_)
     ·have p5:=of_decide_eq_true h5;refine i2 ?_;refine ef ?_;refine cU (cM rfl rfl rfl (fun w hw=>zcx _ w (hw.fr (i:=2) rfl) ((cJ p.Rules.Caps i_3).Low) c ((cJ p.Rules.Caps i_3).High))) ?_;refine kx ?_;refine dn rfl rfl rfl (fun h6=>?_) (fun h6=>?_)
      ·refine di ?_;refine ef ?_;refine d8 ?_;refine eW ?_;exact cS () trivial (.c (.c (.c (.c (.c (.b (ku (jn h5 h6)) .nil)))))) (List.Sublist.refl _)
      ·refine lg ?_;exact cS () trivial (.c (.c (.c (.c (.c (.b (gr (jn h5 h6)).symm .nil)))))) (List.Sublist.refl _)
     ·have p5:=of_decide_eq_false h5;refine TL.run 13 rfl ?_;refine eW ?_;exact cS () trivial (.c (.c (.c (.c (.c (.b (gr (gr h5)).symm .nil)))))) (List.Sublist.refl _)
    ·rintro _ _;refine T.cond rfl (fun h7=>?_) (fun h7=>?_)
     ·have p7:=h7; (try simp only [cX] at p7);replace hk:=dr hk h7;refine gN ?_;subst hk;exact dW
     ·replace hk:=dq hk h7;refine ga ?_;rw [←hn2] at hk;refine mV ?_;exact q5p
   ·have p4:=of_decide_eq_false h4;rw [eO a5,←hkk2] at hk; (try dsimp only at hk);refine nI ?_;exact jS
 ·rintro _ hk;rw [←hk1] at hk; (try dsimp only at hk);refine jB ?_;subst hk;exact dW
def zbV (p:GProblem)(d:List GDomain)(s:Int)(c:Int):Bool:=
 dH (fun (_:Unit)=>
  false)
 (fun k1=>
  c6 (fun (i_3:Nat) (next2:Unit→Bool) (_:Unit)=>
   (bif ((((decide ((cJ p.Rules.Loads i_3).From=s))&&(lK ((cJ p.Rules.Loads i_3).Low) c ((cJ p.Rules.Loads i_3).High)))&&(lX d ((cJ p.Rules.Loads i_3).To) c))&&(zbP p ((cJ p.Rules.Loads i_3).To) c (nt p d ((cJ p.Rules.Loads i_3).To) c s))) then
    true
    else
    next2 ()))
  (fun (_:Unit)=>
   k1 ()) (p.Rules.Loads.length - 0) 0 ())
theorem zhp (F0:Frz)(w:World)(hF0:F0.At w)(p:GProblem)(vp_0:Value)(cp_0:List (List Value))(hp_0:SlD cK F0 vp_0 2 cp_0 p.Domains)(vp_1:Value)(hp_1:SlC F0 vp_1 5 (p.Rules.Pairs.map cO))(vp_2:Value)(hp_2:SlC F0 vp_2 5 (p.Rules.Loads.map cP))(vp_3:Value)(hp_3:SlC F0 vp_3 4 (p.Rules.Caps.map cR))(d:List GDomain)(vd:Value)(cd:List (List Value))(hd:SlD cK F0 vd 2 cd d)(s:Int)(c:Int):Calls Tryz.prog 174 #[.agg [vp_0,vp_1,vp_2,vp_3].toArray,vd, .int .i64 s, .int .i64 c] w fun e w'=>e= .returned (.bool (zbV p d s c))∧Below w.heap.size w w':=by
 obtain ⟨r,hk⟩:∃r,zbV p d s c=r:=⟨_,rfl⟩;rw [hk];unfold zbV at hk;haveI:=hp_0.1.oneC;haveI:=hp_1.oneC;haveI:=hp_2.oneC;haveI:=hp_3.oneC;haveI:=hd.1.oneC;obtain ⟨S0,F1,rfl,hS0,hp0⟩:=ey hF0;refine dt Tryz.func174 rfl rfl rfl hp0 ?_;refine gp ?_;rintro _ _ ⟨g4,rfl,rfl⟩;refine mX ?_;have hq:=d7 hk;clear hk;obtain ⟨k1,hk1,hk⟩:=hq; (try dsimp only at hk);refine cZ (ι:=Unit) (fun z=>[]) (fun z=>[.fr F1]) (fun z=>k1 ()=r) ?_ ?_
 ·have hq:=eS hk;clear hk;obtain ⟨f2,kk2,hf2,hkk2,hk⟩:=hq;refine eA ?_;refine T.loop (ι:=Nat) (fun z=>[(1,vd),(2, .int .i64 s),(3, .int .i64 c),(4, .pointer (some ⟨g4,0,none⟩)),(9, .int .i64 (z:Int))]) (fun z=>[.row g4 29 [vp_0,vp_1,vp_2,vp_3], .fr F1]) (fun z=>c6 f2 kk2 (p.Rules.Loads.length - z) z ()=r) (fun z=>p.Rules.Loads.length - z) 0 ?_ ?_ ?_ ?_
  ·exact hk
  ·exact jM
  ·exact eh
  ·rintro i_3 hk;refine jz ?_;refine q3m ?_;have hm15:p.Rules.Loads.length≤9223372036854775807:=(List.length_map _)▸hp_2.max;refine dA ?_;refine T.cond rfl (fun h4=>?_) (fun h4=>?_)
   ·have p4:=of_decide_eq_true h4;rw [eQ a5] at hk;generalize hn2:c6 f2 kk2 (p.Rules.Loads.length - (i_3+1)) (i_3+1)=next2 at hk;rw [←hf2] at hk; (try dsimp only at hk);refine fh ?_;refine fc ?_;refine i2 ?_;refine cL (c8 (i:=i_3) rfl rfl rfl hp_2 (List.length_map _) rfl a5) ?_;refine cL (eg 1 (i:=i_3) rfl rfl rfl hp_2 a5) ?_;refine fX ?_;rintro _ _ ⟨g10,rfl,rfl⟩;refine kK ?_;refine cZ (ι:=Unit) (fun z=>[(1,vd),(2, .int .i64 s),(3, .int .i64 c),(4, .pointer (some ⟨g4,0,none⟩)),(9, .int .i64 (i_3:Int)),(57, .bool ((((decide ((cJ p.Rules.Loads i_3).From=s))&&(lK ((cJ p.Rules.Loads i_3).Low) c ((cJ p.Rules.Loads i_3).High)))&&(lX d ((cJ p.Rules.Loads i_3).To) c))&&(zbP p ((cJ p.Rules.Loads i_3).To) c (nt p d ((cJ p.Rules.Loads i_3).To) c s))))]) (fun z=>[.row g10 102 [.int .i64 ((cJ p.Rules.Loads i_3).To), .int .i64 ((cJ p.Rules.Loads i_3).From), .int .i64 ((cJ p.Rules.Loads i_3).Weight), .int .i64 ((cJ p.Rules.Loads i_3).Low), .int .i64 ((cJ p.Rules.Loads i_3).High)], .row g4 29 [vp_0,vp_1,vp_2,vp_3], .fr F1]) (fun z=>True) ?_ ?_
    ·refine dD (sN 0 10 (.eff 10 (sN 11 6 (.eff 17 (sN 18 12 (.eff 30 (.eff 31 (.still 32 .done)))))))) _ a7 (List.Sublist.refl _) ?_;refine fQ ?_;refine gb ?_;refine dB rfl rfl rfl rfl (fun h5=>?_) (fun h5=>?_)
     ·have p5:=of_decide_eq_true h5;refine ni ?_;refine m0 ?_;refine cW rfl (Wt.some) rfl rfl (cM rfl rfl rfl (fun w hw=>zcx _ w (hw.fr (i:=2) rfl) ((cJ p.Rules.Loads i_3).Low) c ((cJ p.Rules.Loads i_3).High))) ?_;refine mL ?_;refine dB rfl rfl rfl rfl (fun h6=>?_) (fun h6=>?_)
      ·refine fK ?_;refine ni ?_;refine dy ?_;refine cW rfl (Wt.some) rfl rfl (cM rfl rfl rfl (fun w hw=>zdb _ w (hw.fr (i:=2) rfl) d vd cd hd ((cJ p.Rules.Loads i_3).To) c)) ?_;refine mL ?_;refine dB rfl rfl rfl rfl (fun h7=>?_) (fun h7=>?_)
       ·refine cQ rfl (dO 1) ?_;refine ni ?_;refine cQ rfl (dO 1) ?_;refine fK ?_;refine fQ ?_;refine gV ?_;refine dy ?_;refine cW rfl (Wt.some) rfl rfl (cM rfl rfl rfl (fun w hw=>zg3 _ w (hw.fr (i:=2) rfl) p vp_0 cp_0 hp_0 vp_1 hp_1 vp_2 hp_2 vp_3 hp_3 d vd cd hd ((cJ p.Rules.Loads i_3).To) c s)) ?_;refine iJ ?_;refine dy ?_;refine cW rfl (Wt.some) rfl rfl (cM rfl rfl rfl (fun w hw=>zf7 _ w (hw.fr (i:=2) rfl) p vp_0 cp_0 hp_0 vp_1 hp_1 vp_2 hp_2 vp_3 hp_3 ((cJ p.Rules.Loads i_3).To) c (nt p d ((cJ p.Rules.Loads i_3).To) c s))) ?_;refine iJ ?_;refine mO ?_;exact cS () trivial (.c (.c (.c (.c (.c (.b (ku (jn (jn h5 h6) h7)) .nil)))))) (List.Sublist.refl _)
       ·refine TS.run 10 rfl ?_;refine iX ?_;refine iX ?_;refine mO ?_;exact cS () trivial (.c (.c (.c (.c (.c (.b (gr (jn (jn h5 h6) h7)).symm .nil)))))) (List.Sublist.refl _)
      ·refine TS.run 4 rfl ?_;refine iX ?_;refine TS.run 12 rfl ?_;refine iX ?_;refine iX ?_;refine mO ?_;exact cS () trivial (.c (.c (.c (.c (.c (.b (gr (gr (jn h5 h6))).symm .nil)))))) (List.Sublist.refl _)
     ·have p5:=of_decide_eq_false h5;refine TS.run 5 rfl ?_;refine iX ?_;refine TS.run 6 rfl ?_;refine iX ?_;refine TS.run 12 rfl ?_;refine iX ?_;refine iX ?_;refine mO ?_;exact cS () trivial (.c (.c (.c (.c (.c (.b (gr (gr (gr h5))).symm .nil)))))) (List.Sublist.refl _)
    ·rintro _ _;refine T.cond rfl (fun h8=>?_) (fun h8=>?_)
     ·have p8:=h8; (try simp only [cX] at p8);replace hk:=dr hk h8;refine gN ?_;subst hk;exact dW
     ·replace hk:=dq hk h8;refine ga ?_;rw [←hn2] at hk;refine mV ?_;exact q5p
   ·have p4:=of_decide_eq_false h4;rw [eO a5,←hkk2] at hk; (try dsimp only at hk);refine nI ?_;exact jS
 ·rintro _ hk;rw [←hk1] at hk; (try dsimp only at hk);refine jB ?_;subst hk;exact dW
def zbH (p:GProblem)(d:List GDomain)(s:Int)(c:Int):Bool:=
 (((zbS p d s c)||(zbP p s c (nt p d s c (-1))))||(zbV p d s c))
theorem zgX (F0:Frz)(w:World)(hF0:F0.At w)(p:GProblem)(vp_0:Value)(cp_0:List (List Value))(hp_0:SlD cK F0 vp_0 2 cp_0 p.Domains)(vp_1:Value)(hp_1:SlC F0 vp_1 5 (p.Rules.Pairs.map cO))(vp_2:Value)(hp_2:SlC F0 vp_2 5 (p.Rules.Loads.map cP))(vp_3:Value)(hp_3:SlC F0 vp_3 4 (p.Rules.Caps.map cR))(d:List GDomain)(vd:Value)(cd:List (List Value))(hd:SlD cK F0 vd 2 cd d)(s:Int)(c:Int):Calls Tryz.prog 163 #[.agg [vp_0,vp_1,vp_2,vp_3].toArray,vd, .int .i64 s, .int .i64 c] w fun e w'=>e= .returned (.bool (zbH p d s c))∧Below w.heap.size w w':=by
 obtain ⟨r,hk⟩:∃r,zbH p d s c=r:=⟨_,rfl⟩;rw [hk];unfold zbH at hk;haveI:=hp_0.1.oneC;haveI:=hp_1.oneC;haveI:=hp_2.oneC;haveI:=hp_3.oneC;haveI:=hd.1.oneC;obtain ⟨S0,F1,rfl,hS0,hp0⟩:=ey hF0;refine dt Tryz.func163 rfl rfl rfl hp0 ?_;refine gp ?_;rintro _ _ ⟨g4,rfl,rfl⟩;refine j9 ?_;refine cZ (ι:=Unit) (fun z=>[(8, .bool (((zbS p d s c)||(zbP p s c (nt p d s c (-1))))||(zbV p d s c)))]) (fun z=>[.row g4 29 [vp_0,vp_1,vp_2,vp_3], .fr F1]) (fun z=>True) ?_ ?_
 ·refine dD (sN 0 4 (.eff 4 (sN 5 8 (.eff 13 (.eff 14 (sN 15 6 (.eff 21 (.still 22 (.still 23 .done))))))))) _ a7 (List.Sublist.refl _) ?_;refine jL ?_;refine gb ?_;refine dy ?_;refine cW rfl (Wt.none) rfl rfl (cM rfl rfl rfl (fun w hw=>zhm _ w (hw.fr (i:=1) rfl) p vp_0 cp_0 hp_0 vp_1 hp_1 vp_2 hp_2 vp_3 hp_3 d vd cd hd s c)) ?_;refine iJ ?_;refine fK ?_;refine dB rfl rfl rfl rfl (fun h1=>?_) (fun h1=>?_)
  ·refine TS.run 7 rfl ?_;refine iX ?_;refine iX ?_;refine TS.run 6 rfl ?_;refine iX ?_;refine kR ?_;exact cS () trivial (.b (ie (ie h1)).symm .nil) (List.Sublist.refl _)
  ·refine jL ?_;refine gV ?_;refine jL ?_;refine gb ?_;refine dy ?_;refine cW rfl (Wt.some) rfl rfl (cM rfl rfl rfl (fun w hw=>zg3 _ w (hw.fr (i:=1) rfl) p vp_0 cp_0 hp_0 vp_1 hp_1 vp_2 hp_2 vp_3 hp_3 d vd cd hd s c (-1))) ?_;refine iJ ?_;refine dy ?_;refine cW rfl (Wt.some) rfl rfl (cM rfl rfl rfl (fun w hw=>zf7 _ w (hw.fr (i:=1) rfl) p vp_0 cp_0 hp_0 vp_1 hp_1 vp_2 hp_2 vp_3 hp_3 s c (nt p d s c (-1)))) ?_;refine mL ?_;refine dB rfl rfl rfl rfl (fun h2=>?_) (fun h2=>?_)
   ·refine TS.run 4 rfl ?_;refine iX ?_;refine kR ?_;exact cS () trivial (.b (ie (jK h1 h2)).symm .nil) (List.Sublist.refl _)
   ·refine jL ?_;refine gb ?_;refine dy ?_;refine cW rfl (Wt.some) rfl rfl (cM rfl rfl rfl (fun w hw=>zhp _ w (hw.fr (i:=1) rfl) p vp_0 cp_0 hp_0 vp_1 hp_1 vp_2 hp_2 vp_3 hp_3 d vd cd hd s c)) ?_;refine iJ ?_;refine kR ?_;exact cS () trivial (.b (f9 (jK h1 h2)) .nil) (List.Sublist.refl _)
 ·refine m9 ?_;subst hk;exact dW
theorem zo3 {l:List Int}{n:Int}:ed l n=l.any fun k=>decide (k=n):=by
 unfold ed;refine ky ?_;rw [zdZ (fun i=>decide (cJ l i=n)) (fun i next _=>?_),zdJ (q:=fun k=>decide (k=n)),Bool.or_false]
 cases decide (cJ l i=n) <;> rfl
def jb (d:List GDomain)(s c:Int):Bool:=d.all fun x=>(decide (¬x.Station=s)||x.Channels.all fun k=>decide (k=c))
theorem zkl {d:List GDomain}{s c:Int}:lX d s c=jb d s c:=by
 unfold lX jb;refine ky ?_;rw [zcH (fun i=>(decide (¬(cJ d i).Station=s)||(cJ d i).Channels.all fun k=>decide (k=c))) (fun i next _=>?_),zcz (l:=d) (q:=fun x=>(decide (¬x.Station=s)||x.Channels.all fun k=>decide (k=c))),Bool.and_true];rw [zcH (fun k=>decide (cJ (cJ d i).Channels k=c)) (fun k nx _=>?_),zcz (q:=fun k=>decide (k=c))]
 ·cases decide (¬(cJ d i).Station=s) <;> rfl
 ·by_cases h:cJ (cJ d i).Channels k=c <;> simp [h]
theorem zgE {a b c:Int}:lK a b c=decide (a≤b∧b≤c):=by
 unfold lK;by_cases h1:a≤b <;> by_cases h2:b≤c <;> simp [h1,h2]
def zhW (d:List GDomain)(s c:Int)(x:GPair):Bool:=(decide (x.A=s)&&decide (x.Low≤c∧c≤x.High)&&jb d x.B (wI (c+x.Offset)))||(decide (x.B=s)&&decide (x.Low≤wI (c - x.Offset)∧wI (c - x.Offset)≤x.High)&&jb d x.A (wI (c - x.Offset)))
theorem zmX {p:GProblem}{d:List GDomain}{s c:Int}:zbS p d s c=p.Rules.Pairs.any (zhW d s c):=by
 unfold zbS;simp only [dH,Nat.sub_zero,zkl,zgE];rw [zdZ (fun i=>zhW d s c (cJ p.Rules.Pairs i)) (fun i next _=>?_),zdJ (q:=zhW d s c),Bool.or_false];unfold zhW;generalize (decide ((cJ p.Rules.Pairs i).A=s)&&decide ((cJ p.Rules.Pairs i).Low≤c∧c≤(cJ p.Rules.Pairs i).High)&&jb d (cJ p.Rules.Pairs i).B (wI (c+(cJ p.Rules.Pairs i).Offset)))=a
 cases a
 ·rw [cond_false,Bool.false_or];generalize (decide ((cJ p.Rules.Pairs i).B=s)&&decide ((cJ p.Rules.Pairs i).Low≤wI (c - (cJ p.Rules.Pairs i).Offset)∧wI (c - (cJ p.Rules.Pairs i).Offset)≤(cJ p.Rules.Pairs i).High)&&jb d (cJ p.Rules.Pairs i).A (wI (c - (cJ p.Rules.Pairs i).Offset)))=b
  cases b <;> rfl
 ·rfl
def loadC (d:List GDomain)(t c f:Int)(x:GLoad):Bool:=decide (x.To=t)&&decide (x.Low≤c∧c≤x.High)&&(decide (x.From=f)||jb d x.From c)
def iR (p:GProblem)(d:List GDomain)(t c f:Int):Int:=p.Rules.Loads.foldl (fun n x=>bif loadC d t c f x then wI (n+x.Weight) else n) 0
theorem zoV {p:GProblem}{d:List GDomain}{t c f:Int}:nt p d t c f=iR p d t c f:=by
 unfold nt iR;simp only [dH,Nat.sub_zero,zkl,zgE];rw [zkJ (fun i n=>bif loadC d t c f (cJ p.Rules.Loads i) then wI (n+(cJ p.Rules.Loads i).Weight) else n) (fun i next n _=>?_),zcn (g:=fun n x=>bif loadC d t c f x then wI (n+x.Weight) else n)];unfold loadC;generalize (decide ((cJ p.Rules.Loads i).To=t)&&decide ((cJ p.Rules.Loads i).Low≤c∧c≤(cJ p.Rules.Loads i).High)&&(decide ((cJ p.Rules.Loads i).From=f)||jb d (cJ p.Rules.Loads i).From c))=a
 cases a <;> rfl
def mS (p:GProblem)(s c l:Int):Bool:=p.Rules.Caps.any fun x=>decide (x.Station=s)&&decide (x.Low≤c∧c≤x.High)&&decide (x.Max<l)
theorem znS {p:GProblem}{s c l:Int}:zbP p s c l=mS p s c l:=by
 unfold zbP mS;simp only [dH,Nat.sub_zero,zgE];rw [zdZ (fun i=>decide ((cJ p.Rules.Caps i).Station=s)&&decide ((cJ p.Rules.Caps i).Low≤c∧c≤(cJ p.Rules.Caps i).High)&&decide ((cJ p.Rules.Caps i).Max<l)) (fun i next _=>?_),zdJ (l:=p.Rules.Caps) (q:=fun x=>decide (x.Station=s)&&decide (x.Low≤c∧c≤x.High)&&decide (x.Max<l)),Bool.or_false];generalize (decide ((cJ p.Rules.Caps i).Station=s)&&decide ((cJ p.Rules.Caps i).Low≤c∧c≤(cJ p.Rules.Caps i).High)&&decide ((cJ p.Rules.Caps i).Max<l))=a
 cases a <;> rfl
def loadR (p:GProblem)(d:List GDomain)(s c:Int)(x:GLoad):Bool:=decide (x.From=s)&&decide (x.Low≤c∧c≤x.High)&&jb d x.To c&&mS p x.To c (iR p d x.To c s)
theorem zm3 {p:GProblem}{d:List GDomain}{s c:Int}:zbV p d s c=p.Rules.Loads.any (loadR p d s c):=by
 unfold zbV;simp only [dH,Nat.sub_zero,zkl,zgE,znS,zoV];rw [zdZ (fun i=>loadR p d s c (cJ p.Rules.Loads i)) (fun i next _=>?_),zdJ (q:=loadR p d s c),Bool.or_false];unfold loadR;generalize (decide ((cJ p.Rules.Loads i).From=s)&&decide ((cJ p.Rules.Loads i).Low≤c∧c≤(cJ p.Rules.Loads i).High)&&jb d (cJ p.Rules.Loads i).To c&&mS p (cJ p.Rules.Loads i).To c (iR p d (cJ p.Rules.Loads i).To c s))=a
 cases a <;> rfl
def jj (p:GProblem)(d:List GDomain)(s c:Int):Bool:=p.Rules.Pairs.any (zhW d s c)||mS p s c (iR p d s c (-1))||p.Rules.Loads.any (loadR p d s c)
theorem zju {p:GProblem}{d:List GDomain}{s c:Int}:zbH p d s c=jj p d s c:=by
 unfold zbH jj;rw [zmX,znS,zoV,zm3]
def jc (s c:Int)(x:GDomain):GDomain:=⟨x.Station,x.Channels.filter fun k=>decide (¬x.Station=s)||decide (¬k=c)⟩
theorem zlS {d:List GDomain}{s c:Int}(hd:d.length≤100000)(hc:∀x∈d,x.Channels.length≤100000):zbx d s c=some (d.map (jc s c)):=by
 unfold zbx;refine ky ?_;refine (zbW (fun i out=>out.length=i) (fun i out=>out++[jc s c (cJ d i)]) rfl (fun i out _ h=>by simp [h]) (fun i next out hi hl=>?_)).1.trans ?_
 ·have hci:=hc (cJ d i) (by rw [dV hi];exact List.getElem_mem _);refine (zbW (fun k (t:Int×List Int)=>t.2.length≤k) (fun k t=>(t.1,bif (decide (¬(cJ d i).Station=s)||decide (¬cJ (cJ d i).Channels k=c)) then t.2++[cJ (cJ d i).Channels k] else t.2)) (by exact Nat.le_refl 0) (fun k t _ h=>?_) (fun k nx t hk ht=>?_)).1.trans ?_
  ·(try dsimp only)
   cases (decide (¬(cJ d i).Station=s)||decide (¬cJ (cJ d i).Channels k=c)) <;> simp <;> omega
  ·(try dsimp only)
   cases (decide (¬(cJ d i).Station=s)||decide (¬cJ (cJ d i).Channels k=c))
   ·rfl
   ·exact fE (by simp only [dl,List.length_append,List.length_singleton];omega)
  ·rw [zlq (g:=fun t k=>bif (decide (¬(cJ d i).Station=s)||decide (¬cJ (cJ d i).Channels k=c)) then t++[cJ (cJ d i).Channels k] else t),zcn (l:=(cJ d i).Channels) (g:=fun t k=>bif (decide (¬(cJ d i).Station=s)||decide (¬k=c)) then t++[k] else t),zk1 (g:=fun k=>k)];rw [fE (by simp only [dl,List.length_append,List.length_singleton];omega)];simp [jc]
 ·rw [zcn (l:=d) (g:=fun out x=>out++[jc s c x]),zhI];rfl
def i7 (s c:Int)(x:GDomain):GDomain:=⟨x.Station,bif decide (x.Station=s) then (bif x.Channels.any (fun k=>decide (k=c)) then [c] else []) else x.Channels⟩
theorem zmp {d:List GDomain}{s c:Int}(hd:d.length≤100000)(hc:∀x∈d,x.Channels.length≤100000):zb2 d s c=some (d.map (i7 s c)):=by
 unfold zb2;simp only [dH,Nat.sub_zero,zo3];refine (zbW (fun i out=>out.length=i) (fun i out=>out++[i7 s c (cJ d i)]) rfl (fun i out _ h=>by simp [h]) (fun i next out hi hl=>?_)).1.trans ?_
 ·have hci:=hc (cJ d i) (by rw [dV hi];exact List.getElem_mem _);rw [fE (by simp only [dl,List.nil_append];omega)]; (have hr:∀y:GDomain,dl (out++[y]).length 32:=fun y=>by simp only [dl,List.length_append,List.length_singleton];omega);simp only [fE (hr _),i7]
  cases decide ((cJ d i).Station=s) <;> cases ((cJ d i).Channels.any fun k=>decide (k=c)) <;> rfl
 ·rw [zcn (l:=d) (g:=fun out x=>out++[i7 s c x]),zhI];rfl
end Go.Proofs.YtogbggmckmnlfaaGreatDoor
