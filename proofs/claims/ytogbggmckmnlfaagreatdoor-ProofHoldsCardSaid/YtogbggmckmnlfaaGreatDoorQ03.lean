/- Ya Yd Cb Cc: shortened and put together by squeeze.py. -/
import Derived.Test.YtogbggmckmnlfaaGreatDoorQ02
set_option maxRecDepth 100000
set_option maxHeartbeats 4000000
set_option linter.unusedVariables false
set_option linter.unusedSectionVars false
set_option linter.unusedSimpArgs false
namespace Go.Proofs.YtogbggmckmnlfaaGreatDoor
open Go.RowKit
structure GDomain where
 Station:Int
 Channels:List Int
deriving DecidableEq,Inhabited
def cL (F:Frz)(c:List Value)(x:GDomain):Prop:=∃(v1:Value),c=[.int .i64 x.Station,v1]∧SlC F v1 1 (x.Channels.map eI)
theorem GDomain.mono {F G:Frz}{c:List Value}{x:GDomain}(hle:F.Le G)(h:cL F c x):cL G c x:=by
 obtain ⟨v1,h0,h2⟩:=h;exact ⟨v1,h0,h2.mono hle⟩
theorem GDomain.len {F:Frz}{c:List Value}{x:GDomain}(h:cL F c x):c.length=2:=by
 obtain ⟨v1,h0,h2⟩:=h;subst h0;rfl
theorem GDomain.one {F:Frz}{c:List Value}{x:GDomain}(h:cL F c x):OneCs c:=by
 obtain ⟨v1,h0,h2⟩:=h;subst h0;haveI:=h2.oneC
 infer_instance
theorem GDomain.c0 {F:Frz}{c:List Value}{x:GDomain}(h:cL F c x):c[0]?=some (.int .i64 x.Station):=by
 obtain ⟨v1,h0,h2⟩:=h;subst h0;rfl
theorem GDomain.c1 {F:Frz}{c:List Value}{x:GDomain}(h:cL F c x):c[1]?=some (cK c 1)∧SlC F (cK c 1) 1 (x.Channels.map eI):=by
 obtain ⟨v1,h0,h2⟩:=h;subst h0;exact ⟨rfl,h2⟩
theorem fW {F:Frz}{c:List Value}{x:GDomain}(h:cL F c x):(c.drop 0).take 2=[.int .i64 x.Station,cK c 1]:=by
 obtain ⟨v1,h0,h2⟩:=h;subst h0;rfl
structure GPair where
 A:Int
 B:Int
 Offset:Int
 Low:Int
 High:Int
deriving DecidableEq,Inhabited
abbrev cP (x:GPair):List Value:=[.int .i64 x.A, .int .i64 x.B, .int .i64 x.Offset, .int .i64 x.Low, .int .i64 x.High]
theorem GPair.len (x:GPair):(cP x).length=5:=rfl
structure GLoad where
 To:Int
 From:Int
 Weight:Int
 Low:Int
 High:Int
deriving DecidableEq,Inhabited
abbrev cR (x:GLoad):List Value:=[.int .i64 x.To, .int .i64 x.From, .int .i64 x.Weight, .int .i64 x.Low, .int .i64 x.High]
theorem GLoad.len (x:GLoad):(cR x).length=5:=rfl
structure GCap where
 Station:Int
 Max:Int
 Low:Int
 High:Int
deriving DecidableEq,Inhabited
abbrev cV (x:GCap):List Value:=[.int .i64 x.Station, .int .i64 x.Max, .int .i64 x.Low, .int .i64 x.High]
theorem GCap.len (x:GCap):(cV x).length=4:=rfl
structure GRules where
 Pairs:List GPair
 Loads:List GLoad
 Caps:List GCap
deriving DecidableEq,Inhabited
def ej (F:Frz)(c:List Value)(x:GRules):Prop:=∃(v0:Value) (v1:Value) (v2:Value),c=[v0,v1,v2]∧SlC F v0 5 (x.Pairs.map cP)∧SlC F v1 5 (x.Loads.map cR)∧SlC F v2 4 (x.Caps.map cV)
theorem GRules.mono {F G:Frz}{c:List Value}{x:GRules}(hle:F.Le G)(h:ej F c x):ej G c x:=by
 obtain ⟨v0,v1,v2,h0,h1,h2,h3⟩:=h;exact ⟨v0,v1,v2,h0,h1.mono hle,h2.mono hle,h3.mono hle⟩
theorem GRules.len {F:Frz}{c:List Value}{x:GRules}(h:ej F c x):c.length=3:=by
 obtain ⟨v0,v1,v2,h0,h1,h2,h3⟩:=h;subst h0;rfl
theorem GRules.one {F:Frz}{c:List Value}{x:GRules}(h:ej F c x):OneCs c:=by
 obtain ⟨v0,v1,v2,h0,h1,h2,h3⟩:=h;subst h0;haveI:=h1.oneC;haveI:=h2.oneC;haveI:=h3.oneC
 infer_instance
theorem GRules.c0 {F:Frz}{c:List Value}{x:GRules}(h:ej F c x):c[0]?=some (cK c 0)∧SlC F (cK c 0) 5 (x.Pairs.map cP):=by
 obtain ⟨v0,v1,v2,h0,h1,h2,h3⟩:=h;subst h0;exact ⟨rfl,h1⟩
theorem GRules.c1 {F:Frz}{c:List Value}{x:GRules}(h:ej F c x):c[1]?=some (cK c 1)∧SlC F (cK c 1) 5 (x.Loads.map cR):=by
 obtain ⟨v0,v1,v2,h0,h1,h2,h3⟩:=h;subst h0;exact ⟨rfl,h2⟩
theorem GRules.c2 {F:Frz}{c:List Value}{x:GRules}(h:ej F c x):c[2]?=some (cK c 2)∧SlC F (cK c 2) 4 (x.Caps.map cV):=by
 obtain ⟨v0,v1,v2,h0,h1,h2,h3⟩:=h;subst h0;exact ⟨rfl,h3⟩
theorem GRules.form {F:Frz}{c:List Value}{x:GRules}(h:ej F c x):(c.drop 0).take 3=[cK c 0,cK c 1,cK c 2]:=by
 obtain ⟨v0,v1,v2,h0,h1,h2,h3⟩:=h;subst h0;rfl
structure GProblem where
 Domains:List GDomain
 Rules:GRules
deriving DecidableEq,Inhabited
def dP (F:Frz)(c:List Value)(x:GProblem):Prop:=∃(v0:Value) (cs0:List (List Value)) (v1:Value) (v2:Value) (v3:Value),c=[v0,v1,v2,v3]∧SlD cL F v0 2 cs0 x.Domains∧SlC F v1 5 (x.Rules.Pairs.map cP)∧SlC F v2 5 (x.Rules.Loads.map cR)∧SlC F v3 4 (x.Rules.Caps.map cV)
theorem GProblem.mono {F G:Frz}{c:List Value}{x:GProblem}(hle:F.Le G)(h:dP F c x):dP G c x:=by
 obtain ⟨v0,cs0,v1,v2,v3,h0,h1,h2,h3,h4⟩:=h;exact ⟨v0,cs0,v1,v2,v3,h0,SlD.mono (rep:=cL) (fun _ _ _ _=>GDomain.mono) h1 hle,h2.mono hle,h3.mono hle,h4.mono hle⟩
theorem GProblem.len {F:Frz}{c:List Value}{x:GProblem}(h:dP F c x):c.length=4:=by
 obtain ⟨v0,cs0,v1,v2,v3,h0,h1,h2,h3,h4⟩:=h;subst h0;rfl
theorem GProblem.one {F:Frz}{c:List Value}{x:GProblem}(h:dP F c x):OneCs c:=by
 obtain ⟨v0,cs0,v1,v2,v3,h0,h1,h2,h3,h4⟩:=h;subst h0;haveI:=h1.1.oneC;haveI:=h2.oneC;haveI:=h3.oneC;haveI:=h4.oneC
 infer_instance
theorem GProblem.c0 {F:Frz}{c:List Value}{x:GProblem}(h:dP F c x):c[0]?=some (cK c 0)∧∃cs,SlD cL F (cK c 0) 2 cs x.Domains:=by
 obtain ⟨v0,cs0,v1,v2,v3,h0,h1,h2,h3,h4⟩:=h;subst h0;exact ⟨rfl,cs0,h1⟩
theorem GProblem.c1 {F:Frz}{c:List Value}{x:GProblem}(h:dP F c x):c[1]?=some (cK c 1)∧SlC F (cK c 1) 5 (x.Rules.Pairs.map cP):=by
 obtain ⟨v0,cs0,v1,v2,v3,h0,h1,h2,h3,h4⟩:=h;subst h0;exact ⟨rfl,h2⟩
theorem GProblem.c2 {F:Frz}{c:List Value}{x:GProblem}(h:dP F c x):c[2]?=some (cK c 2)∧SlC F (cK c 2) 5 (x.Rules.Loads.map cR):=by
 obtain ⟨v0,cs0,v1,v2,v3,h0,h1,h2,h3,h4⟩:=h;subst h0;exact ⟨rfl,h3⟩
theorem GProblem.c3 {F:Frz}{c:List Value}{x:GProblem}(h:dP F c x):c[3]?=some (cK c 3)∧SlC F (cK c 3) 4 (x.Rules.Caps.map cV):=by
 obtain ⟨v0,cs0,v1,v2,v3,h0,h1,h2,h3,h4⟩:=h;subst h0;exact ⟨rfl,h4⟩
theorem GProblem.form {F:Frz}{c:List Value}{x:GProblem}(h:dP F c x):(c.drop 0).take 4=[cK c 0,cK c 1,cK c 2,cK c 3]:=by
 obtain ⟨v0,cs0,v1,v2,v3,h0,h1,h2,h3,h4⟩:=h;subst h0;rfl
structure GChoice where
 Station:Int
 Channel:Int
deriving DecidableEq,Inhabited
abbrev cQ (x:GChoice):List Value:=[.int .i64 x.Station, .int .i64 x.Channel]
theorem GChoice.len (x:GChoice):(cQ x).length=2:=rfl
def dT (l:List Int)(n:Int):Bool:=
 dJ (fun (_:Unit)=>
  false)
 (fun k1=>
  c8 (fun (i_3:Nat) (next2:Unit→Bool) (_:Unit)=>
   (bif decide ((cK l i_3)=n) then
    true
    else
    next2 ()))
  (fun (_:Unit)=>
   k1 ()) (l.length - 0) 0 ())
theorem zbH (F0:Frz)(w:World)(hF0:F0.At w)(l:List Int)(vl:Value)(hl:SlC F0 vl 1 (l.map eI))(n:Int):Calls Tryz.prog 21 #[vl, .int .i64 n] w fun e w'=>e= .returned (.bool (dT l n))∧Below w.heap.size w w':=by
 obtain ⟨r,hk⟩:∃r,dT l n=r:=⟨_,rfl⟩;rw [hk];unfold dT at hk;haveI:=hl.oneC;obtain ⟨S0,F1,rfl,hS0,hp0⟩:=eY hF0;refine dv Tryz.func21 rfl rfl rfl hp0 ?_;refine q3v ?_;have hq:=ek hk;clear hk;obtain ⟨k1,hk1,hk⟩:=hq; (try dsimp only at hk);refine da (ι:=Unit) (fun z=>[]) (fun z=>[.fr F1]) (fun z=>k1 ()=r) ?_ ?_
 ·have hq:=fB hk;clear hk;obtain ⟨f2,kk2,hf2,hkk2,hk⟩:=hq;refine fj ?_;refine T.loop (ι:=Nat) (fun z=>[(0,vl),(1, .int .i64 n),(5, .int .i64 (z:Int))]) (fun z=>[.fr F1]) (fun z=>c8 f2 kk2 (l.length - z) z ()=r) (fun z=>l.length - z) 0 ?_ ?_ ?_ ?_
  ·exact hk
  ·exact nA
  ·exact eW
  ·rintro i_3 hk;refine kn ?_;refine mX ?_;have hm8:l.length≤9223372036854775807:=(List.length_map _)▸hl.max;refine dB ?_;refine T.cond rfl (fun h4=>?_) (fun h4=>?_)
   ·have p4:=of_decide_eq_true h4;rw [fx a5] at hk;generalize hn2:c8 f2 kk2 (l.length - (i_3+1)) (i_3+1)=next2 at hk;rw [←hf2] at hk; (try dsimp only at hk);refine fS ?_;refine eg ?_;refine q2p ?_;refine q4l ?_;refine jB ?_;refine T.cond rfl (fun h5=>?_) (fun h5=>?_)
    ·have p5:=of_decide_eq_true h5;replace hk:=dt hk h5;refine i2 ?_;subst hk;exact eh
    ·have p5:=of_decide_eq_false h5;replace hk:=dr hk h5;refine gY ?_;rw [←hn2] at hk;exact q4C
   ·have p4:=of_decide_eq_false h4;rw [fw a5,←hkk2] at hk; (try dsimp only at hk);refine eE ?_;exact lv
 ·rintro _ hk;rw [←hk1] at hk; (try dsimp only at hk);refine kE ?_;subst hk;exact eh
def ij (p:GProblem)(n:Int):Int:=
 dJ (fun (_:Unit)=>
  (-1))
 (fun k1=>
  c8 (fun (i_3:Nat) (next2:Unit→Int) (_:Unit)=>
   (bif decide ((cK p.Domains i_3).Station=n) then
    (i_3:Int)
    else
    next2 ()))
  (fun (_:Unit)=>
   k1 ()) (p.Domains.length - 0) 0 ())
theorem zbZ (F0:Frz)(w:World)(hF0:F0.At w)(p:GProblem)(vp_0:Value)(cp_0:List (List Value))(hp_0:SlD cL F0 vp_0 2 cp_0 p.Domains)(vp_1:Value)(hp_1:SlC F0 vp_1 5 (p.Rules.Pairs.map cP))(vp_2:Value)(hp_2:SlC F0 vp_2 5 (p.Rules.Loads.map cR))(vp_3:Value)(hp_3:SlC F0 vp_3 4 (p.Rules.Caps.map cV))(n:Int):Calls Tryz.prog 22 #[.agg [vp_0,vp_1,vp_2,vp_3].toArray, .int .i64 n] w fun e w'=>e= .returned (.int .i64 (ij p n))∧Below w.heap.size w w':=by
 obtain ⟨r,hk⟩:∃r,ij p n=r:=⟨_,rfl⟩;rw [hk];unfold ij at hk;haveI:=hp_0.1.oneC;haveI:=hp_1.oneC;haveI:=hp_2.oneC;haveI:=hp_3.oneC;obtain ⟨S0,F1,rfl,hS0,hp0⟩:=eY hF0;refine dv Tryz.func22 rfl rfl rfl hp0 ?_;refine iW ?_;rintro _ _ ⟨g2,rfl,rfl⟩;refine jN ?_;refine dB ?_;have hq:=ek hk;clear hk;obtain ⟨k1,hk1,hk⟩:=hq; (try dsimp only at hk);refine da (ι:=Unit) (fun z=>[]) (fun z=>[.fr F1]) (fun z=>k1 ()=r) ?_ ?_
 ·have hq:=fB hk;clear hk;obtain ⟨f2,kk2,hf2,hkk2,hk⟩:=hq;refine fj ?_;refine T.loop (ι:=Nat) (fun z=>[(1, .int .i64 n),(2, .pointer (some ⟨g2,0,none⟩)),(5, .int .i64 (z:Int))]) (fun z=>[.row g2 29 [vp_0,vp_1,vp_2,vp_3], .fr F1]) (fun z=>c8 f2 kk2 (p.Domains.length - z) z ()=r) (fun z=>p.Domains.length - z) 0 ?_ ?_ ?_ ?_
  ·exact hk
  ·exact nA
  ·exact eW
  ·rintro i_3 hk;refine kO ?_;refine ei ?_;refine q2g ?_;have hm9:p.Domains.length≤9223372036854775807:=hp_0.2.1▸hp_0.1.max;refine dB ?_;refine T.cond rfl (fun h4=>?_) (fun h4=>?_)
   ·have p4:=of_decide_eq_true h4;rw [fx a5] at hk;generalize hn2:c8 f2 kk2 (p.Domains.length - (i_3+1)) (i_3+1)=next2 at hk;rw [←hf2] at hk; (try dsimp only at hk);refine fS ?_;refine q4e ?_;refine cM (dh (i:=i_3) rfl rfl rfl hp_0.1 hp_0.2.1 rfl a5) ?_;refine cM (gj rfl rfl hp_0.1 hp_0.2.1 a5) ?_;refine cM (dU 1 (i:=i_3) (j:=0) rfl rfl rfl hp_0.1 hp_0.2.1 a5 rfl (GDomain.c0 (hp_0.2.2 i_3 a5))) ?_;refine jB ?_;refine T.cond rfl (fun h5=>?_) (fun h5=>?_)
    ·have p5:=of_decide_eq_true h5;replace hk:=dt hk h5;refine jO ?_;refine q0x ?_;subst hk;exact eh
    ·have p5:=of_decide_eq_false h5;replace hk:=dr hk h5;refine gY ?_;rw [←hn2] at hk;exact q4C
   ·have p4:=of_decide_eq_false h4;rw [fw a5,←hkk2] at hk; (try dsimp only at hk);refine eE ?_;refine q2R ?_;exact lv
 ·rintro _ hk;rw [←hk1] at hk; (try dsimp only at hk);refine kE ?_;subst hk;exact eh
def j0 (n:Int):Bool:=
 ((decide (0≤n))&&(decide (n≤511)))
theorem zbq (F0:Frz)(w:World)(hF0:F0.At w)(n:Int):Calls Tryz.prog 56 #[.int .i64 n] w fun e w'=>e= .returned (.bool (j0 n))∧Below w.heap.size w w':=by
 obtain ⟨r,hk⟩:∃r,j0 n=r:=⟨_,rfl⟩;rw [hk];unfold j0 at hk;obtain ⟨S0,F1,rfl,hS0,hp0⟩:=eY hF0;refine dv Tryz.func56 rfl rfl rfl hp0 ?_;refine fh ?_;refine da (ι:=Unit) (fun z=>[(2, .bool ((decide (0≤n))&&(decide (n≤511))))]) (fun z=>[.fr F1]) (fun z=>True) ?_ ?_
 ·refine m7 ?_;refine dl rfl rfl rfl (fun h1=>?_) (fun h1=>?_)
  ·have p1:=of_decide_eq_true h1;refine kX ?_;exact q4D
  ·have p1:=of_decide_eq_false h1;refine kX ?_;exact q4E
 ·refine mS ?_;subst hk;exact eh
def zbj (l:List GChoice):Bool:=
 dJ (fun (_:Unit)=>
  true)
 (fun k1=>
  c8 (fun (i_3:Nat) (next2:Unit→Bool) (_:Unit)=>
   (bif ((((!(j0 ((cK l i_3).Station)))||(decide ((cK l i_3).Channel<2)))||(decide (51<(cK l i_3).Channel)))||((decide (0<(i_3:Int)))&&(decide ((cK l i_3).Station≤(cK l (((i_3:Int) - 1).toNat)).Station)))) then
    false
    else
    next2 ()))
  (fun (_:Unit)=>
   k1 ()) (l.length - 0) 0 ())
theorem zfO (F0:Frz)(w:World)(hF0:F0.At w)(l:List GChoice)(vl:Value)(hl:SlC F0 vl 2 (l.map cQ)):Calls Tryz.prog 45 #[vl] w fun e w'=>e= .returned (.bool (zbj l))∧Below w.heap.size w w':=by
 obtain ⟨r,hk⟩:∃r,zbj l=r:=⟨_,rfl⟩;rw [hk];unfold zbj at hk;haveI:=hl.oneC;obtain ⟨S0,F1,rfl,hS0,hp0⟩:=eY hF0;refine dv Tryz.func45 rfl rfl rfl hp0 ?_;refine q3v ?_;have hq:=ek hk;clear hk;obtain ⟨k1,hk1,hk⟩:=hq; (try dsimp only at hk);refine da (ι:=Unit) (fun z=>[]) (fun z=>[.fr F1]) (fun z=>k1 ()=r) ?_ ?_
 ·have hq:=fB hk;clear hk;obtain ⟨f2,kk2,hf2,hkk2,hk⟩:=hq;refine fj ?_;refine T.loop (ι:=Nat) (fun z=>[(0,vl),(3, .int .i64 (z:Int))]) (fun z=>[.fr F1]) (fun z=>c8 f2 kk2 (l.length - z) z ()=r) (fun z=>l.length - z) 0 ?_ ?_ ?_ ?_
  ·exact hk
  ·exact q4x
  ·exact eW
  ·rintro i_3 hk;refine kn ?_;refine mX ?_;have hm6:l.length≤9223372036854775807:=(List.length_map _)▸hl.max;refine dB ?_;refine T.cond rfl (fun h4=>?_) (fun h4=>?_)
   ·have p4:=of_decide_eq_true h4;rw [fx a5] at hk;generalize hn2:c8 f2 kk2 (l.length - (i_3+1)) (i_3+1)=next2 at hk;rw [←hf2] at hk; (try dsimp only at hk);refine jQ ?_;refine da (ι:=Unit) (fun z=>[(0,vl),(3, .int .i64 (i_3:Int)),(50, .bool ((((!(j0 ((cK l i_3).Station)))||(decide ((cK l i_3).Channel<2)))||(decide (51<(cK l i_3).Channel)))||((decide (0<(i_3:Int)))&&(decide ((cK l i_3).Station≤(cK l (((i_3:Int) - 1).toNat)).Station)))))]) (fun z=>[.fr F1]) (fun z=>True) ?_ ?_
    ·refine dM (sN 0 5 (.eff 5 (sN 6 34 (.still 40 .done)))) _ a7 (List.Sublist.refl _) ?_;refine q1s ?_;refine q19 ?_;refine q2t ?_;refine dD ?_;refine c6 rfl (Wt.none) rfl rfl (cN rfl rfl rfl (fun w hw=>zbq _ w (hw.fr (i:=0) rfl) ((cK l i_3).Station))) ?_;refine ms ?_;refine dA rfl rfl rfl rfl (fun h5=>?_) (fun h5=>?_)
     ·refine TS.run 33 rfl ?_;refine fQ ?_;exact cS () trivial (.c (.c (.b (jl (jl (jl h5))).symm .nil))) (List.Sublist.refl _)
     ·refine q1s ?_;refine q19 ?_;refine cT rfl (ec 0 (i:=i_3) (j:=1) rfl rfl rfl hl a5) ?_;refine gv ?_;refine dA rfl rfl rfl rfl (fun h6=>?_) (fun h6=>?_)
      ·have p6:=of_decide_eq_true h6;refine TS.run 25 rfl ?_;refine fQ ?_;exact cS () trivial (.c (.c (.b (jl (jl (jR h5 h6))).symm .nil))) (List.Sublist.refl _)
      ·have p6:=of_decide_eq_false h6;refine q1s ?_;refine q19 ?_;refine cT rfl (ec 0 (i:=i_3) (j:=1) rfl rfl rfl hl a5) ?_;refine gv ?_;refine dA rfl rfl rfl rfl (fun h7=>?_) (fun h7=>?_)
       ·have p7:=of_decide_eq_true h7;refine TS.run 17 rfl ?_;refine fQ ?_;exact cS () trivial (.c (.c (.b (jl (jR (jR h5 h6) h7)).symm .nil))) (List.Sublist.refl _)
       ·have p7:=of_decide_eq_false h7;refine gv ?_;refine dA rfl rfl rfl rfl (fun h8=>?_) (fun h8=>?_)
        ·have p8:=of_decide_eq_true h8;refine gQ ?_;refine q17 ?_;refine q19 ?_;refine q23 ?_;refine q19 ?_;refine q2t ?_;refine gv ?_;refine fQ ?_;exact cS () trivial (.c (.c (.b (Eq.trans (kw h8) (io (jR (jR h5 h6) h7))) .nil))) (List.Sublist.refl _)
        ·have p8:=of_decide_eq_false h8;refine TS.run 14 rfl ?_;refine fQ ?_;exact cS () trivial (.c (.c (.b (jR (jR (jR h5 h6) h7) (fY h8)).symm .nil))) (List.Sublist.refl _)
    ·rintro _ _;refine T.cond rfl (fun h9=>?_) (fun h9=>?_)
     ·replace hk:=dt hk h9;refine i2 ?_;subst hk;exact eh
     ·have p9:=h9; (try simp only [cY] at p9);replace hk:=dr hk h9;refine gY ?_;rw [←hn2] at hk;exact K.next (i_3+1) hk a5 (.c (.c .nil)) (List.Sublist.refl _)
   ·have p4:=of_decide_eq_false h4;rw [fw a5,←hkk2] at hk; (try dsimp only at hk);refine eE ?_;exact lv
 ·rintro _ hk;rw [←hk1] at hk; (try dsimp only at hk);refine kE ?_;subst hk;exact eh
def zbM (a:List Int)(b:List Int):Bool:=
 (bif decide (¬(a.length:Int)=(b.length:Int)) then
  false
  else
  dJ (fun (_:Unit)=>
   true)
  (fun k2=>
   c8 (fun (i_4:Nat) (next3:Unit→Bool) (_:Unit)=>
    (bif decide (¬(cK a i_4)=(cK b i_4)) then
     false
     else
     next3 ()))
   (fun (_:Unit)=>
    k2 ()) (a.length - 0) 0 ()))
theorem zgr (F0:Frz)(w:World)(hF0:F0.At w)(a:List Int)(va:Value)(ha:SlC F0 va 1 (a.map eI))(b:List Int)(vb:Value)(hb:SlC F0 vb 1 (b.map eI)):Calls Tryz.prog 52 #[va,vb] w fun e w'=>e= .returned (.bool (zbM a b))∧Below w.heap.size w w':=by
 obtain ⟨r,hk⟩:∃r,zbM a b=r:=⟨_,rfl⟩;rw [hk];unfold zbM at hk;haveI:=ha.oneC;haveI:=hb.oneC;obtain ⟨S0,F1,rfl,hS0,hp0⟩:=eY hF0;refine dv Tryz.func52 rfl rfl rfl hp0 ?_;refine ju ?_;refine q3C ?_;have hm7:a.length≤9223372036854775807:=(List.length_map _)▸ha.max;refine df ?_;refine cM (dg rfl rfl hb (List.length_map _)) ?_;have hm9:b.length≤9223372036854775807:=(List.length_map _)▸hb.max;refine dB ?_;refine T.cond rfl (fun h1=>?_) (fun h1=>?_)
 ·have p1:=of_decide_eq_true h1;replace hk:=dt hk h1;refine iN ?_;subst hk;exact eh
 ·have p1:=of_decide_eq_false h1;replace hk:=dr hk h1;refine ka ?_;refine dB ?_;have hq:=ek hk;clear hk;obtain ⟨k2,hk2,hk⟩:=hq; (try dsimp only at hk);refine da (ι:=Unit) (fun z=>[]) (fun z=>[.fr F1]) (fun z=>k2 ()=r) ?_ ?_
  ·have hq:=fB hk;clear hk;obtain ⟨f3,kk3,hf3,hkk3,hk⟩:=hq;refine fj ?_;refine T.loop (ι:=Nat) (fun z=>[(0,va),(1,vb),(5, .int .i64 (z:Int))]) (fun z=>[.fr F1]) (fun z=>c8 f3 kk3 (a.length - z) z ()=r) (fun z=>a.length - z) 0 ?_ ?_ ?_ ?_
   ·exact hk
   ·exact nA
   ·exact eW
   ·rintro i_4 hk;refine kn ?_;refine q3C ?_;refine dB ?_;refine T.cond rfl (fun h5=>?_) (fun h5=>?_)
    ·have p5:=of_decide_eq_true h5;rw [fx a5] at hk;generalize hn3:c8 f3 kk3 (a.length - (i_4+1)) (i_4+1)=next3 at hk;rw [←hf3] at hk; (try dsimp only at hk);refine jQ ?_;refine q1F ?_;refine gQ ?_;refine cT rfl (dh (i:=i_4) rfl rfl rfl ha (List.length_map _) rfl a5) ?_;refine cT rfl (ec 0 (i:=i_4) (j:=0) rfl rfl rfl ha a5) ?_;refine gQ ?_;refine cT rfl (dh (i:=i_4) rfl rfl rfl hb (List.length_map _) rfl a5) ?_;refine cT rfl (ec 0 (i:=i_4) (j:=0) rfl rfl rfl hb a5) ?_;refine kG ?_;refine T.cond rfl (fun h6=>?_) (fun h6=>?_)
     ·have p6:=of_decide_eq_true h6;replace hk:=dt hk h6;refine i2 ?_;subst hk;exact eh
     ·have p6:=of_decide_eq_false h6;replace hk:=dr hk h6;refine gY ?_;rw [←hn3] at hk;exact q4V
    ·have p5:=of_decide_eq_false h5;rw [fw a5,←hkk3] at hk; (try dsimp only at hk);refine eE ?_;exact lv
  ·rintro _ hk;rw [←hk2] at hk; (try dsimp only at hk);refine kE ?_;subst hk;exact eh
def zbL (a:List GChoice)(b:List GChoice):Bool:=
 (bif decide (¬(a.length:Int)=(b.length:Int)) then
  false
  else
  dJ (fun (_:Unit)=>
   true)
  (fun k2=>
   c8 (fun (i_4:Nat) (next3:Unit→Bool) (_:Unit)=>
    (bif !(decide ((cK a i_4).Station=(cK b i_4).Station)&&decide ((cK a i_4).Channel=(cK b i_4).Channel)) then
     false
     else
     next3 ()))
   (fun (_:Unit)=>
    k2 ()) (a.length - 0) 0 ()))
theorem zgo (F0:Frz)(w:World)(hF0:F0.At w)(a:List GChoice)(va:Value)(ha:SlC F0 va 2 (a.map cQ))(b:List GChoice)(vb:Value)(hb:SlC F0 vb 2 (b.map cQ)):Calls Tryz.prog 84 #[va,vb] w fun e w'=>e= .returned (.bool (zbL a b))∧Below w.heap.size w w':=by
 obtain ⟨r,hk⟩:∃r,zbL a b=r:=⟨_,rfl⟩;rw [hk];unfold zbL at hk;haveI:=ha.oneC;haveI:=hb.oneC;obtain ⟨S0,F1,rfl,hS0,hp0⟩:=eY hF0;refine dv Tryz.func84 rfl rfl rfl hp0 ?_;refine ju ?_;refine q3C ?_;have hm7:a.length≤9223372036854775807:=(List.length_map _)▸ha.max;refine df ?_;refine cM (dg rfl rfl hb (List.length_map _)) ?_;have hm9:b.length≤9223372036854775807:=(List.length_map _)▸hb.max;refine dB ?_;refine T.cond rfl (fun h1=>?_) (fun h1=>?_)
 ·have p1:=of_decide_eq_true h1;replace hk:=dt hk h1;refine iN ?_;subst hk;exact eh
 ·have p1:=of_decide_eq_false h1;replace hk:=dr hk h1;refine ka ?_;refine dB ?_;have hq:=ek hk;clear hk;obtain ⟨k2,hk2,hk⟩:=hq; (try dsimp only at hk);refine da (ι:=Unit) (fun z=>[]) (fun z=>[.fr F1]) (fun z=>k2 ()=r) ?_ ?_
  ·have hq:=fB hk;clear hk;obtain ⟨f3,kk3,hf3,hkk3,hk⟩:=hq;refine fj ?_;refine T.loop (ι:=Nat) (fun z=>[(0,va),(1,vb),(5, .int .i64 (z:Int))]) (fun z=>[.fr F1]) (fun z=>c8 f3 kk3 (a.length - z) z ()=r) (fun z=>a.length - z) 0 ?_ ?_ ?_ ?_
   ·exact hk
   ·exact nA
   ·exact eW
   ·rintro i_4 hk;refine kn ?_;refine q3C ?_;refine dB ?_;refine T.cond rfl (fun h5=>?_) (fun h5=>?_)
    ·have p5:=of_decide_eq_true h5;rw [fx a5] at hk;generalize hn3:c8 f3 kk3 (a.length - (i_4+1)) (i_4+1)=next3 at hk;rw [←hf3] at hk; (try dsimp only at hk);refine jQ ?_;refine q1F ?_;refine gQ ?_;refine cT rfl (dh (i:=i_4) rfl rfl rfl ha (List.length_map _) rfl a5) ?_;refine cT rfl (ef 0 (i:=i_4) rfl rfl rfl ha a5) ?_;refine gQ ?_;refine cT rfl (dh (i:=i_4) rfl rfl rfl hb (List.length_map _) rfl a5) ?_;refine cT rfl (ef 0 (i:=i_4) rfl rfl rfl hb a5) ?_;refine cT rfl (Yv.cB a7 rfl rfl rfl) ?_;refine fQ ?_;refine K.seq ?_;refine T.cond rfl (fun h6=>?_) (fun h6=>?_)
     ·replace hk:=dt hk h6;refine i2 ?_;subst hk;exact eh
     ·have p6:=h6; (try simp only [cY] at p6);replace hk:=dr hk h6;refine gY ?_;rw [←hn3] at hk;exact q4V
    ·have p5:=of_decide_eq_false h5;rw [fw a5,←hkk3] at hk; (try dsimp only at hk);refine eE ?_;exact lv
  ·rintro _ hk;rw [←hk2] at hk; (try dsimp only at hk);refine kE ?_;subst hk;exact eh
def ie (l:List GChoice)(n:Int):Int:=
 dJ (fun (_:Unit)=>
  0)
 (fun k1=>
  c8 (fun (i_3:Nat) (next2:Unit→Int) (_:Unit)=>
   (bif decide ((cK l i_3).Station=n) then
    ((cK l i_3).Channel)
    else
    next2 ()))
  (fun (_:Unit)=>
   k1 ()) (l.length - 0) 0 ())
theorem zdQ (F0:Frz)(w:World)(hF0:F0.At w)(l:List GChoice)(vl:Value)(hl:SlC F0 vl 2 (l.map cQ))(n:Int):Calls Tryz.prog 85 #[vl, .int .i64 n] w fun e w'=>e= .returned (.int .i64 (ie l n))∧Below w.heap.size w w':=by
 obtain ⟨r,hk⟩:∃r,ie l n=r:=⟨_,rfl⟩;rw [hk];unfold ie at hk;haveI:=hl.oneC;obtain ⟨S0,F1,rfl,hS0,hp0⟩:=eY hF0;refine dv Tryz.func85 rfl rfl rfl hp0 ?_;refine q3v ?_;have hq:=ek hk;clear hk;obtain ⟨k1,hk1,hk⟩:=hq; (try dsimp only at hk);refine da (ι:=Unit) (fun z=>[]) (fun z=>[.fr F1]) (fun z=>k1 ()=r) ?_ ?_
 ·have hq:=fB hk;clear hk;obtain ⟨f2,kk2,hf2,hkk2,hk⟩:=hq;refine fj ?_;refine T.loop (ι:=Nat) (fun z=>[(0,vl),(1, .int .i64 n),(5, .int .i64 (z:Int))]) (fun z=>[.fr F1]) (fun z=>c8 f2 kk2 (l.length - z) z ()=r) (fun z=>l.length - z) 0 ?_ ?_ ?_ ?_
  ·exact hk
  ·exact nA
  ·exact eW
  ·rintro i_3 hk;refine kn ?_;refine mX ?_;have hm8:l.length≤9223372036854775807:=(List.length_map _)▸hl.max;refine dB ?_;refine T.cond rfl (fun h4=>?_) (fun h4=>?_)
   ·have p4:=of_decide_eq_true h4;rw [fx a5] at hk;generalize hn2:c8 f2 kk2 (l.length - (i_3+1)) (i_3+1)=next2 at hk;rw [←hf2] at hk; (try dsimp only at hk);refine fS ?_;refine eg ?_;refine q2p ?_;refine cM (gj rfl rfl hl (List.length_map _) a5) ?_;refine q4l ?_;refine jB ?_;refine T.cond rfl (fun h5=>?_) (fun h5=>?_)
    ·have p5:=of_decide_eq_true h5;replace hk:=dt hk h5;refine jO ?_;refine q2p ?_;refine cM (gj rfl rfl hl (List.length_map _) a5) ?_;refine cM (ec 0 (i:=i_3) (j:=1) rfl rfl rfl hl a5) ?_;refine df ?_;refine q0x ?_;subst hk;exact eh
    ·have p5:=of_decide_eq_false h5;replace hk:=dr hk h5;refine gY ?_;rw [←hn2] at hk;exact q4C
   ·have p4:=of_decide_eq_false h4;rw [fw a5,←hkk2] at hk; (try dsimp only at hk);refine eE ?_;exact lv
 ·rintro _ hk;rw [←hk1] at hk; (try dsimp only at hk);refine kE ?_;subst hk;exact eh
def nW (low:Int)(high:Int):Bool:=
 (((decide (2≤low))&&(decide (low≤high)))&&(decide (high≤51)))
theorem zet (F0:Frz)(w:World)(hF0:F0.At w)(low:Int)(high:Int):Calls Tryz.prog 88 #[.int .i64 low, .int .i64 high] w fun e w'=>e= .returned (.bool (nW low high))∧Below w.heap.size w w':=by
 obtain ⟨r,hk⟩:∃r,nW low high=r:=⟨_,rfl⟩;rw [hk];unfold nW at hk;obtain ⟨S0,F1,rfl,hS0,hp0⟩:=eY hF0;refine dv Tryz.func88 rfl rfl rfl hp0 ?_;refine fh ?_;refine da (ι:=Unit) (fun z=>[(4, .bool (((decide (2≤low))&&(decide (low≤high)))&&(decide (high≤51))))]) (fun z=>[.fr F1]) (fun z=>True) ?_ ?_
 ·refine m7 ?_;refine dl rfl rfl rfl (fun h1=>?_) (fun h1=>?_)
  ·have p1:=of_decide_eq_true h1;refine TL.run 5 rfl ?_;refine dl rfl rfl rfl (fun h2=>?_) (fun h2=>?_)
   ·have p2:=of_decide_eq_true h2;refine kX ?_;exact cS () trivial (.b (kw (iL h1 h2)) .nil) (List.Sublist.refl _)
   ·have p2:=of_decide_eq_false h2;refine kX ?_;exact cS () trivial (.b (fY (iL h1 h2)).symm .nil) (List.Sublist.refl _)
  ·have p1:=of_decide_eq_false h1;refine TL.run 9 rfl ?_;refine ff ?_;exact cS () trivial (.b (fY (fY h1)).symm .nil) (List.Sublist.refl _)
 ·refine mS ?_;subst hk;exact eh
def l9 (a:List Int)(b:List Int):Option Bool:=
 dJ (fun (_:Unit)=>
  some false)
 (fun k1=>
  c8 (fun (i_3:Nat) (next2:Unit→Option Bool) (_:Unit)=>
   ey (0≤(i_3:Int)∧(i_3:Int)<(b.length:Int)) <|
   (bif decide (¬(cK a i_3)=(cK b i_3)) then
    some (decide ((cK a i_3)<(cK b i_3)))
    else
    next2 ()))
  (fun (_:Unit)=>
   k1 ()) (a.length - 0) 0 ())
theorem zeC (F0:Frz)(w:World)(hF0:F0.At w)(a:List Int)(va:Value)(ha:SlC F0 va 1 (a.map eI))(b:List Int)(vb:Value)(hb:SlC F0 vb 1 (b.map eI))(r:Bool)(hr:l9 a b=some r):Calls Tryz.prog 89 #[va,vb] w fun e w'=>e= .returned (.bool r)∧Below w.heap.size w w':=by
 have hk:=hr;unfold l9 at hk;haveI:=ha.oneC;haveI:=hb.oneC;obtain ⟨S0,F1,rfl,hS0,hp0⟩:=eY hF0;refine dv Tryz.func89 rfl rfl rfl hp0 ?_;refine q3v ?_;have hq:=ek hk;clear hk;obtain ⟨k1,hk1,hk⟩:=hq; (try dsimp only at hk);refine da (ι:=Unit) (fun z=>[]) (fun z=>[.fr F1]) (fun z=>k1 ()=some r) ?_ ?_
 ·have hq:=fB hk;clear hk;obtain ⟨f2,kk2,hf2,hkk2,hk⟩:=hq;refine fj ?_;refine T.loop (ι:=Nat) (fun z=>[(0,va),(1,vb),(5, .int .i64 (z:Int))]) (fun z=>[.fr F1]) (fun z=>c8 f2 kk2 (a.length - z) z ()=some r) (fun z=>a.length - z) 0 ?_ ?_ ?_ ?_
  ·exact hk
  ·exact nA
  ·exact eW
  ·rintro i_3 hk;refine kn ?_;refine q3C ?_;have hm8:a.length≤9223372036854775807:=(List.length_map _)▸ha.max;refine dB ?_;refine T.cond rfl (fun h4=>?_) (fun h4=>?_)
   ·have p4:=of_decide_eq_true h4;rw [fx a5] at hk;generalize hn2:c8 f2 kk2 (a.length - (i_3+1)) (i_3+1)=next2 at hk;rw [←hf2] at hk; (try dsimp only at hk);refine jQ ?_;have hq:(0≤(i_3:Int)∧(i_3:Int)<(b.length:Int))∧_:=gg hk;clear hk;obtain ⟨g18,hk⟩:=hq; (try dsimp only at hk);refine q1F ?_;refine q12 ?_;refine kG ?_;refine T.cond rfl (fun h5=>?_) (fun h5=>?_)
    ·have p5:=of_decide_eq_true h5;replace hk:=dt hk h5;refine T.seq ?_;refine dM (sN 0 9 (.still 9 .done)) _ a7 (List.Sublist.refl _) ?_;refine q12 ?_;refine gQ ?_;refine fQ ?_;refine K.seq (T.ret (fm (d6 (d6 (fm (d6 ?_))))));obtain rfl:=Option.some.inj hk;exact eh
    ·have p5:=of_decide_eq_false h5;replace hk:=dr hk h5;refine gY ?_;rw [←hn2] at hk;exact q4C
   ·have p4:=of_decide_eq_false h4;rw [fw a5,←hkk2] at hk; (try dsimp only at hk);refine eE ?_;exact lv
 ·rintro _ hk;rw [←hk1] at hk; (try dsimp only at hk);refine kE ?_;obtain rfl:=Option.some.inj hk;exact eh
def lh (x_:GPair):List Int:=
 [x_.A,x_.B,x_.Offset,x_.Low,x_.High]
theorem ze0 (F0:Frz)(w:World)(hF0:F0.At w)(x_:GPair):Calls Tryz.prog 90 #[.agg [.int .i64 x_.A, .int .i64 x_.B, .int .i64 x_.Offset, .int .i64 x_.Low, .int .i64 x_.High].toArray] w fun e w'=>∃(y:Value) (G:Frz),(SlC G y 1 ((lh x_).map eI))∧e= .returned (y)∧Fx F0 w G w':=by
 obtain ⟨r,hk⟩:∃r,lh x_=r:=⟨_,rfl⟩;rw [hk];unfold lh at hk;obtain ⟨S0,F1,rfl,hS0,hp0⟩:=eY hF0;refine dv Tryz.func90 rfl rfl rfl hp0 ?_;refine iW ?_;rintro _ _ ⟨g1,rfl,rfl⟩;refine ig ?_;refine q20 ?_;refine ei ?_;refine ei ?_;refine jW ?_;rintro _ _ ⟨g13,rfl,rfl⟩;refine fO ?_;refine q3l ?_;rintro F2 ⟨le1_2,hz2⟩;refine iX ?_;have hf2:SlC F2.toFrz (.slice (some ⟨g13,0,none⟩) 5 5) 1 ([x_.A,x_.B,x_.Offset,x_.Low,x_.High].map eI):=(SlK.lit hz2 rfl (Nat.le_refl _) a6).toF (xs:=[x_.A,x_.B,x_.Offset,x_.Low,x_.High]) rfl (fun _=>rfl);subst hk;exact q46
def lm (x_:GLoad):List Int:=
 [x_.To,x_.From,x_.Weight,x_.Low,x_.High]
theorem ze3 (F0:Frz)(w:World)(hF0:F0.At w)(x_:GLoad):Calls Tryz.prog 91 #[.agg [.int .i64 x_.To, .int .i64 x_.From, .int .i64 x_.Weight, .int .i64 x_.Low, .int .i64 x_.High].toArray] w fun e w'=>∃(y:Value) (G:Frz),(SlC G y 1 ((lm x_).map eI))∧e= .returned (y)∧Fx F0 w G w':=by
 obtain ⟨r,hk⟩:∃r,lm x_=r:=⟨_,rfl⟩;rw [hk];unfold lm at hk;obtain ⟨S0,F1,rfl,hS0,hp0⟩:=eY hF0;refine dv Tryz.func91 rfl rfl rfl hp0 ?_;refine iW ?_;rintro _ _ ⟨g1,rfl,rfl⟩;refine ig ?_;refine q20 ?_;refine ei ?_;refine ei ?_;refine jW ?_;rintro _ _ ⟨g13,rfl,rfl⟩;refine fO ?_;refine q3l ?_;rintro F2 ⟨le1_2,hz2⟩;refine iX ?_;have hf2:SlC F2.toFrz (.slice (some ⟨g13,0,none⟩) 5 5) 1 ([x_.To,x_.From,x_.Weight,x_.Low,x_.High].map eI):=(SlK.lit hz2 rfl (Nat.le_refl _) a6).toF (xs:=[x_.To,x_.From,x_.Weight,x_.Low,x_.High]) rfl (fun _=>rfl);subst hk;exact q46
def ln (x_:GCap):List Int:=
 [x_.Station,x_.Max,x_.Low,x_.High]
theorem zfK (F0:Frz)(w:World)(hF0:F0.At w)(x_:GCap):Calls Tryz.prog 92 #[.agg [.int .i64 x_.Station, .int .i64 x_.Max, .int .i64 x_.Low, .int .i64 x_.High].toArray] w fun e w'=>∃(y:Value) (G:Frz),(SlC G y 1 ((ln x_).map eI))∧e= .returned (y)∧Fx F0 w G w':=by
 obtain ⟨r,hk⟩:∃r,ln x_=r:=⟨_,rfl⟩;rw [hk];unfold ln at hk;obtain ⟨S0,F1,rfl,hS0,hp0⟩:=eY hF0;refine dv Tryz.func92 rfl rfl rfl hp0 ?_;refine iW ?_;rintro _ _ ⟨g1,rfl,rfl⟩;refine ig ?_;refine q20 ?_;refine ei ?_;refine jW ?_;rintro _ _ ⟨g11,rfl,rfl⟩;refine fO ?_;refine q3l ?_;rintro F2 ⟨le1_2,hz2⟩;refine iX ?_;have hf2:SlC F2.toFrz (.slice (some ⟨g11,0,none⟩) 4 4) 1 ([x_.Station,x_.Max,x_.Low,x_.High].map eI):=(SlK.lit hz2 rfl (Nat.le_refl _) a6).toF (xs:=[x_.Station,x_.Max,x_.Low,x_.High]) rfl (fun _=>rfl);subst hk;exact cZ rfl rfl (fun w' hw=>⟨(.slice (some ⟨g11,0,none⟩) 4 4),F2.toFrz,hf2,rfl,fT hw (i:=1) rfl hS0 le1_2⟩)
def zc4 (d:List GDomain)(s:Int)(c:Int):Option (List GDomain):=
 dJ (fun (out_1:List GDomain)=>
  some out_1)
 (fun k2=>
  c8 (fun (i_5:Nat) (next4:List GDomain→Option (List GDomain)) (out_3:List GDomain)=>
   ey (dn ([]++(cK d i_5).Channels).length 8) <|
   dJ (fun (s9:Int×List Int)=>
    ey (dn (out_3++[(GDomain.mk s9.1 s9.2)]).length 32) <|
    next4 (out_3++[(GDomain.mk s9.1 s9.2)]))
   (fun k9=>
    (bif decide ((cK d i_5).Station=s) then
     (bif (dT ((cK d i_5).Channels) c) then
      k9 ((cK d i_5).Station,[c])
      else
      k9 ((cK d i_5).Station,[]))
     else
     k9 ((cK d i_5).Station,([]++(cK d i_5).Channels)))))
  (fun (out_3:List GDomain)=>
   k2 out_3) (d.length - 0) 0 [])
def zcc (d:List GDomain)(s:Int)(c:Int):Option (List GDomain):=
 dJ (fun (out_1:List GDomain)=>
  some out_1)
 (fun k2=>
  c8 (fun (i_5:Nat) (next4:List GDomain→Option (List GDomain)) (out_3:List GDomain)=>
   dJ (fun (s9:Int×List Int)=>
    ey (dn (out_3++[(GDomain.mk s9.1 s9.2)]).length 32) <|
    next4 (out_3++[(GDomain.mk s9.1 s9.2)]))
   (fun k9=>
    c8 (fun (k_13:Nat) (next12:(Int×List Int)→Option (List GDomain)) (s12:Int×List Int)=>
     (bif ((decide (¬(cK d i_5).Station=s))||(decide (¬(cK ((cK d i_5).Channels) k_13)=c))) then
      ey (dn (s12.2++[(cK ((cK d i_5).Channels) k_13)]).length 8) <|
      next12 (s12.1,(s12.2++[(cK ((cK d i_5).Channels) k_13)]))
      else
      next12 (s12.1,s12.2)))
    (fun (s12:Int×List Int)=>
     k9 (s12.1,s12.2)) ((((cK d i_5).Channels).length) - 0) 0 ((cK d i_5).Station,[])))
  (fun (out_3:List GDomain)=>
   k2 out_3) (d.length - 0) 0 [])
def zbR (low:Int)(c:Int)(high:Int):Bool:=
 ((decide (low≤c))&&(decide (c≤high)))
def zcz (d:List GDomain)(station:Int)(channel:Int):Bool:=
 dJ (fun (_:Unit)=>
  true)
 (fun k1=>
  c8 (fun (i_3:Nat) (next2:Unit→Bool) (_:Unit)=>
   dJ (fun (_:Unit)=>
    next2 ())
   (fun k5=>
    (bif decide (¬(cK d i_3).Station=station) then
     k5 ()
     else
     c8 (fun (k_8:Nat) (next7:Unit→Bool) (_:Unit)=>
      (bif decide (¬(cK ((cK d i_3).Channels) k_8)=channel) then
       false
       else
       next7 ()))
     (fun (_:Unit)=>
      k5 ()) ((((cK d i_3).Channels).length) - 0) 0 ())))
  (fun (_:Unit)=>
   k1 ()) (d.length - 0) 0 ())
def zdI (p:GProblem)(d:List GDomain)(s:Int)(c:Int):Bool:=
 dJ (fun (_:Unit)=>
  false)
 (fun k1=>
  c8 (fun (i_3:Nat) (next2:Unit→Bool) (_:Unit)=>
   (bif (((decide ((cK p.Rules.Pairs i_3).A=s))&&(zbR ((cK p.Rules.Pairs i_3).Low) c ((cK p.Rules.Pairs i_3).High)))&&(zcz d ((cK p.Rules.Pairs i_3).B) (wI (c+((cK p.Rules.Pairs i_3).Offset))))) then
    true
    else
    (bif (((decide ((cK p.Rules.Pairs i_3).B=s))&&(zbR ((cK p.Rules.Pairs i_3).Low) (wI (c - ((cK p.Rules.Pairs i_3).Offset))) ((cK p.Rules.Pairs i_3).High)))&&(zcz d ((cK p.Rules.Pairs i_3).A) (wI (c - ((cK p.Rules.Pairs i_3).Offset))))) then
     true
     else
     next2 ())))
  (fun (_:Unit)=>
   k1 ()) (p.Rules.Pairs.length - 0) 0 ())
def zd6 (p:GProblem)(d:List GDomain)(to_:Int)(c:Int)(further:Int):Int:=
 dJ (fun (n_1:Int)=>
  n_1)
 (fun k2=>
  c8 (fun (i_5:Nat) (next4:Int→Int) (n_3:Int)=>
   (bif (((decide ((cK p.Rules.Loads i_5).To=to_))&&(zbR ((cK p.Rules.Loads i_5).Low) c ((cK p.Rules.Loads i_5).High)))&&((decide ((cK p.Rules.Loads i_5).From=further))||(zcz d ((cK p.Rules.Loads i_5).From) c))) then
    next4 (wI (n_3+((cK p.Rules.Loads i_5).Weight)))
    else
    next4 n_3))
  (fun (n_3:Int)=>
   k2 n_3) (p.Rules.Loads.length - 0) 0 0)
def zdD (p:GProblem)(station:Int)(c:Int)(loss:Int):Bool:=
 dJ (fun (_:Unit)=>
  false)
 (fun k1=>
  c8 (fun (i_3:Nat) (next2:Unit→Bool) (_:Unit)=>
   (bif (((decide ((cK p.Rules.Caps i_3).Station=station))&&(zbR ((cK p.Rules.Caps i_3).Low) c ((cK p.Rules.Caps i_3).High)))&&(decide ((cK p.Rules.Caps i_3).Max<loss))) then
    true
    else
    next2 ()))
  (fun (_:Unit)=>
   k1 ()) (p.Rules.Caps.length - 0) 0 ())
def zdF (p:GProblem)(d:List GDomain)(s:Int)(c:Int):Bool:=
 dJ (fun (_:Unit)=>
  false)
 (fun k1=>
  c8 (fun (i_3:Nat) (next2:Unit→Bool) (_:Unit)=>
   (bif ((((decide ((cK p.Rules.Loads i_3).From=s))&&(zbR ((cK p.Rules.Loads i_3).Low) c ((cK p.Rules.Loads i_3).High)))&&(zcz d ((cK p.Rules.Loads i_3).To) c))&&(zdD p ((cK p.Rules.Loads i_3).To) c (zd6 p d ((cK p.Rules.Loads i_3).To) c s))) then
    true
    else
    next2 ()))
  (fun (_:Unit)=>
   k1 ()) (p.Rules.Loads.length - 0) 0 ())
def zdn (p:GProblem)(d:List GDomain)(s:Int)(c:Int):Bool:=
 (((zdI p d s c)||(zdD p s c (zd6 p d s c (-1))))||(zdF p d s c))
theorem zpw {l:List Int}{n:Int}:dT l n=l.any fun k=>decide (k=n):=by
 unfold dT;refine mo ?_;rw [zeE (fun i=>decide (cK l i=n)) (fun i next _=>?_),zdX (q:=fun k=>decide (k=n)),Bool.or_false]
 cases decide (cK l i=n) <;> rfl
def jq (d:List GDomain)(s c:Int):Bool:=d.all fun x=>(decide (¬x.Station=s)||x.Channels.all fun k=>decide (k=c))
theorem zmu {d:List GDomain}{s c:Int}:zcz d s c=jq d s c:=by
 unfold zcz jq;refine mo ?_;rw [zcI (fun i=>(decide (¬(cK d i).Station=s)||(cK d i).Channels.all fun k=>decide (k=c))) (fun i next _=>?_),zcH (l:=d) (q:=fun x=>(decide (¬x.Station=s)||x.Channels.all fun k=>decide (k=c))),Bool.and_true];rw [zcI (fun k=>decide (cK (cK d i).Channels k=c)) (fun k nx _=>?_),zcH (q:=fun k=>decide (k=c))]
 ·cases decide (¬(cK d i).Station=s) <;> rfl
 ·by_cases h:cK (cK d i).Channels k=c <;> simp [h]
theorem zgG {a b c:Int}:zbR a b c=decide (a≤b∧b≤c):=by
 unfold zbR;by_cases h1:a≤b <;> by_cases h2:b≤c <;> simp [h1,h2]
def mZ (d:List GDomain)(s c:Int)(x:GPair):Bool:=(decide (x.A=s)&&decide (x.Low≤c∧c≤x.High)&&jq d x.B (wI (c+x.Offset)))||(decide (x.B=s)&&decide (x.Low≤wI (c - x.Offset)∧wI (c - x.Offset)≤x.High)&&jq d x.A (wI (c - x.Offset)))
theorem znh {p:GProblem}{d:List GDomain}{s c:Int}:zdI p d s c=p.Rules.Pairs.any (mZ d s c):=by
 unfold zdI;simp only [dJ,Nat.sub_zero,zmu,zgG];rw [zeE (fun i=>mZ d s c (cK p.Rules.Pairs i)) (fun i next _=>?_),zdX (q:=mZ d s c),Bool.or_false];unfold mZ;generalize (decide ((cK p.Rules.Pairs i).A=s)&&decide ((cK p.Rules.Pairs i).Low≤c∧c≤(cK p.Rules.Pairs i).High)&&jq d (cK p.Rules.Pairs i).B (wI (c+(cK p.Rules.Pairs i).Offset)))=a
 cases a
 ·rw [cond_false,Bool.false_or];generalize (decide ((cK p.Rules.Pairs i).B=s)&&decide ((cK p.Rules.Pairs i).Low≤wI (c - (cK p.Rules.Pairs i).Offset)∧wI (c - (cK p.Rules.Pairs i).Offset)≤(cK p.Rules.Pairs i).High)&&jq d (cK p.Rules.Pairs i).A (wI (c - (cK p.Rules.Pairs i).Offset)))=b
  cases b <;> rfl
 ·rfl
def loadC (d:List GDomain)(t c f:Int)(x:GLoad):Bool:=decide (x.To=t)&&decide (x.Low≤c∧c≤x.High)&&(decide (x.From=f)||jq d x.From c)
def ik (p:GProblem)(d:List GDomain)(t c f:Int):Int:=p.Rules.Loads.foldl (fun n x=>bif loadC d t c f x then wI (n+x.Weight) else n) 0
theorem zpM {p:GProblem}{d:List GDomain}{t c f:Int}:zd6 p d t c f=ik p d t c f:=by
 unfold zd6 ik;simp only [dJ,Nat.sub_zero,zmu,zgG];rw [zga (fun i n=>bif loadC d t c f (cK p.Rules.Loads i) then wI (n+(cK p.Rules.Loads i).Weight) else n) (fun i next n _=>?_),nO (g:=fun n x=>bif loadC d t c f x then wI (n+x.Weight) else n)];unfold loadC;generalize (decide ((cK p.Rules.Loads i).To=t)&&decide ((cK p.Rules.Loads i).Low≤c∧c≤(cK p.Rules.Loads i).High)&&(decide ((cK p.Rules.Loads i).From=f)||jq d (cK p.Rules.Loads i).From c))=a
 cases a <;> rfl
def kY (p:GProblem)(s c l:Int):Bool:=p.Rules.Caps.any fun x=>decide (x.Station=s)&&decide (x.Low≤c∧c≤x.High)&&decide (x.Max<l)
theorem zn2 {p:GProblem}{s c l:Int}:zdD p s c l=kY p s c l:=by
 unfold zdD kY;simp only [dJ,Nat.sub_zero,zgG];rw [zeE (fun i=>decide ((cK p.Rules.Caps i).Station=s)&&decide ((cK p.Rules.Caps i).Low≤c∧c≤(cK p.Rules.Caps i).High)&&decide ((cK p.Rules.Caps i).Max<l)) (fun i next _=>?_),zdX (l:=p.Rules.Caps) (q:=fun x=>decide (x.Station=s)&&decide (x.Low≤c∧c≤x.High)&&decide (x.Max<l)),Bool.or_false];generalize (decide ((cK p.Rules.Caps i).Station=s)&&decide ((cK p.Rules.Caps i).Low≤c∧c≤(cK p.Rules.Caps i).High)&&decide ((cK p.Rules.Caps i).Max<l))=a
 cases a <;> rfl
def loadR (p:GProblem)(d:List GDomain)(s c:Int)(x:GLoad):Bool:=decide (x.From=s)&&decide (x.Low≤c∧c≤x.High)&&jq d x.To c&&kY p x.To c (ik p d x.To c s)
theorem znb {p:GProblem}{d:List GDomain}{s c:Int}:zdF p d s c=p.Rules.Loads.any (loadR p d s c):=by
 unfold zdF;simp only [dJ,Nat.sub_zero,zmu,zgG,zn2,zpM];rw [zeE (fun i=>loadR p d s c (cK p.Rules.Loads i)) (fun i next _=>?_),zdX (q:=loadR p d s c),Bool.or_false];unfold loadR;generalize (decide ((cK p.Rules.Loads i).From=s)&&decide ((cK p.Rules.Loads i).Low≤c∧c≤(cK p.Rules.Loads i).High)&&jq d (cK p.Rules.Loads i).To c&&kY p (cK p.Rules.Loads i).To c (ik p d (cK p.Rules.Loads i).To c s))=a
 cases a <;> rfl
def iA (p:GProblem)(d:List GDomain)(s c:Int):Bool:=p.Rules.Pairs.any (mZ d s c)||kY p s c (ik p d s c (-1))||p.Rules.Loads.any (loadR p d s c)
theorem zlH {p:GProblem}{d:List GDomain}{s c:Int}:zdn p d s c=iA p d s c:=by
 unfold zdn iA;rw [znh,zn2,zpM,znb]
def jh (s c:Int)(x:GDomain):GDomain:=⟨x.Station,x.Channels.filter fun k=>decide (¬x.Station=s)||decide (¬k=c)⟩
theorem zlA {d:List GDomain}{s c:Int}(hd:d.length≤100000)(hc:∀x∈d,x.Channels.length≤100000):zcc d s c=some (d.map (jh s c)):=by
 unfold zcc;refine mo ?_;refine (nz (fun i out=>out.length=i) (fun i out=>out++[jh s c (cK d i)]) rfl (fun i out _ h=>by simp [h]) (fun i next out hi hl=>?_)).1.trans ?_
 ·have hci:=hc (cK d i) (by rw [dQ hi];exact List.getElem_mem _);refine (nz (fun k (t:Int×List Int)=>t.2.length≤k) (fun k t=>(t.1,bif (decide (¬(cK d i).Station=s)||decide (¬cK (cK d i).Channels k=c)) then t.2++[cK (cK d i).Channels k] else t.2)) (by exact Nat.le_refl 0) (fun k t _ h=>?_) (fun k nx t hk ht=>?_)).1.trans ?_
  ·(try dsimp only)
   cases (decide (¬(cK d i).Station=s)||decide (¬cK (cK d i).Channels k=c)) <;> simp <;> omega
  ·(try dsimp only)
   cases (decide (¬(cK d i).Station=s)||decide (¬cK (cK d i).Channels k=c))
   ·rfl
   ·exact f7 (by simp only [dn,List.length_append,List.length_singleton];omega)
  ·rw [zmK (g:=fun t k=>bif (decide (¬(cK d i).Station=s)||decide (¬cK (cK d i).Channels k=c)) then t++[cK (cK d i).Channels k] else t),nO (l:=(cK d i).Channels) (g:=fun t k=>bif (decide (¬(cK d i).Station=s)||decide (¬k=c)) then t++[k] else t),zlj (g:=fun k=>k)];rw [f7 (by simp only [dn,List.length_append,List.length_singleton];omega)];simp [jh]
 ·rw [nO (l:=d) (g:=fun out x=>out++[jh s c x]),zhH];rfl
def ja (s c:Int)(x:GDomain):GDomain:=⟨x.Station,bif decide (x.Station=s) then (bif x.Channels.any (fun k=>decide (k=c)) then [c] else []) else x.Channels⟩
theorem zn6 {d:List GDomain}{s c:Int}(hd:d.length≤100000)(hc:∀x∈d,x.Channels.length≤100000):zc4 d s c=some (d.map (ja s c)):=by
 unfold zc4;simp only [dJ,Nat.sub_zero,zpw];refine (nz (fun i out=>out.length=i) (fun i out=>out++[ja s c (cK d i)]) rfl (fun i out _ h=>by simp [h]) (fun i next out hi hl=>?_)).1.trans ?_
 ·have hci:=hc (cK d i) (by rw [dQ hi];exact List.getElem_mem _);rw [f7 (by simp only [dn,List.nil_append];omega)]; (have hr:∀y:GDomain,dn (out++[y]).length 32:=fun y=>by simp only [dn,List.length_append,List.length_singleton];omega);simp only [f7 (hr _),ja]
  cases decide ((cK d i).Station=s) <;> cases ((cK d i).Channels.any fun k=>decide (k=c)) <;> rfl
 ·rw [nO (l:=d) (g:=fun out x=>out++[ja s c x]),zhH];rfl
def zbl (fuel:Nat)(p:GProblem)(d:List GDomain):Option (List GDomain×Bool):=
 dJ (fun (d_1:List GDomain)=>
  dJ (fun (_:Unit)=>
   some (d_1,true))
  (fun k20=>
   c8 (fun (i_22:Nat) (next21:Unit→Option (List GDomain×Bool)) (_:Unit)=>
    (bif decide ((((cK d_1 i_22).Channels).length:Int)=0) then
     some ([],false)
     else
     next21 ()))
   (fun (_:Unit)=>
    k20 ()) (d_1.length - 0) 0 ()))
 (fun k2=>
  jP (fun (next5:(List GDomain×Bool)→Option (List GDomain×Bool)) (s5:List GDomain×Bool)=>
   (bif s5.2 then
    jP (fun (next11:(List GDomain×Bool×Int)→Option (List GDomain×Bool)) (s11:List GDomain×Bool×Int)=>
     (bif decide (s11.2.2<(s11.1.length:Int)) then
      ey (0≤s11.2.2∧s11.2.2<(s11.1.length:Int)) <|
      nD (fun (k_17:Nat) (next16:(List GDomain×Bool)→Option (List GDomain×Bool)) (s16:List GDomain×Bool)=>
       ey (0≤s11.2.2∧s11.2.2<(s16.1.length:Int)) <|
       ey (0≤(k_17:Int)∧(k_17:Int)<(((cK s16.1 s11.2.2.toNat).Channels).length:Int)) <|
       (bif (zdn p s16.1 ((cK s16.1 s11.2.2.toNat).Station) (cK ((cK s16.1 s11.2.2.toNat).Channels) k_17)) then
        (zcc s16.1 ((cK s16.1 s11.2.2.toNat).Station) (cK ((cK s16.1 s11.2.2.toNat).Channels) k_17)).bind fun r51=>
        next16 (r51,true)
        else
        next16 (s16.1,s16.2)))
      (fun (s16:List GDomain×Bool)=>
       next11 (s16.1,s16.2,(s11.2.2+1))) (((cK s11.1 s11.2.2.toNat).Channels).length) (s11.1,s11.2.1)
      else
      next5 (s11.1,s11.2.1))) fuel (s5.1,false,0)
    else
    k2 s5.1)) fuel (d,true))
theorem fG {α:Type}[Inhabited α]{xs:List α}{k:Nat}(h:k<xs.length):cK xs k∈xs:=by rw [dQ h];exact List.getElem_mem _
theorem iS {α:Type}[Inhabited α]{xs:List α}{x:α}(h:x∈xs):∃k,k<xs.length∧cK xs k=x:=by
 obtain ⟨k,hk,rfl⟩:=List.mem_iff_getElem.1 h;exact ⟨k,hk,dQ hk⟩
theorem iU {α β:Type}[Inhabited α][Inhabited β]{f:α→β}{xs:List α}{i:Nat}(h:i<xs.length):cK (xs.map f) i=f (cK xs i):=jJ h
theorem zfa {α:Type}[Inhabited α]{a b:List α}(hl:a.length=b.length)(h:∀i,i<a.length→cK a i=cK b i):a=b:=by
 apply List.ext_getElem hl;intro i h1 h2;have:=h i h1
 rwa [dQ h1,dQ h2] at this
def SubD (a b:List GDomain):Prop:=a.length=b.length∧∀i,i<b.length→(cK a i).Station=(cK b i).Station∧∀c∈(cK a i).Channels,c∈(cK b i).Channels
theorem SubD.refl (a:List GDomain):SubD a a:=⟨rfl,fun _ _=>⟨rfl,fun _ h=>h⟩⟩
theorem SubD.trans {a b c:List GDomain}(h:SubD a b)(k:SubD b c):SubD a c:=⟨h.1.trans k.1,fun i hi=>⟨((h.2 i (by rw [k.1];exact hi)).1).trans (k.2 i hi).1,fun x hx=>(k.2 i hi).2 x ((h.2 i (by rw [k.1];exact hi)).2 x hx)⟩⟩
def WtP (p:GProblem):Prop:=p.Rules.Loads.length≤1024∧∀x∈p.Rules.Loads,0≤x.Weight∧x.Weight≤1073741824
section
variable {p:GProblem}{a b d:List GDomain}
theorem gG {s c:Int}:jq d s c=true↔∀x∈d,x.Station=s→∀k∈x.Channels,k=c:=by
 unfold jq;simp only [List.all_eq_true,Bool.or_eq_true,decide_eq_true_eq];constructor
 ·intro h x hx hs k hk;rcases h x hx with h1|h1
  ·exact absurd hs h1
  ·exact h1 k hk
 ·intro h x hx;by_cases hs:x.Station=s
  ·exact .inr (h x hx hs)
  ·exact .inl hs
theorem zdj (h:SubD a b){s c:Int}(ho:jq b s c=true):jq a s c=true:=by
 rw [gG] at ho ⊢;intro x hx hs k hk;obtain ⟨i,hi,rfl⟩:=iS hx;have h2:=h.2 i (by rw [←h.1];exact hi);exact ho (cK b i) (fG (by rw [←h.1];exact hi)) (by rw [←h2.1];exact hs) k (h2.2 k hk)
theorem zgf {t c f : Int} (h : SubD a b) : ∀ (l : List GLoad), (∀ x ∈ l, 0 ≤ x.Weight ∧ x.Weight ≤ 1073741824) → ∀ n n' : Int, 0 ≤ n → n ≤ n' → n' + 1073741824 * (l.length : Int) ≤ 4611686018427387904 →
    l.foldl (fun n x => bif loadC b t c f x then wI (n + x.Weight) else n) n ≤ l.foldl (fun n x => bif loadC a t c f x then wI (n + x.Weight) else n) n'
  | [], _, n, n', _, hn, _ => hn
  | x :: r, hw, n, n', h0, hn, hb => by
    have h1 := hw x a8; simp only [List.length_cons] at hb; rw [List.foldl_cons, List.foldl_cons]; have e1 : wI (n + x.Weight) = n + x.Weight := mG a5; have e2 : wI (n' + x.Weight) = n' + x.Weight := mG a5; rw [e1, e2]
    have hc : loadC b t c f x = true → loadC a t c f x = true := by
      unfold loadC;simp only [Bool.and_eq_true, Bool.or_eq_true]; rintro ⟨h3, h4⟩; exact ⟨h3, h4.imp id (zdj h)⟩
    refine zgf h r (fun y hy => hw y (by simp [hy])) _ _ ?_ ?_ ?_
    · cases loadC b t c f x <;> simp <;> omega
    · cases hb' : loadC b t c f x
      · cases loadC a t c f x <;> simp <;> omega
      · rw [hc hb']; simp; omega
    · cases loadC a t c f x <;> simp <;> omega
theorem ziX (hp:WtP p)(h:SubD a b){t c f:Int}:ik p b t c f≤ik p a t c f:=by
 unfold ik;have:=hp.1;exact zgf h _ hp.2 0 0 a5 a5 a5
theorem zhC {s c l l':Int}(hl:l≤l')(h:kY p s c l=true):kY p s c l'=true:=by
 unfold kY at h ⊢;rw [List.any_eq_true] at h ⊢;obtain ⟨x,hx,h⟩:=h;refine ⟨x,hx,?_⟩;simp only [Bool.and_eq_true,decide_eq_true_eq] at h ⊢;exact ⟨h.1,by omega⟩
theorem zhj (hp:WtP p)(h:SubD a b){s c:Int}(hr:iA p b s c=true):iA p a s c=true:=by
 unfold iA at hr ⊢;simp only [Bool.or_eq_true,List.any_eq_true] at hr ⊢;rcases hr with (⟨x,hx,hr⟩|hr)|⟨x,hx,hr⟩
 ·refine .inl (.inl ⟨x,hx,?_⟩);unfold mZ at hr ⊢;simp only [Bool.or_eq_true,Bool.and_eq_true] at hr ⊢;exact hr.imp (fun q=>⟨q.1,zdj h q.2⟩) (fun q=>⟨q.1,zdj h q.2⟩)
 ·exact .inl (.inr (zhC (ziX hp h) hr))
 ·refine .inr ⟨x,hx,?_⟩;unfold loadR at hr ⊢;simp only [Bool.and_eq_true] at hr ⊢;exact ⟨⟨hr.1.1,zdj h hr.1.2⟩,zhC (ziX hp h) hr.2⟩
structure ClosedD (p:GProblem) (d:List GDomain):Prop where
 ne:∀x∈d,x.Channels≠[]
 calm:∀x∈d,∀c∈x.Channels,iA p d x.Station c=false
def OrdD (a b:List GDomain):Prop:=∀i,i<b.length→(cK a i).Channels.Sublist (cK b i).Channels
def PropD (p:GProblem)(d:List GDomain)(r:List GDomain×Bool):Prop:=
 (r.2=true∧ClosedD p r.1∧(SubD r.1 d∧OrdD r.1 d)∧∀S,ClosedD p S→SubD S d→SubD S r.1)∨(r=([],false)∧∀S,ClosedD p S→¬SubD S d)
def znL (R:List GDomain→Int→Int→Bool)(d:List GDomain):Prop:=∀x∈d,∀c∈x.Channels,R d x.Station c=false
def MonoR (R:List GDomain→Int→Int→Bool):Prop:=∀a b s c,SubD a b→R b s c=true→R a s c=true
theorem zlq {R:List GDomain→Int→Int→Bool}(hp:MonoR R){S:List GDomain}(hS:znL R S)(h:SubD S d){s c:Int}(hr:R d s c=true):SubD S (d.map (jh s c)):=by
 refine ⟨by rw [h.1,List.length_map],fun i hi=>?_⟩;rw [List.length_map] at hi;rw [iU hi];have h2:=h.2 i hi;refine ⟨h2.1,fun k hk=>?_⟩;unfold jh;rw [List.mem_filter];refine ⟨h2.2 k hk,?_⟩;simp only [Bool.or_eq_true,decide_eq_true_eq];by_cases hs:(cK d i).Station=s
 ·refine .inr fun hkc=>?_;subst hkc;have hm:=fG (show i<S.length by rw [h.1];exact hi);have:=hS _ hm k hk;rw [h2.1,hs,hp _ _ _ _ h hr] at this
  cases this
 ·exact .inl hs
theorem drop_sub {s c:Int}:SubD (d.map (jh s c)) d:=by
 refine ⟨List.length_map _,fun i hi=>?_⟩;rw [iU hi];exact ⟨rfl,fun k hk=>(List.mem_filter.1 hk).1⟩
def eA (d:List GDomain):Nat:=(d.map fun x=>x.Channels.length).sum
theorem zl5:∀(d:List GDomain) (f:GDomain→GDomain),(∀x∈d,(f x).Channels.length≤x.Channels.length)→eA (d.map f)≤eA d
 | [],_,_=>Nat.le_refl _
 |x :: r,f,h=>by
  have:=zl5 r f (fun y hy=>h y (by simp [hy]));have h1:=h x a8;simp only [eA,List.map_cons,List.sum_cons] at this ⊢;omega
theorem zmf:∀(d:List GDomain) (f:GDomain→GDomain),(∀x∈d,(f x).Channels.length≤x.Channels.length)→(∃x∈d,(f x).Channels.length<x.Channels.length)→eA (d.map f)<eA d
 |x :: r,f,h,he=>by
  have h1:=h x a8;obtain ⟨y,hy,hlt⟩:=he;rcases List.mem_cons.1 hy with rfl|hy
  ·have:=zl5 r f (fun z hz=>h z (by simp [hz]));simp only [eA,List.map_cons,List.sum_cons] at this ⊢;omega
  ·have:=zmf r f (fun z hz=>h z (by simp [hz])) ⟨y,hy,hlt⟩;simp only [eA,List.map_cons,List.sum_cons] at this ⊢;omega
theorem zhW {α:Type}{q:α→Bool}:∀ {l:List α} {x:α},x∈l→q x=false→(l.filter q).length<l.length
 |y :: r,x,hx,hq=>by
  rcases List.mem_cons.1 hx with rfl|hx
  ·rw [List.filter_cons,hq];have:=List.length_filter_le q r;simp;omega
  ·have:=zhW hx hq;rw [List.filter_cons];split <;> simp only [List.length_cons] <;> omega
theorem zmD {s c:Int}{i:Nat}(hi:i<d.length)(hs:(cK d i).Station=s)(hc:c∈(cK d i).Channels):eA (d.map (jh s c))<eA d:=
 zmf d _ (fun x _=>List.length_filter_le _ _) ⟨cK d i,fG hi,zhW hc (by simp [hs])⟩
structure Bd (d:List GDomain):Prop where
 len:d.length≤100000
 ch:∀x∈d,x.Channels.length≤100000∧x.Channels.Nodup
theorem Bd.drop (h:Bd d){s c:Int}:Bd (d.map (jh s c)):=by
 refine ⟨by rw [List.length_map];exact h.len,fun x hx=>?_⟩;obtain ⟨y,hy,rfl⟩:=List.mem_map.1 hx;exact ⟨Nat.le_trans (List.length_filter_le _ _) (h.ch y hy).1,(h.ch y hy).2.filter _⟩
theorem zk3 {s c:Int}{i k:Nat}(hb:Bd d)(hi:i<d.length)(hk:k<(cK d i).Channels.length)(hc:cK (cK d i).Channels k=c):k≤(cK (d.map (jh s c)) i).Channels.length:=by
 rw [iU hi];unfold jh;have hn:=(hb.ch _ (fG hi)).2;have e:(cK d i).Channels=(cK d i).Channels.take k++(cK d i).Channels.drop k:=(List.take_append_drop k _).symm
 have hf:((cK d i).Channels.take k).filter (fun q=>decide (¬(cK d i).Station=s)||decide (¬q=c))=(cK d i).Channels.take k:=by
  rw [List.filter_eq_self];intro q hq;simp only [Bool.or_eq_true,decide_eq_true_eq];refine .inr fun hqc=>?_;obtain ⟨j,hj,rfl⟩:=List.mem_iff_getElem.1 hq;simp only [List.length_take] at hj;rw [List.getElem_take] at hqc;rw [dQ hk] at hc;have:=(List.getElem_inj (h₀:=by omega) (h₁:=hk) hn).1 (hqc.trans hc.symm);omega
 show k≤((cK d i).Channels.filter _).length
 rw [e,List.filter_append,hf,List.length_append,List.length_take];omega
structure InvR (R:List GDomain→Int→Int→Bool) (d0 d:List GDomain):Prop where
 bd:Bd d
 sub:SubD d d0
 ord:OrdD d d0
 sup:∀S,znL R S→SubD S d0→SubD S d
theorem InvR.step {R:List GDomain→Int→Int→Bool}{d0:List GDomain}(hp:MonoR R)(h:InvR R d0 d){s c:Int}(hr:R d s c=true):InvR R d0 (d.map (jh s c)):=
 ⟨h.bd.drop,drop_sub.trans h.sub,fun i hi=>by
  rw [iU (by rw [h.sub.1];exact hi)]
  exact (List.filter_sublist).trans (h.ord i hi),fun S hS hs=>zlq hp hS (h.sup S hS hs) hr⟩
theorem zoP {R : List GDomain → Int → Int → Bool} {ρ : Type} {fuel : Nat} {d0 : List GDomain} {k2 : List GDomain → Option ρ} (post : Option ρ → Prop) (hp : MonoR R) (hb : Bd d0) (hf1 : d0.length < fuel) (hf2 : eA d0 + 1 < fuel) (hend : ∀ d, InvR R d0 d → znL R d → post (k2 d)) :
    post (jP (fun (next5 : (List GDomain × Bool) → Option ρ) (s5 : List GDomain × Bool) =>
      (bif s5.2 then
        jP (fun (next11 : (List GDomain × Bool × Int) → Option ρ) (s11 : List GDomain × Bool × Int) =>
          (bif decide (s11.2.2 < (s11.1.length : Int)) then
            ey (0 ≤ s11.2.2 ∧ s11.2.2 < (s11.1.length : Int)) <|
            nD (fun (k_17 : Nat) (next16 : (List GDomain × Bool) → Option ρ) (s16 : List GDomain × Bool) =>
              ey (0 ≤ s11.2.2 ∧ s11.2.2 < (s16.1.length : Int)) <|
              ey (0 ≤ (k_17 : Int) ∧ (k_17 : Int) < (((cK s16.1 s11.2.2.toNat).Channels).length : Int)) <|
              (bif (R s16.1 ((cK s16.1 s11.2.2.toNat).Station) (cK ((cK s16.1 s11.2.2.toNat).Channels) k_17)) then
                (zcc s16.1 ((cK s16.1 s11.2.2.toNat).Station) (cK ((cK s16.1 s11.2.2.toNat).Channels) k_17)).bind fun r51 =>
                next16 (r51, true)
                else
                next16 (s16.1, s16.2)))
            (fun (s16 : List GDomain × Bool) =>
              next11 (s16.1, s16.2, (s11.2.2 + 1))) (((cK s11.1 s11.2.2.toNat).Channels).length) (s11.1, s11.2.1)
            else
            next5 (s11.1, s11.2.1))) fuel (s5.1, false, 0)
        else
        k2 s5.1)) fuel (d0, true)) := by
  refine zdU (σ := List GDomain × Bool) (I := fun s => InvR R d0 s.1 ∧ (s.2 = false → znL R s.1)) (μ := fun s => eA s.1 + (bif s.2 then 1 else 0)) (post := post) ⟨⟨hb, .refl _, fun _ _ => List.Sublist.refl _, fun S _ h => h⟩, fun h => by cases h⟩ hf2 ?_; rintro ⟨d, again⟩ next ⟨hI, hA⟩ hn; dsimp only at hI hA hn ⊢
  cases again with
  | false =>
    rw [cond_false]; exact hend d hI (hA rfl)
  | true =>
    rw [cond_true]
    -- one sweep over the stations
    refine zdU (σ := List GDomain × Bool × Int) (I := fun s => InvR R d0 s.1 ∧ 0 ≤ s.2.2 ∧ s.2.2 ≤ s.1.length ∧ s.1.length = d.length ∧ (s.2.1 = false → s.1 = d ∧ ∀ j : Nat, (j : Int) < s.2.2 → ∀ c ∈ (cK d j).Channels, R d (cK d j).Station c = false) ∧ (s.2.1 = true → eA s.1 < eA d)) (μ := fun s => (s.1.length - s.2.2).toNat) (post := post) ⟨hI, by simp, by simp, rfl, fun _ => ⟨rfl, fun j hj => absurd hj a8⟩, fun h => by cases h⟩ (by simp only [Int.sub_zero, Int.toNat_natCast]; rw [hI.sub.1]; exact hf1) ?_; rintro ⟨d1, ag, i⟩ next1 ⟨hI1, h0, h1, hl, hF, hT⟩ hn1; dsimp only at hI1 h0 h1 hl hF hT hn1 ⊢; by_cases hi : i < (d1.length : Int)
    · rw [decide_eq_true hi, cond_true, f7 ⟨h0, hi⟩]; (have hin : i.toNat < d1.length := by omega); refine zjd (σ := List GDomain × Bool) (I := fun m s => InvR R d0 s.1 ∧ s.1.length = d.length ∧ m ≤ (cK s.1 i.toNat).Channels.length ∧ (s.2 = false → s.1 = d ∧ (∀ j : Nat, (j : Int) < i → ∀ c ∈ (cK d j).Channels, R d (cK d j).Station c = false) ∧ ∀ k, m ≤ k → k < (cK d i.toNat).Channels.length → R d (cK d i.toNat).Station (cK (cK d i.toNat).Channels k) = false) ∧ (s.2 = true → eA s.1 < eA d)) (post := post) ?_ ?_ ?_
      · dsimp only; refine ⟨hI1, hl, Nat.le_refl _, fun h => ?_, hT⟩; obtain ⟨h2, h3⟩ := hF h; subst h2; exact ⟨rfl, h3, fun k h4 h5 => absurd h5 a5⟩
      · rintro ⟨d2, ag2⟩ ⟨g1, g2, _, g4, g5⟩; dsimp only at g1 g2 g4 g5 ⊢; refine hn1 _ ⟨g1, by dsimp only; omega, by dsimp only; omega, g2, fun h => ?_, g5⟩ (by dsimp only; omega); dsimp only at h; obtain ⟨h2, h3, h4⟩ := g4 h; refine ⟨h2, fun j hj c hc => ?_⟩; dsimp only at hj; by_cases hji : (j : Int) < i
        · exact h3 j hji c hc
        · (obtain rfl : j = i.toNat := by omega); obtain ⟨k, hk, rfl⟩ := iS hc; exact h4 k (Nat.zero_le _) hk
      · rintro k ⟨d2, ag2⟩ nx hk ⟨g1, g2, g3, g4, g5⟩ hnx; dsimp only at g1 g2 g3 g4 g5 hnx ⊢; (have hid : i.toNat < d2.length := by omega); rw [f7 ⟨h0, by omega⟩, f7 ⟨by omega, by omega⟩]
        cases hr : R d2 (cK d2 i.toNat).Station (cK (cK d2 i.toNat).Channels k) with
        | true =>
          rw [cond_true, zlA g1.bd.len (fun x hx => (g1.bd.ch x hx).1), Option.bind_some]; refine hnx _ ⟨g1.step hp hr, by dsimp only; rw [List.length_map]; exact g2, zk3 g1.bd hid a5 rfl, (fun h => by cases h), fun _ => ?_⟩;dsimp only; have h6 := zmD hid rfl (fG (show k < (cK d2 i.toNat).Channels.length by omega))
          cases ag2 with
          | true => have := g5 rfl; omega
          | false => obtain ⟨h7, _⟩ := g4 rfl; subst h7; exact h6
        | false =>
          rw [cond_false]; refine hnx _ ⟨g1, g2, by dsimp only; omega, fun h => ?_, g5⟩; dsimp only at h ⊢; obtain ⟨h7, h8, h9⟩ := g4 h; refine ⟨h7, h8, fun q h10 h11 => ?_⟩; rcases Nat.lt_or_ge k q with h12 | h12
          · exact h9 q h12 h11
          · (obtain rfl : q = k := by omega); subst h7; exact hr
    · rw [decide_eq_false hi, cond_false]; (have hil : i = d1.length := by omega); refine hn (d1, ag) ⟨hI1, fun h => ?_⟩ ?_
      · dsimp only at h ⊢; obtain ⟨h2, h3⟩ := hF h; subst h2; intro x hx c hc; obtain ⟨j, hj, rfl⟩ := iS hx; exact h3 j a5 c hc
      · dsimp only
        cases ag with
        | true => have := hT rfl;simp only [cond_true]; omega
        | false => obtain ⟨h2, _⟩ := hF rfl; subst h2;simp only [cond_true, cond_false]; omega
theorem MonoR.rem (hp:WtP p):MonoR (iA p):=fun _ _ _ _ h hr=>zhj hp h hr
theorem zfi {fuel : Nat} {d0 : List GDomain} (hp : WtP p) (hb : Bd d0) (hf1 : d0.length < fuel) (hf2 : eA d0 + 1 < fuel) : ∃ r, zbl fuel p d0 = some r ∧ PropD p d0 r := by
  unfold zbl;simp only [dJ, Nat.sub_zero, zlH]; refine zoP (R := iA p) (k2 := fun d => c8 (fun (i : Nat) (next : Unit → Option (List GDomain × Bool)) (_ : Unit) => bif decide ((((cK d i).Channels).length : Int) = 0) then some ([], false) else next ()) (fun (_ : Unit) => some (d, true)) d.length 0 ()) (fun o => ∃ r, o = some r ∧ PropD p d0 r) (.rem hp) hb hf1 hf2 fun d hI hA => ?_
  -- the end: is a domain empty?
  refine nn (σ := Unit) (I := fun i _ => ∀ j, j < i → (cK d j).Channels ≠ []) (post := fun o => ∃ r, o = some r ∧ PropD p d0 r) (fun j hj => absurd hj (Nat.not_lt_zero j)) ?_ ?_
  · intro _ h; refine ⟨_, rfl, .inl ⟨rfl, ⟨fun x hx => ?_, hA⟩, ⟨hI.sub, hI.ord⟩, fun S hS => hI.sup S hS.calm⟩⟩; obtain ⟨i, hi, rfl⟩ := iS hx; exact h i hi
  · intro i _ nx hi h hnx; by_cases he : (cK d i).Channels = []
    · rw [he]; refine ⟨_, rfl, .inr ⟨rfl, fun S hS hs => ?_⟩⟩; have h2 := hI.sup S hS.calm hs; have h3 := (h2.2 i hi).2; rw [he] at h3; have hm := fG (show i < S.length by rw [h2.1]; exact hi); apply hS.ne _ hm
      cases hc : (cK S i).Channels with
      | nil => rfl
      | cons c r => exact absurd (h3 c (by rw [hc]; simp)) a8
    · have : ¬ ((cK d i).Channels.length : Int) = 0 := fun h0 => he (List.eq_nil_of_length_eq_zero a5); rw [decide_eq_false this, cond_false]; refine hnx () (fun j hj => ?_); rcases Nat.lt_or_ge j i with h1 | h1
      · exact h j h1
      · rw [show j = i by omega]; exact he
end
end Go.Proofs.YtogbggmckmnlfaaGreatDoor
