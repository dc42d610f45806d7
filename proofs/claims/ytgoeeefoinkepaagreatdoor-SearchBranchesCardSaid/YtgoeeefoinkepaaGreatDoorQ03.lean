/- Ya Yd Cb Cc: shortened and put together by squeeze.py. -/
import Derived.Test.YtgoeeefoinkepaaGreatDoorQ02
set_option maxRecDepth 100000
set_option maxHeartbeats 4000000
set_option linter.unusedVariables false
set_option linter.unusedSectionVars false
set_option linter.unusedSimpArgs false
namespace Go.Proofs.YtgoeeefoinkepaaGreatDoor
open Go.RowKit
structure GChoice where
 Station:Int
 Channel:Int
deriving DecidableEq,Inhabited
abbrev cC (x:GChoice):List Value:=[.int .i64 x.Station, .int .i64 x.Channel]
theorem GChoice.len (x:GChoice):(cC x).length=2:=rfl
structure GDomain where
 Station:Int
 Channels:List Int
deriving DecidableEq,Inhabited
def cG (F:Frz)(c:List Value)(x:GDomain):Prop:=∃(v1:Value),c=[.int .i64 x.Station,v1]∧SlC F v1 1 (x.Channels.map eI)
theorem GDomain.mono {F G:Frz}{c:List Value}{x:GDomain}(hle:F.Le G)(h:cG F c x):cG G c x:=by
 obtain ⟨v1,h0,h2⟩:=h;exact ⟨v1,h0,h2.mono hle⟩
theorem GDomain.len {F:Frz}{c:List Value}{x:GDomain}(h:cG F c x):c.length=2:=by
 obtain ⟨v1,h0,h2⟩:=h;subst h0;rfl
theorem GDomain.one {F:Frz}{c:List Value}{x:GDomain}(h:cG F c x):OneCs c:=by
 obtain ⟨v1,h0,h2⟩:=h;subst h0;haveI:=h2.oneC
 infer_instance
theorem GDomain.c0 {F:Frz}{c:List Value}{x:GDomain}(h:cG F c x):c[0]?=some (.int .i64 x.Station):=by
 obtain ⟨v1,h0,h2⟩:=h;subst h0;rfl
theorem GDomain.c1 {F:Frz}{c:List Value}{x:GDomain}(h:cG F c x):c[1]?=some (cD c 1)∧SlC F (cD c 1) 1 (x.Channels.map eI):=by
 obtain ⟨v1,h0,h2⟩:=h;subst h0;exact ⟨rfl,h2⟩
theorem ez {F:Frz}{c:List Value}{x:GDomain}(h:cG F c x):(c.drop 0).take 2=[.int .i64 x.Station,cD c 1]:=by
 obtain ⟨v1,h0,h2⟩:=h;subst h0;rfl
structure GPair where
 A:Int
 B:Int
 Offset:Int
 Low:Int
 High:Int
deriving DecidableEq,Inhabited
abbrev dq (x:GPair):List Value:=[.int .i64 x.A, .int .i64 x.B, .int .i64 x.Offset, .int .i64 x.Low, .int .i64 x.High]
theorem GPair.len (x:GPair):(dq x).length=5:=rfl
structure GLoad where
 To:Int
 From:Int
 Weight:Int
 Low:Int
 High:Int
deriving DecidableEq,Inhabited
abbrev dy (x:GLoad):List Value:=[.int .i64 x.To, .int .i64 x.From, .int .i64 x.Weight, .int .i64 x.Low, .int .i64 x.High]
theorem GLoad.len (x:GLoad):(dy x).length=5:=rfl
structure GCap where
 Station:Int
 Max:Int
 Low:Int
 High:Int
deriving DecidableEq,Inhabited
abbrev dM (x:GCap):List Value:=[.int .i64 x.Station, .int .i64 x.Max, .int .i64 x.Low, .int .i64 x.High]
theorem GCap.len (x:GCap):(dM x).length=4:=rfl
structure GRules where
 Pairs:List GPair
 Loads:List GLoad
 Caps:List GCap
deriving DecidableEq,Inhabited
def d4 (F:Frz)(c:List Value)(x:GRules):Prop:=∃(v0:Value) (v1:Value) (v2:Value),c=[v0,v1,v2]∧SlC F v0 5 (x.Pairs.map dq)∧SlC F v1 5 (x.Loads.map dy)∧SlC F v2 4 (x.Caps.map dM)
theorem GRules.mono {F G:Frz}{c:List Value}{x:GRules}(hle:F.Le G)(h:d4 F c x):d4 G c x:=by
 obtain ⟨v0,v1,v2,h0,h1,h2,h3⟩:=h;exact ⟨v0,v1,v2,h0,h1.mono hle,h2.mono hle,h3.mono hle⟩
theorem GRules.len {F:Frz}{c:List Value}{x:GRules}(h:d4 F c x):c.length=3:=by
 obtain ⟨v0,v1,v2,h0,h1,h2,h3⟩:=h;subst h0;rfl
theorem GRules.one {F:Frz}{c:List Value}{x:GRules}(h:d4 F c x):OneCs c:=by
 obtain ⟨v0,v1,v2,h0,h1,h2,h3⟩:=h;subst h0;haveI:=h1.oneC;haveI:=h2.oneC;haveI:=h3.oneC
 infer_instance
theorem GRules.c0 {F:Frz}{c:List Value}{x:GRules}(h:d4 F c x):c[0]?=some (cD c 0)∧SlC F (cD c 0) 5 (x.Pairs.map dq):=by
 obtain ⟨v0,v1,v2,h0,h1,h2,h3⟩:=h;subst h0;exact ⟨rfl,h1⟩
theorem GRules.c1 {F:Frz}{c:List Value}{x:GRules}(h:d4 F c x):c[1]?=some (cD c 1)∧SlC F (cD c 1) 5 (x.Loads.map dy):=by
 obtain ⟨v0,v1,v2,h0,h1,h2,h3⟩:=h;subst h0;exact ⟨rfl,h2⟩
theorem GRules.c2 {F:Frz}{c:List Value}{x:GRules}(h:d4 F c x):c[2]?=some (cD c 2)∧SlC F (cD c 2) 4 (x.Caps.map dM):=by
 obtain ⟨v0,v1,v2,h0,h1,h2,h3⟩:=h;subst h0;exact ⟨rfl,h3⟩
theorem GRules.form {F:Frz}{c:List Value}{x:GRules}(h:d4 F c x):(c.drop 0).take 3=[cD c 0,cD c 1,cD c 2]:=by
 obtain ⟨v0,v1,v2,h0,h1,h2,h3⟩:=h;subst h0;rfl
structure GProblem where
 Domains:List GDomain
 Rules:GRules
deriving DecidableEq,Inhabited
def dH (F:Frz)(c:List Value)(x:GProblem):Prop:=∃(v0:Value) (cs0:List (List Value)) (v1:Value) (v2:Value) (v3:Value),c=[v0,v1,v2,v3]∧SlD cG F v0 2 cs0 x.Domains∧SlC F v1 5 (x.Rules.Pairs.map dq)∧SlC F v2 5 (x.Rules.Loads.map dy)∧SlC F v3 4 (x.Rules.Caps.map dM)
theorem GProblem.mono {F G:Frz}{c:List Value}{x:GProblem}(hle:F.Le G)(h:dH F c x):dH G c x:=by
 obtain ⟨v0,cs0,v1,v2,v3,h0,h1,h2,h3,h4⟩:=h;exact ⟨v0,cs0,v1,v2,v3,h0,SlD.mono (rep:=cG) (fun _ _ _ _=>GDomain.mono) h1 hle,h2.mono hle,h3.mono hle,h4.mono hle⟩
theorem GProblem.len {F:Frz}{c:List Value}{x:GProblem}(h:dH F c x):c.length=4:=by
 obtain ⟨v0,cs0,v1,v2,v3,h0,h1,h2,h3,h4⟩:=h;subst h0;rfl
theorem GProblem.one {F:Frz}{c:List Value}{x:GProblem}(h:dH F c x):OneCs c:=by
 obtain ⟨v0,cs0,v1,v2,v3,h0,h1,h2,h3,h4⟩:=h;subst h0;haveI:=h1.1.oneC;haveI:=h2.oneC;haveI:=h3.oneC;haveI:=h4.oneC
 infer_instance
theorem GProblem.c0 {F:Frz}{c:List Value}{x:GProblem}(h:dH F c x):c[0]?=some (cD c 0)∧∃cs,SlD cG F (cD c 0) 2 cs x.Domains:=by
 obtain ⟨v0,cs0,v1,v2,v3,h0,h1,h2,h3,h4⟩:=h;subst h0;exact ⟨rfl,cs0,h1⟩
theorem GProblem.c1 {F:Frz}{c:List Value}{x:GProblem}(h:dH F c x):c[1]?=some (cD c 1)∧SlC F (cD c 1) 5 (x.Rules.Pairs.map dq):=by
 obtain ⟨v0,cs0,v1,v2,v3,h0,h1,h2,h3,h4⟩:=h;subst h0;exact ⟨rfl,h2⟩
theorem GProblem.c2 {F:Frz}{c:List Value}{x:GProblem}(h:dH F c x):c[2]?=some (cD c 2)∧SlC F (cD c 2) 5 (x.Rules.Loads.map dy):=by
 obtain ⟨v0,cs0,v1,v2,v3,h0,h1,h2,h3,h4⟩:=h;subst h0;exact ⟨rfl,h3⟩
theorem GProblem.c3 {F:Frz}{c:List Value}{x:GProblem}(h:dH F c x):c[3]?=some (cD c 3)∧SlC F (cD c 3) 4 (x.Rules.Caps.map dM):=by
 obtain ⟨v0,cs0,v1,v2,v3,h0,h1,h2,h3,h4⟩:=h;subst h0;exact ⟨rfl,h4⟩
theorem GProblem.form {F:Frz}{c:List Value}{x:GProblem}(h:dH F c x):(c.drop 0).take 4=[cD c 0,cD c 1,cD c 2,cD c 3]:=by
 obtain ⟨v0,cs0,v1,v2,v3,h0,h1,h2,h3,h4⟩:=h;subst h0;rfl
def jw (n:Int):Bool:=
 ((decide (0≤n))&&(decide (n≤511)))
theorem zbd (F0:Frz)(w:World)(hF0:F0.At w)(n:Int):Calls Tryz.prog 31 #[.int .i64 n] w fun e w'=>e= .returned (.bool (jw n))∧Below w.heap.size w w':=by
 obtain ⟨r,hk⟩:∃r,jw n=r:=⟨_,rfl⟩;rw [hk];unfold jw at hk;obtain ⟨S0,F1,rfl,hS0,hp0⟩:=fM hF0;refine dt Tryz.func31 rfl rfl rfl hp0 ?_;refine eN ?_;refine db (ι:=Unit) (fun z=>[(2, .bool ((decide (0≤n))&&(decide (n≤511))))]) (fun z=>[.fr F1]) (fun z=>True) ?_ ?_
 ·refine fo ?_;refine eu ?_;refine dD rfl rfl rfl (fun h1=>?_) (fun h1=>?_)
  ·have p1:=of_decide_eq_true h1;refine lN ?_;exact q4i
  ·have p1:=of_decide_eq_false h1;refine lN ?_;exact q4f
 ·rintro _ _;refine T.ret ?_;subst hk;exact eO
def zaM (l:List GChoice):Bool:=
 dV (fun (_:Unit)=>
  true)
 (fun k1=>
  dj (fun (i_3:Nat) (next2:Unit→Bool) (_:Unit)=>
   (bif ((((!(jw ((cD l i_3).Station)))||(decide ((cD l i_3).Channel<2)))||(decide (51<(cD l i_3).Channel)))||((decide (0<(i_3:Int)))&&(decide ((cD l i_3).Station≤(cD l (((i_3:Int) - 1).toNat)).Station)))) then
    false
    else
    next2 ()))
  (fun (_:Unit)=>
   k1 ()) (l.length - 0) 0 ())
theorem zeA (F0:Frz)(w:World)(hF0:F0.At w)(l:List GChoice)(vl:Value)(hl:SlC F0 vl 2 (l.map cC)):Calls Tryz.prog 12 #[vl] w fun e w'=>e= .returned (.bool (zaM l))∧Below w.heap.size w w':=by
 obtain ⟨r,hk⟩:∃r,zaM l=r:=⟨_,rfl⟩;rw [hk];unfold zaM at hk;haveI:=hl.oneC;obtain ⟨S0,F1,rfl,hS0,hp0⟩:=fM hF0;refine dt Tryz.func12 rfl rfl rfl hp0 ?_;refine gU ?_;refine gW ?_;refine dF ?_;have hq:=fi hk;clear hk;obtain ⟨k1,hk1,hk⟩:=hq; (try dsimp only at hk);refine db (ι:=Unit) (fun z=>[]) (fun z=>[.fr F1]) (fun z=>k1 ()=r) ?_ ?_
 ·have hq:=gu hk;clear hk;obtain ⟨f2,kk2,hf2,hkk2,hk⟩:=hq;refine fN ?_;refine T.loop (ι:=Nat) (fun z=>[(0,vl),(3, .int .i64 (z:Int))]) (fun z=>[.fr F1]) (fun z=>dj f2 kk2 (l.length - z) z ()=r) (fun z=>l.length - z) 0 ?_ ?_ ?_ ?_
  ·exact hk
  ·exact q3W
  ·exact fK
  ·rintro i_3 hk;refine gj ?_;refine dS ?_;refine q3f ?_;have hm6:l.length≤9223372036854775807:=(List.length_map _)▸hl.max;refine dF ?_;refine T.cond rfl (fun h4=>?_) (fun h4=>?_)
   ·have p4:=of_decide_eq_true h4;rw [gA a6] at hk;generalize hn2:dj f2 kk2 (l.length - (i_3+1)) (i_3+1)=next2 at hk;rw [←hf2] at hk; (try dsimp only at hk);refine kZ ?_;refine db (ι:=Unit) (fun z=>[(0,vl),(3, .int .i64 (i_3:Int)),(50, .bool ((((!(jw ((cD l i_3).Station)))||(decide ((cD l i_3).Channel<2)))||(decide (51<(cD l i_3).Channel)))||((decide (0<(i_3:Int)))&&(decide ((cD l i_3).Station≤(cD l (((i_3:Int) - 1).toNat)).Station)))))]) (fun z=>[.fr F1]) (fun z=>True) ?_ ?_
    ·refine dx (sN 0 5 (.eff 5 (sN 6 34 (.still 40 .done)))) _ a8 (List.Sublist.refl _) ?_;refine q1j ?_;refine cJ rfl (dZ 0 (i:=i_3) (j:=0) rfl rfl rfl hl a6) ?_;refine dn ?_;refine cP rfl (Wt.none) rfl rfl (cI rfl rfl rfl (fun w hw=>zbd _ w (hw.fr (i:=0) rfl) ((cD l i_3).Station))) ?_;refine gT ?_;refine fj ?_;refine dl rfl rfl rfl rfl (fun h5=>?_) (fun h5=>?_)
     ·refine TS.run 33 rfl ?_;refine fk ?_;exact cL () trivial (.c (.c (.b (gn (gn (gn h5))).symm .nil))) (List.Sublist.refl _)
     ·refine q1j ?_;refine cJ rfl (dZ 0 (i:=i_3) (j:=1) rfl rfl rfl hl a6) ?_;refine fC ?_;refine dl rfl rfl rfl rfl (fun h6=>?_) (fun h6=>?_)
      ·have p6:=of_decide_eq_true h6;refine TS.run 25 rfl ?_;refine fk ?_;exact cL () trivial (.c (.c (.b (gn (gn (io h5 h6))).symm .nil))) (List.Sublist.refl _)
      ·have p6:=of_decide_eq_false h6;refine q1j ?_;refine cJ rfl (dZ 0 (i:=i_3) (j:=1) rfl rfl rfl hl a6) ?_;refine fC ?_;refine dl rfl rfl rfl rfl (fun h7=>?_) (fun h7=>?_)
       ·have p7:=of_decide_eq_true h7;refine TS.run 17 rfl ?_;refine fk ?_;exact cL () trivial (.c (.c (.b (gn (io (io h5 h6) h7)).symm .nil))) (List.Sublist.refl _)
       ·have p7:=of_decide_eq_false h7;refine fC ?_;refine dl rfl rfl rfl rfl (fun h8=>?_) (fun h8=>?_)
        ·have p8:=of_decide_eq_true h8;refine q2I ?_;refine cJ rfl (dZ 0 (i:=((i_3:Int) - 1).toNat) (j:=0) rfl rfl rfl hl a6) ?_;refine q1j ?_;refine cJ rfl (dZ 0 (i:=i_3) (j:=0) rfl rfl rfl hl a6) ?_;refine fC ?_;refine fk ?_;exact cL () trivial (.c (.c (.b (Eq.trans (ll h8) (gw (io (io h5 h6) h7))) .nil))) (List.Sublist.refl _)
        ·have p8:=of_decide_eq_false h8;refine TS.run 14 rfl ?_;refine fk ?_;exact cL () trivial (.c (.c (.b (io (io (io h5 h6) h7) (iH h8)).symm .nil))) (List.Sublist.refl _)
    ·rintro _ _;refine T.cond rfl (fun h9=>?_) (fun h9=>?_)
     ·replace hk:=dB hk h9;refine iC ?_;subst hk;exact eO
     ·have p9:=h9; (try simp only [cN] at p9);replace hk:=dA hk h9;refine iJ ?_;rw [←hn2] at hk;exact K.next (i_3+1) hk a6 (.c (.c .nil)) (List.Sublist.refl _)
   ·have p4:=of_decide_eq_false h4;rw [gv a6,←hkk2] at hk; (try dsimp only at hk);refine ft ?_;exact lc
 ·rintro _ hk;rw [←hk1] at hk; (try dsimp only at hk);refine kg ?_;subst hk;exact eO
def zbg (a:List GChoice)(b:List GChoice):Bool:=
 (bif decide (¬(a.length:Int)=(b.length:Int)) then
  false
  else
  dV (fun (_:Unit)=>
   true)
  (fun k2=>
   dj (fun (i_4:Nat) (next3:Unit→Bool) (_:Unit)=>
    (bif !(decide ((cD a i_4).Station=(cD b i_4).Station)&&decide ((cD a i_4).Channel=(cD b i_4).Channel)) then
     false
     else
     next3 ()))
   (fun (_:Unit)=>
    k2 ()) (a.length - 0) 0 ()))
theorem zde (F0:Frz)(w:World)(hF0:F0.At w)(a:List GChoice)(va:Value)(ha:SlC F0 va 2 (a.map cC))(b:List GChoice)(vb:Value)(hb:SlC F0 vb 2 (b.map cC)):Calls Tryz.prog 16 #[va,vb] w fun e w'=>e= .returned (.bool (zbg a b))∧Below w.heap.size w w':=by
 obtain ⟨r,hk⟩:∃r,zbg a b=r:=⟨_,rfl⟩;rw [hk];unfold zbg at hk;haveI:=ha.oneC;haveI:=hb.oneC;obtain ⟨S0,F1,rfl,hS0,hp0⟩:=fM hF0;refine dt Tryz.func16 rfl rfl rfl hp0 ?_;refine iL ?_;refine cF (dc rfl rfl ha (List.length_map _)) ?_;have hm7:a.length≤9223372036854775807:=(List.length_map _)▸ha.max;refine c6 ?_;refine cF (dc rfl rfl hb (List.length_map _)) ?_;have hm9:b.length≤9223372036854775807:=(List.length_map _)▸hb.max;refine dF ?_;refine T.cond rfl (fun h1=>?_) (fun h1=>?_)
 ·have p1:=of_decide_eq_true h1;replace hk:=dB hk h1;refine il ?_;subst hk;exact eO
 ·have p1:=of_decide_eq_false h1;replace hk:=dA hk h1;refine jC ?_;refine dF ?_;have hq:=fi hk;clear hk;obtain ⟨k2,hk2,hk⟩:=hq; (try dsimp only at hk);refine db (ι:=Unit) (fun z=>[]) (fun z=>[.fr F1]) (fun z=>k2 ()=r) ?_ ?_
  ·have hq:=gu hk;clear hk;obtain ⟨f3,kk3,hf3,hkk3,hk⟩:=hq;refine fN ?_;refine T.loop (ι:=Nat) (fun z=>[(0,va),(1,vb),(5, .int .i64 (z:Int))]) (fun z=>[.fr F1]) (fun z=>dj f3 kk3 (a.length - z) z ()=r) (fun z=>a.length - z) 0 ?_ ?_ ?_ ?_
   ·exact hk
   ·exact q3Y
   ·exact fK
   ·rintro i_4 hk;refine gj ?_;refine dS ?_;refine cF (dc rfl rfl ha (List.length_map _)) ?_;refine dF ?_;refine T.cond rfl (fun h5=>?_) (fun h5=>?_)
    ·have p5:=of_decide_eq_true h5;rw [gA a6] at hk;generalize hn3:dj f3 kk3 (a.length - (i_4+1)) (i_4+1)=next3 at hk;rw [←hf3] at hk; (try dsimp only at hk);refine kZ ?_;refine q13 ?_;refine fj ?_;refine cJ rfl (de (i:=i_4) rfl rfl rfl ha (List.length_map _) rfl a6) ?_;refine cJ rfl (eE 0 (i:=i_4) rfl rfl rfl ha a6) ?_;refine fj ?_;refine cJ rfl (de (i:=i_4) rfl rfl rfl hb (List.length_map _) rfl a6) ?_;refine cJ rfl (eE 0 (i:=i_4) rfl rfl rfl hb a6) ?_;refine cJ rfl (Yv.cw a8 rfl rfl rfl) ?_;refine fk ?_;refine K.seq ?_;refine T.cond rfl (fun h6=>?_) (fun h6=>?_)
     ·replace hk:=dB hk h6;refine iC ?_;subst hk;exact eO
     ·have p6:=h6; (try simp only [cN] at p6);replace hk:=dA hk h6;refine iJ ?_;rw [←hn3] at hk;exact K.next (i_4+1) hk a6 (.c (.c (.c .nil))) (List.Sublist.refl _)
    ·have p5:=of_decide_eq_false h5;rw [gv a6,←hkk3] at hk; (try dsimp only at hk);refine ft ?_;exact lc
  ·rintro _ hk;rw [←hk2] at hk; (try dsimp only at hk);refine kg ?_;subst hk;exact eO
def ik (p:GProblem)(n:Int):Int:=
 dV (fun (_:Unit)=>
  (-1))
 (fun k1=>
  dj (fun (i_3:Nat) (next2:Unit→Int) (_:Unit)=>
   (bif decide ((cD p.Domains i_3).Station=n) then
    (i_3:Int)
    else
    next2 ()))
  (fun (_:Unit)=>
   k1 ()) (p.Domains.length - 0) 0 ())
theorem zch (F0:Frz)(w:World)(hF0:F0.At w)(p:GProblem)(vp_0:Value)(cp_0:List (List Value))(hp_0:SlD cG F0 vp_0 2 cp_0 p.Domains)(vp_1:Value)(hp_1:SlC F0 vp_1 5 (p.Rules.Pairs.map dq))(vp_2:Value)(hp_2:SlC F0 vp_2 5 (p.Rules.Loads.map dy))(vp_3:Value)(hp_3:SlC F0 vp_3 4 (p.Rules.Caps.map dM))(n:Int):Calls Tryz.prog 32 #[.agg [vp_0,vp_1,vp_2,vp_3].toArray, .int .i64 n] w fun e w'=>e= .returned (.int .i64 (ik p n))∧Below w.heap.size w w':=by
 obtain ⟨r,hk⟩:∃r,ik p n=r:=⟨_,rfl⟩;rw [hk];unfold ik at hk;haveI:=hp_0.1.oneC;haveI:=hp_1.oneC;haveI:=hp_2.oneC;haveI:=hp_3.oneC;obtain ⟨S0,F1,rfl,hS0,hp0⟩:=fM hF0;refine dt Tryz.func32 rfl rfl rfl hp0 ?_;refine kv ?_;rintro _ _ ⟨g2,rfl,rfl⟩;refine jx ?_;refine dF ?_;have hq:=fi hk;clear hk;obtain ⟨k1,hk1,hk⟩:=hq; (try dsimp only at hk);refine db (ι:=Unit) (fun z=>[]) (fun z=>[.fr F1]) (fun z=>k1 ()=r) ?_ ?_
 ·have hq:=gu hk;clear hk;obtain ⟨f2,kk2,hf2,hkk2,hk⟩:=hq;refine fN ?_;refine T.loop (ι:=Nat) (fun z=>[(1, .int .i64 n),(2, .pointer (some ⟨g2,0,none⟩)),(5, .int .i64 (z:Int))]) (fun z=>[.row g2 31 [vp_0,vp_1,vp_2,vp_3], .fr F1]) (fun z=>dj f2 kk2 (p.Domains.length - z) z ()=r) (fun z=>p.Domains.length - z) 0 ?_ ?_ ?_ ?_
  ·exact hk
  ·exact q3Y
  ·exact fK
  ·rintro i_3 hk;refine gj ?_;refine kb ?_;refine q29 ?_;have hm9:p.Domains.length≤9223372036854775807:=hp_0.2.1▸hp_0.1.max;refine dF ?_;refine T.cond rfl (fun h4=>?_) (fun h4=>?_)
   ·have p4:=of_decide_eq_true h4;rw [gA a6] at hk;generalize hn2:dj f2 kk2 (p.Domains.length - (i_3+1)) (i_3+1)=next2 at hk;rw [←hf2] at hk; (try dsimp only at hk);refine fq ?_;refine d5 ?_;refine c6 ?_;refine cF (de (i:=i_3) rfl rfl rfl hp_0.1 hp_0.2.1 rfl a6) ?_;refine cF (eX rfl rfl hp_0.1 hp_0.2.1 a6) ?_;refine cF (dQ 1 (i:=i_3) (j:=0) rfl rfl rfl hp_0.1 hp_0.2.1 a6 rfl (GDomain.c0 (hp_0.2.2 i_3 a6))) ?_;refine ic ?_;refine T.cond rfl (fun h5=>?_) (fun h5=>?_)
    ·have p5:=of_decide_eq_true h5;replace hk:=dB hk h5;refine hJ ?_;refine q0B ?_;subst hk;exact eO
    ·have p5:=of_decide_eq_false h5;replace hk:=dA hk h5;refine iJ ?_;rw [←hn2] at hk;exact q4g
   ·have p4:=of_decide_eq_false h4;rw [gv a6,←hkk2] at hk; (try dsimp only at hk);refine ft ?_;refine q2D ?_;exact lc
 ·rintro _ hk;rw [←hk1] at hk; (try dsimp only at hk);refine kg ?_;subst hk;exact eO
def lT (l:List GChoice)(n:Int):Int:=
 dV (fun (_:Unit)=>
  0)
 (fun k1=>
  dj (fun (i_3:Nat) (next2:Unit→Int) (_:Unit)=>
   (bif decide ((cD l i_3).Station=n) then
    ((cD l i_3).Channel)
    else
    next2 ()))
  (fun (_:Unit)=>
   k1 ()) (l.length - 0) 0 ())
theorem ziS (F0:Frz)(w:World)(hF0:F0.At w)(l:List GChoice)(vl:Value)(hl:SlC F0 vl 2 (l.map cC))(n:Int):Calls Tryz.prog 33 #[vl, .int .i64 n] w fun e w'=>e= .returned (.int .i64 (lT l n))∧Below w.heap.size w w':=by
 obtain ⟨r,hk⟩:∃r,lT l n=r:=⟨_,rfl⟩;rw [hk];unfold lT at hk;haveI:=hl.oneC;obtain ⟨S0,F1,rfl,hS0,hp0⟩:=fM hF0;refine dt Tryz.func33 rfl rfl rfl hp0 ?_;refine gU ?_;refine gW ?_;refine dF ?_;have hq:=fi hk;clear hk;obtain ⟨k1,hk1,hk⟩:=hq; (try dsimp only at hk);refine db (ι:=Unit) (fun z=>[]) (fun z=>[.fr F1]) (fun z=>k1 ()=r) ?_ ?_
 ·have hq:=gu hk;clear hk;obtain ⟨f2,kk2,hf2,hkk2,hk⟩:=hq;refine fN ?_;refine T.loop (ι:=Nat) (fun z=>[(0,vl),(1, .int .i64 n),(5, .int .i64 (z:Int))]) (fun z=>[.fr F1]) (fun z=>dj f2 kk2 (l.length - z) z ()=r) (fun z=>l.length - z) 0 ?_ ?_ ?_ ?_
  ·exact hk
  ·exact q3Y
  ·exact fK
  ·rintro i_3 hk;refine gj ?_;refine dS ?_;refine q3f ?_;have hm8:l.length≤9223372036854775807:=(List.length_map _)▸hl.max;refine dF ?_;refine T.cond rfl (fun h4=>?_) (fun h4=>?_)
   ·have p4:=of_decide_eq_true h4;rw [gA a6] at hk;generalize hn2:dj f2 kk2 (l.length - (i_3+1)) (i_3+1)=next2 at hk;rw [←hf2] at hk; (try dsimp only at hk);refine fq ?_;refine dS ?_;refine q2E ?_;refine cF (eX rfl rfl hl (List.length_map _) a6) ?_;refine cF (dZ 0 (i:=i_3) (j:=0) rfl rfl rfl hl a6) ?_;refine ic ?_;refine T.cond rfl (fun h5=>?_) (fun h5=>?_)
    ·have p5:=of_decide_eq_true h5;replace hk:=dB hk h5;refine hJ ?_;refine q2E ?_;refine cF (eX rfl rfl hl (List.length_map _) a6) ?_;refine cF (dZ 0 (i:=i_3) (j:=1) rfl rfl rfl hl a6) ?_;refine c6 ?_;refine q0B ?_;subst hk;exact eO
    ·have p5:=of_decide_eq_false h5;replace hk:=dA hk h5;refine iJ ?_;rw [←hn2] at hk;exact q4g
   ·have p4:=of_decide_eq_false h4;rw [gv a6,←hkk2] at hk; (try dsimp only at hk);refine ft ?_;exact lc
 ·rintro _ hk;rw [←hk1] at hk; (try dsimp only at hk);refine kg ?_;subst hk;exact eO
def zbF (l:List Int)(n:Int):Bool:=
 dV (fun (_:Unit)=>
  false)
 (fun k1=>
  dj (fun (i_3:Nat) (next2:Unit→Bool) (_:Unit)=>
   (bif decide ((cD l i_3)=n) then
    true
    else
    next2 ()))
  (fun (_:Unit)=>
   k1 ()) (l.length - 0) 0 ())
theorem zhT (F0:Frz)(w:World)(hF0:F0.At w)(l:List Int)(vl:Value)(hl:SlC F0 vl 1 (l.map eI))(n:Int):Calls Tryz.prog 34 #[vl, .int .i64 n] w fun e w'=>e= .returned (.bool (zbF l n))∧Below w.heap.size w w':=by
 obtain ⟨r,hk⟩:∃r,zbF l n=r:=⟨_,rfl⟩;rw [hk];unfold zbF at hk;haveI:=hl.oneC;obtain ⟨S0,F1,rfl,hS0,hp0⟩:=fM hF0;refine dt Tryz.func34 rfl rfl rfl hp0 ?_;refine gU ?_;refine gW ?_;refine dF ?_;have hq:=fi hk;clear hk;obtain ⟨k1,hk1,hk⟩:=hq; (try dsimp only at hk);refine db (ι:=Unit) (fun z=>[]) (fun z=>[.fr F1]) (fun z=>k1 ()=r) ?_ ?_
 ·have hq:=gu hk;clear hk;obtain ⟨f2,kk2,hf2,hkk2,hk⟩:=hq;refine fN ?_;refine T.loop (ι:=Nat) (fun z=>[(0,vl),(1, .int .i64 n),(5, .int .i64 (z:Int))]) (fun z=>[.fr F1]) (fun z=>dj f2 kk2 (l.length - z) z ()=r) (fun z=>l.length - z) 0 ?_ ?_ ?_ ?_
  ·exact hk
  ·exact q3Y
  ·exact fK
  ·rintro i_3 hk;refine gj ?_;refine dS ?_;refine q3f ?_;have hm8:l.length≤9223372036854775807:=(List.length_map _)▸hl.max;refine dF ?_;refine T.cond rfl (fun h4=>?_) (fun h4=>?_)
   ·have p4:=of_decide_eq_true h4;rw [gA a6] at hk;generalize hn2:dj f2 kk2 (l.length - (i_3+1)) (i_3+1)=next2 at hk;rw [←hf2] at hk; (try dsimp only at hk);refine fq ?_;refine dS ?_;refine q2E ?_;refine cF (dZ 0 (i:=i_3) (j:=0) rfl rfl rfl hl a6) ?_;refine ic ?_;refine T.cond rfl (fun h5=>?_) (fun h5=>?_)
    ·have p5:=of_decide_eq_true h5;replace hk:=dB hk h5;refine iC ?_;subst hk;exact eO
    ·have p5:=of_decide_eq_false h5;replace hk:=dA hk h5;refine iJ ?_;rw [←hn2] at hk;exact q4g
   ·have p4:=of_decide_eq_false h4;rw [gv a6,←hkk2] at hk; (try dsimp only at hk);refine ft ?_;exact lc
 ·rintro _ hk;rw [←hk1] at hk; (try dsimp only at hk);refine kg ?_;subst hk;exact eO
def lI (low:Int)(high:Int):Bool:=
 (((decide (2≤low))&&(decide (low≤high)))&&(decide (high≤51)))
theorem zdx (F0:Frz)(w:World)(hF0:F0.At w)(low:Int)(high:Int):Calls Tryz.prog 62 #[.int .i64 low, .int .i64 high] w fun e w'=>e= .returned (.bool (lI low high))∧Below w.heap.size w w':=by
 obtain ⟨r,hk⟩:∃r,lI low high=r:=⟨_,rfl⟩;rw [hk];unfold lI at hk;obtain ⟨S0,F1,rfl,hS0,hp0⟩:=fM hF0;refine dt Tryz.func62 rfl rfl rfl hp0 ?_;refine eN ?_;refine db (ι:=Unit) (fun z=>[(4, .bool (((decide (2≤low))&&(decide (low≤high)))&&(decide (high≤51))))]) (fun z=>[.fr F1]) (fun z=>True) ?_ ?_
 ·refine fo ?_;refine eu ?_;refine dD rfl rfl rfl (fun h1=>?_) (fun h1=>?_)
  ·have p1:=of_decide_eq_true h1;refine ke ?_;refine dD rfl rfl rfl (fun h2=>?_) (fun h2=>?_)
   ·have p2:=of_decide_eq_true h2;refine lN ?_;exact cL () trivial (.b (ll (j5 h1 h2)) .nil) (List.Sublist.refl _)
   ·have p2:=of_decide_eq_false h2;refine lN ?_;exact cL () trivial (.b (iH (j5 h1 h2)).symm .nil) (List.Sublist.refl _)
  ·have p1:=of_decide_eq_false h1;refine TL.run 9 rfl ?_;refine fg ?_;exact cL () trivial (.b (iH (iH h1)).symm .nil) (List.Sublist.refl _)
 ·rintro _ _;refine T.ret ?_;subst hk;exact eO
def za7 (a:List Int)(b:List Int):Option Bool:=
 dV (fun (_:Unit)=>
  some false)
 (fun k1=>
  dj (fun (i_3:Nat) (next2:Unit→Option Bool) (_:Unit)=>
   eP (0≤(i_3:Int)∧(i_3:Int)<(b.length:Int)) <|
   (bif decide (¬(cD a i_3)=(cD b i_3)) then
    some (decide ((cD a i_3)<(cD b i_3)))
    else
    next2 ()))
  (fun (_:Unit)=>
   k1 ()) (a.length - 0) 0 ())
theorem zdn (F0:Frz)(w:World)(hF0:F0.At w)(a:List Int)(va:Value)(ha:SlC F0 va 1 (a.map eI))(b:List Int)(vb:Value)(hb:SlC F0 vb 1 (b.map eI))(r:Bool)(hr:za7 a b=some r):Calls Tryz.prog 63 #[va,vb] w fun e w'=>e= .returned (.bool r)∧Below w.heap.size w w':=by
 have hk:=hr;unfold za7 at hk;haveI:=ha.oneC;haveI:=hb.oneC;obtain ⟨S0,F1,rfl,hS0,hp0⟩:=fM hF0;refine dt Tryz.func63 rfl rfl rfl hp0 ?_;refine gU ?_;refine gW ?_;refine dF ?_;have hq:=fi hk;clear hk;obtain ⟨k1,hk1,hk⟩:=hq; (try dsimp only at hk);refine db (ι:=Unit) (fun z=>[]) (fun z=>[.fr F1]) (fun z=>k1 ()=some r) ?_ ?_
 ·have hq:=gu hk;clear hk;obtain ⟨f2,kk2,hf2,hkk2,hk⟩:=hq;refine fN ?_;refine T.loop (ι:=Nat) (fun z=>[(0,va),(1,vb),(5, .int .i64 (z:Int))]) (fun z=>[.fr F1]) (fun z=>dj f2 kk2 (a.length - z) z ()=some r) (fun z=>a.length - z) 0 ?_ ?_ ?_ ?_
  ·exact hk
  ·exact q3Y
  ·exact fK
  ·rintro i_3 hk;refine gj ?_;refine dS ?_;refine cF (dc rfl rfl ha (List.length_map _)) ?_;have hm8:a.length≤9223372036854775807:=(List.length_map _)▸ha.max;refine dF ?_;refine T.cond rfl (fun h4=>?_) (fun h4=>?_)
   ·have p4:=of_decide_eq_true h4;rw [gA a6] at hk;generalize hn2:dj f2 kk2 (a.length - (i_3+1)) (i_3+1)=next2 at hk;rw [←hf2] at hk; (try dsimp only at hk);refine kZ ?_;have hq:(0≤(i_3:Int)∧(i_3:Int)<(b.length:Int))∧_:=fZ hk;clear hk;obtain ⟨g18,hk⟩:=hq; (try dsimp only at hk);refine q13 ?_;refine q1S ?_;refine j4 ?_;refine T.cond rfl (fun h5=>?_) (fun h5=>?_)
    ·have p5:=of_decide_eq_true h5;replace hk:=dB hk h5;refine T.seq ?_;refine q3h ?_;refine q1S ?_;refine fj ?_;refine fk ?_;refine K.seq (T.ret (ey (dN (dN (ey (dN ?_))))));obtain rfl:=Option.some.inj hk;exact eO
    ·have p5:=of_decide_eq_false h5;replace hk:=dA hk h5;refine iJ ?_;rw [←hn2] at hk;exact q4g
   ·have p4:=of_decide_eq_false h4;rw [gv a6,←hkk2] at hk; (try dsimp only at hk);refine ft ?_;exact lc
 ·rintro _ hk;rw [←hk1] at hk; (try dsimp only at hk);refine kg ?_;obtain rfl:=Option.some.inj hk;exact eO
def kn (x_:GPair):List Int:=
 [x_.A,x_.B,x_.Offset,x_.Low,x_.High]
theorem zdK (F0:Frz)(w:World)(hF0:F0.At w)(x_:GPair):Calls Tryz.prog 64 #[.agg [.int .i64 x_.A, .int .i64 x_.B, .int .i64 x_.Offset, .int .i64 x_.Low, .int .i64 x_.High].toArray] w fun e w'=>∃(y:Value) (G:Frz),(SlC G y 1 ((kn x_).map eI))∧e= .returned (y)∧Fx F0 w G w':=by
 obtain ⟨r,hk⟩:∃r,kn x_=r:=⟨_,rfl⟩;rw [hk];unfold kn at hk;obtain ⟨S0,F1,rfl,hS0,hp0⟩:=fM hF0;refine dt Tryz.func64 rfl rfl rfl hp0 ?_;refine kv ?_;rintro _ _ ⟨g1,rfl,rfl⟩;refine gh ?_;refine q2F ?_;refine d5 ?_;refine d5 ?_;refine q02 ?_;rintro _ _ ⟨g13,rfl,rfl⟩;refine eT ?_;refine q2V ?_;rintro F2 ⟨le1_2,hz2⟩;refine gY ?_;have hf2:SlC F2.toFrz (.slice (some ⟨g13,0,none⟩) 5 5) 1 ([x_.A,x_.B,x_.Offset,x_.Low,x_.High].map eI):=(SlK.lit hz2 rfl (Nat.le_refl _) a7).toF (xs:=[x_.A,x_.B,x_.Offset,x_.Low,x_.High]) rfl (fun _=>rfl);subst hk;exact q4t
def kq (x_:GLoad):List Int:=
 [x_.To,x_.From,x_.Weight,x_.Low,x_.High]
theorem zdM (F0:Frz)(w:World)(hF0:F0.At w)(x_:GLoad):Calls Tryz.prog 65 #[.agg [.int .i64 x_.To, .int .i64 x_.From, .int .i64 x_.Weight, .int .i64 x_.Low, .int .i64 x_.High].toArray] w fun e w'=>∃(y:Value) (G:Frz),(SlC G y 1 ((kq x_).map eI))∧e= .returned (y)∧Fx F0 w G w':=by
 obtain ⟨r,hk⟩:∃r,kq x_=r:=⟨_,rfl⟩;rw [hk];unfold kq at hk;obtain ⟨S0,F1,rfl,hS0,hp0⟩:=fM hF0;refine dt Tryz.func65 rfl rfl rfl hp0 ?_;refine kv ?_;rintro _ _ ⟨g1,rfl,rfl⟩;refine gh ?_;refine q2F ?_;refine d5 ?_;refine d5 ?_;refine q02 ?_;rintro _ _ ⟨g13,rfl,rfl⟩;refine eT ?_;refine q2V ?_;rintro F2 ⟨le1_2,hz2⟩;refine gY ?_;have hf2:SlC F2.toFrz (.slice (some ⟨g13,0,none⟩) 5 5) 1 ([x_.To,x_.From,x_.Weight,x_.Low,x_.High].map eI):=(SlK.lit hz2 rfl (Nat.le_refl _) a7).toF (xs:=[x_.To,x_.From,x_.Weight,x_.Low,x_.High]) rfl (fun _=>rfl);subst hk;exact q4t
def ky (x_:GCap):List Int:=
 [x_.Station,x_.Max,x_.Low,x_.High]
theorem zek (F0:Frz)(w:World)(hF0:F0.At w)(x_:GCap):Calls Tryz.prog 66 #[.agg [.int .i64 x_.Station, .int .i64 x_.Max, .int .i64 x_.Low, .int .i64 x_.High].toArray] w fun e w'=>∃(y:Value) (G:Frz),(SlC G y 1 ((ky x_).map eI))∧e= .returned (y)∧Fx F0 w G w':=by
 obtain ⟨r,hk⟩:∃r,ky x_=r:=⟨_,rfl⟩;rw [hk];unfold ky at hk;obtain ⟨S0,F1,rfl,hS0,hp0⟩:=fM hF0;refine dt Tryz.func66 rfl rfl rfl hp0 ?_;refine kv ?_;rintro _ _ ⟨g1,rfl,rfl⟩;refine gh ?_;refine q2F ?_;refine d5 ?_;refine q02 ?_;rintro _ _ ⟨g11,rfl,rfl⟩;refine eT ?_;refine q2V ?_;rintro F2 ⟨le1_2,hz2⟩;refine gY ?_;have hf2:SlC F2.toFrz (.slice (some ⟨g11,0,none⟩) 4 4) 1 ([x_.Station,x_.Max,x_.Low,x_.High].map eI):=(SlK.lit hz2 rfl (Nat.le_refl _) a7).toF (xs:=[x_.Station,x_.Max,x_.Low,x_.High]) rfl (fun _=>rfl);subst hk;exact cQ rfl rfl (fun w' hw=>⟨(.slice (some ⟨g11,0,none⟩) 4 4),F2.toFrz,hf2,rfl,iw hw (i:=1) rfl hS0 le1_2⟩)
def zcI (d:List GDomain)(s:Int)(c:Int):Option (List GDomain):=
 dV (fun (out_1:List GDomain)=>
  some out_1)
 (fun k2=>
  dj (fun (i_5:Nat) (next4:List GDomain→Option (List GDomain)) (out_3:List GDomain)=>
   eP (ep ([]++(cD d i_5).Channels).length 8) <|
   dV (fun (s9:Int×List Int)=>
    eP (ep (out_3++[(GDomain.mk s9.1 s9.2)]).length 32) <|
    next4 (out_3++[(GDomain.mk s9.1 s9.2)]))
   (fun k9=>
    (bif decide ((cD d i_5).Station=s) then
     (bif (zbF ((cD d i_5).Channels) c) then
      k9 ((cD d i_5).Station,[c])
      else
      k9 ((cD d i_5).Station,[]))
     else
     k9 ((cD d i_5).Station,([]++(cD d i_5).Channels)))))
  (fun (out_3:List GDomain)=>
   k2 out_3) (d.length - 0) 0 [])
def zbS (d:List GDomain)(s:Int)(c:Int):Option (List GDomain):=
 dV (fun (out_1:List GDomain)=>
  some out_1)
 (fun k2=>
  dj (fun (i_5:Nat) (next4:List GDomain→Option (List GDomain)) (out_3:List GDomain)=>
   dV (fun (s9:Int×List Int)=>
    eP (ep (out_3++[(GDomain.mk s9.1 s9.2)]).length 32) <|
    next4 (out_3++[(GDomain.mk s9.1 s9.2)]))
   (fun k9=>
    dj (fun (k_13:Nat) (next12:(Int×List Int)→Option (List GDomain)) (s12:Int×List Int)=>
     (bif ((decide (¬(cD d i_5).Station=s))||(decide (¬(cD ((cD d i_5).Channels) k_13)=c))) then
      eP (ep (s12.2++[(cD ((cD d i_5).Channels) k_13)]).length 8) <|
      next12 (s12.1,(s12.2++[(cD ((cD d i_5).Channels) k_13)]))
      else
      next12 (s12.1,s12.2)))
    (fun (s12:Int×List Int)=>
     k9 (s12.1,s12.2)) ((((cD d i_5).Channels).length) - 0) 0 ((cD d i_5).Station,[])))
  (fun (out_3:List GDomain)=>
   k2 out_3) (d.length - 0) 0 [])
def zbn (low:Int)(c:Int)(high:Int):Bool:=
 ((decide (low≤c))&&(decide (c≤high)))
def zbR (d:List GDomain)(station:Int)(channel:Int):Bool:=
 dV (fun (_:Unit)=>
  true)
 (fun k1=>
  dj (fun (i_3:Nat) (next2:Unit→Bool) (_:Unit)=>
   dV (fun (_:Unit)=>
    next2 ())
   (fun k5=>
    (bif decide (¬(cD d i_3).Station=station) then
     k5 ()
     else
     dj (fun (k_8:Nat) (next7:Unit→Bool) (_:Unit)=>
      (bif decide (¬(cD ((cD d i_3).Channels) k_8)=channel) then
       false
       else
       next7 ()))
     (fun (_:Unit)=>
      k5 ()) ((((cD d i_3).Channels).length) - 0) 0 ())))
  (fun (_:Unit)=>
   k1 ()) (d.length - 0) 0 ())
def zcN (p:GProblem)(d:List GDomain)(s:Int)(c:Int):Bool:=
 dV (fun (_:Unit)=>
  false)
 (fun k1=>
  dj (fun (i_3:Nat) (next2:Unit→Bool) (_:Unit)=>
   (bif (((decide ((cD p.Rules.Pairs i_3).A=s))&&(zbn ((cD p.Rules.Pairs i_3).Low) c ((cD p.Rules.Pairs i_3).High)))&&(zbR d ((cD p.Rules.Pairs i_3).B) (wI (c+((cD p.Rules.Pairs i_3).Offset))))) then
    true
    else
    (bif (((decide ((cD p.Rules.Pairs i_3).B=s))&&(zbn ((cD p.Rules.Pairs i_3).Low) (wI (c - ((cD p.Rules.Pairs i_3).Offset))) ((cD p.Rules.Pairs i_3).High)))&&(zbR d ((cD p.Rules.Pairs i_3).A) (wI (c - ((cD p.Rules.Pairs i_3).Offset))))) then
     true
     else
     next2 ())))
  (fun (_:Unit)=>
   k1 ()) (p.Rules.Pairs.length - 0) 0 ())
def zc8 (p:GProblem)(d:List GDomain)(to_:Int)(c:Int)(further:Int):Int:=
 dV (fun (n_1:Int)=>
  n_1)
 (fun k2=>
  dj (fun (i_5:Nat) (next4:Int→Int) (n_3:Int)=>
   (bif (((decide ((cD p.Rules.Loads i_5).To=to_))&&(zbn ((cD p.Rules.Loads i_5).Low) c ((cD p.Rules.Loads i_5).High)))&&((decide ((cD p.Rules.Loads i_5).From=further))||(zbR d ((cD p.Rules.Loads i_5).From) c))) then
    next4 (wI (n_3+((cD p.Rules.Loads i_5).Weight)))
    else
    next4 n_3))
  (fun (n_3:Int)=>
   k2 n_3) (p.Rules.Loads.length - 0) 0 0)
def zcG (p:GProblem)(station:Int)(c:Int)(loss:Int):Bool:=
 dV (fun (_:Unit)=>
  false)
 (fun k1=>
  dj (fun (i_3:Nat) (next2:Unit→Bool) (_:Unit)=>
   (bif (((decide ((cD p.Rules.Caps i_3).Station=station))&&(zbn ((cD p.Rules.Caps i_3).Low) c ((cD p.Rules.Caps i_3).High)))&&(decide ((cD p.Rules.Caps i_3).Max<loss))) then
    true
    else
    next2 ()))
  (fun (_:Unit)=>
   k1 ()) (p.Rules.Caps.length - 0) 0 ())
def zcO (p:GProblem)(d:List GDomain)(s:Int)(c:Int):Bool:=
 dV (fun (_:Unit)=>
  false)
 (fun k1=>
  dj (fun (i_3:Nat) (next2:Unit→Bool) (_:Unit)=>
   (bif ((((decide ((cD p.Rules.Loads i_3).From=s))&&(zbn ((cD p.Rules.Loads i_3).Low) c ((cD p.Rules.Loads i_3).High)))&&(zbR d ((cD p.Rules.Loads i_3).To) c))&&(zcG p ((cD p.Rules.Loads i_3).To) c (zc8 p d ((cD p.Rules.Loads i_3).To) c s))) then
    true
    else
    next2 ()))
  (fun (_:Unit)=>
   k1 ()) (p.Rules.Loads.length - 0) 0 ())
def zcC (p:GProblem)(d:List GDomain)(s:Int)(c:Int):Bool:=
 (((zcN p d s c)||(zcG p s c (zc8 p d s c (-1))))||(zcO p d s c))
theorem zmf {l:List Int}{n:Int}:zbF l n=l.any fun k=>decide (k=n):=by
 unfold zbF;refine q3B ?_;rw [zee (fun i=>decide (cD l i=n)) (fun i next _=>?_),zdt (q:=fun k=>decide (k=n)),Bool.or_false]
 cases decide (cD l i=n) <;> rfl
def jt (d:List GDomain)(s c:Int):Bool:=d.all fun x=>(decide (¬x.Station=s)||x.Channels.all fun k=>decide (k=c))
theorem zjm {d:List GDomain}{s c:Int}:zbR d s c=jt d s c:=by
 unfold zbR jt;refine q3B ?_;rw [zec (fun i=>(decide (¬(cD d i).Station=s)||(cD d i).Channels.all fun k=>decide (k=c))) (fun i next _=>?_),zgG (l:=d) (q:=fun x=>(decide (¬x.Station=s)||x.Channels.all fun k=>decide (k=c))),Bool.and_true];rw [zec (fun k=>decide (cD (cD d i).Channels k=c)) (fun k nx _=>?_),zgG (q:=fun k=>decide (k=c))]
 ·cases decide (¬(cD d i).Station=s) <;> rfl
 ·by_cases h:cD (cD d i).Channels k=c <;> simp [h]
theorem zeW {a b c:Int}:zbn a b c=decide (a≤b∧b≤c):=by
 unfold zbn;by_cases h1:a≤b <;> by_cases h2:b≤c <;> simp [h1,h2]
def zgr (d:List GDomain)(s c:Int)(x:GPair):Bool:=(decide (x.A=s)&&decide (x.Low≤c∧c≤x.High)&&jt d x.B (wI (c+x.Offset)))||(decide (x.B=s)&&decide (x.Low≤wI (c - x.Offset)∧wI (c - x.Offset)≤x.High)&&jt d x.A (wI (c - x.Offset)))
theorem zkR {p:GProblem}{d:List GDomain}{s c:Int}:zcN p d s c=p.Rules.Pairs.any (zgr d s c):=by
 unfold zcN;simp only [dV,Nat.sub_zero,zjm,zeW];rw [zee (fun i=>zgr d s c (cD p.Rules.Pairs i)) (fun i next _=>?_),zdt (q:=zgr d s c),Bool.or_false];unfold zgr;generalize (decide ((cD p.Rules.Pairs i).A=s)&&decide ((cD p.Rules.Pairs i).Low≤c∧c≤(cD p.Rules.Pairs i).High)&&jt d (cD p.Rules.Pairs i).B (wI (c+(cD p.Rules.Pairs i).Offset)))=a
 cases a
 ·rw [cond_false,Bool.false_or];generalize (decide ((cD p.Rules.Pairs i).B=s)&&decide ((cD p.Rules.Pairs i).Low≤wI (c - (cD p.Rules.Pairs i).Offset)∧wI (c - (cD p.Rules.Pairs i).Offset)≤(cD p.Rules.Pairs i).High)&&jt d (cD p.Rules.Pairs i).A (wI (c - (cD p.Rules.Pairs i).Offset)))=b
  cases b <;> rfl
 ·rfl
def loadC (d:List GDomain)(t c f:Int)(x:GLoad):Bool:=decide (x.To=t)&&decide (x.Low≤c∧c≤x.High)&&(decide (x.From=f)||jt d x.From c)
def gJ (p:GProblem)(d:List GDomain)(t c f:Int):Int:=p.Rules.Loads.foldl (fun n x=>bif loadC d t c f x then wI (n+x.Weight) else n) 0
theorem zmo {p:GProblem}{d:List GDomain}{t c f:Int}:zc8 p d t c f=gJ p d t c f:=by
 unfold zc8 gJ;simp only [dV,Nat.sub_zero,zjm,zeW];rw [ziY (fun i n=>bif loadC d t c f (cD p.Rules.Loads i) then wI (n+(cD p.Rules.Loads i).Weight) else n) (fun i next n _=>?_),zc6 (g:=fun n x=>bif loadC d t c f x then wI (n+x.Weight) else n)];unfold loadC;generalize (decide ((cD p.Rules.Loads i).To=t)&&decide ((cD p.Rules.Loads i).Low≤c∧c≤(cD p.Rules.Loads i).High)&&(decide ((cD p.Rules.Loads i).From=f)||jt d (cD p.Rules.Loads i).From c))=a
 cases a <;> rfl
def kV (p:GProblem)(s c l:Int):Bool:=p.Rules.Caps.any fun x=>decide (x.Station=s)&&decide (x.Low≤c∧c≤x.High)&&decide (x.Max<l)
theorem zk4 {p:GProblem}{s c l:Int}:zcG p s c l=kV p s c l:=by
 unfold zcG kV;simp only [dV,Nat.sub_zero,zeW];rw [zee (fun i=>decide ((cD p.Rules.Caps i).Station=s)&&decide ((cD p.Rules.Caps i).Low≤c∧c≤(cD p.Rules.Caps i).High)&&decide ((cD p.Rules.Caps i).Max<l)) (fun i next _=>?_),zdt (l:=p.Rules.Caps) (q:=fun x=>decide (x.Station=s)&&decide (x.Low≤c∧c≤x.High)&&decide (x.Max<l)),Bool.or_false];generalize (decide ((cD p.Rules.Caps i).Station=s)&&decide ((cD p.Rules.Caps i).Low≤c∧c≤(cD p.Rules.Caps i).High)&&decide ((cD p.Rules.Caps i).Max<l))=a
 cases a <;> rfl
def loadR (p:GProblem)(d:List GDomain)(s c:Int)(x:GLoad):Bool:=decide (x.From=s)&&decide (x.Low≤c∧c≤x.High)&&jt d x.To c&&kV p x.To c (gJ p d x.To c s)
theorem zkI {p:GProblem}{d:List GDomain}{s c:Int}:zcO p d s c=p.Rules.Loads.any (loadR p d s c):=by
 unfold zcO;simp only [dV,Nat.sub_zero,zjm,zeW,zk4,zmo];rw [zee (fun i=>loadR p d s c (cD p.Rules.Loads i)) (fun i next _=>?_),zdt (q:=loadR p d s c),Bool.or_false];unfold loadR;generalize (decide ((cD p.Rules.Loads i).From=s)&&decide ((cD p.Rules.Loads i).Low≤c∧c≤(cD p.Rules.Loads i).High)&&jt d (cD p.Rules.Loads i).To c&&kV p (cD p.Rules.Loads i).To c (gJ p d (cD p.Rules.Loads i).To c s))=a
 cases a <;> rfl
def iy (p:GProblem)(d:List GDomain)(s c:Int):Bool:=p.Rules.Pairs.any (zgr d s c)||kV p s c (gJ p d s c (-1))||p.Rules.Loads.any (loadR p d s c)
theorem zkg {p:GProblem}{d:List GDomain}{s c:Int}:zcC p d s c=iy p d s c:=by
 unfold zcC iy;rw [zkR,zk4,zmo,zkI]
def j7 (s c:Int)(x:GDomain):GDomain:=⟨x.Station,x.Channels.filter fun k=>decide (¬x.Station=s)||decide (¬k=c)⟩
theorem zk1 {d:List GDomain}{s c:Int}(hd:d.length≤100000)(hc:∀x∈d,x.Channels.length≤100000):zbS d s c=some (d.map (j7 s c)):=by
 unfold zbS;refine q3B ?_;refine (zcx (fun i out=>out.length=i) (fun i out=>out++[j7 s c (cD d i)]) rfl (fun i out _ h=>by simp [h]) (fun i next out hi hl=>?_)).1.trans ?_
 ·have hci:=hc (cD d i) (by rw [d9 hi];exact List.getElem_mem _);refine (zcx (fun k (t:Int×List Int)=>t.2.length≤k) (fun k t=>(t.1,bif (decide (¬(cD d i).Station=s)||decide (¬cD (cD d i).Channels k=c)) then t.2++[cD (cD d i).Channels k] else t.2)) (by exact Nat.le_refl 0) (fun k t _ h=>?_) (fun k nx t hk ht=>?_)).1.trans ?_
  ·(try dsimp only)
   cases (decide (¬(cD d i).Station=s)||decide (¬cD (cD d i).Channels k=c)) <;> simp <;> omega
  ·(try dsimp only)
   cases (decide (¬(cD d i).Station=s)||decide (¬cD (cD d i).Channels k=c))
   ·rfl
   ·exact jg (by simp only [ep,List.length_append,List.length_singleton];omega)
  ·rw [zjz (g:=fun t k=>bif (decide (¬(cD d i).Station=s)||decide (¬cD (cD d i).Channels k=c)) then t++[cD (cD d i).Channels k] else t),zc6 (l:=(cD d i).Channels) (g:=fun t k=>bif (decide (¬(cD d i).Station=s)||decide (¬k=c)) then t++[k] else t),zi2 (g:=fun k=>k)];rw [jg (by simp only [ep,List.length_append,List.length_singleton];omega)];simp [j7]
 ·rw [zc6 (l:=d) (g:=fun out x=>out++[j7 s c x]),zf1];rfl
def iP (s c:Int)(x:GDomain):GDomain:=⟨x.Station,bif decide (x.Station=s) then (bif x.Channels.any (fun k=>decide (k=c)) then [c] else []) else x.Channels⟩
theorem zmr {d:List GDomain}{s c:Int}(hd:d.length≤100000)(hc:∀x∈d,x.Channels.length≤100000):zcI d s c=some (d.map (iP s c)):=by
 unfold zcI;simp only [dV,Nat.sub_zero,zmf];refine (zcx (fun i out=>out.length=i) (fun i out=>out++[iP s c (cD d i)]) rfl (fun i out _ h=>by simp [h]) (fun i next out hi hl=>?_)).1.trans ?_
 ·have hci:=hc (cD d i) (by rw [d9 hi];exact List.getElem_mem _);rw [jg (by simp only [ep,List.nil_append];omega)]; (have hr:∀y:GDomain,ep (out++[y]).length 32:=fun y=>by simp only [ep,List.length_append,List.length_singleton];omega);simp only [jg (hr _),iP]
  cases decide ((cD d i).Station=s) <;> cases ((cD d i).Channels.any fun k=>decide (k=c)) <;> rfl
 ·rw [zc6 (l:=d) (g:=fun out x=>out++[iP s c x]),zf1];rfl
def zaS (fuel:Nat)(p:GProblem)(d:List GDomain):Option (List GDomain×Bool):=
 dV (fun (d_1:List GDomain)=>
  dV (fun (_:Unit)=>
   some (d_1,true))
  (fun k20=>
   dj (fun (i_22:Nat) (next21:Unit→Option (List GDomain×Bool)) (_:Unit)=>
    (bif decide ((((cD d_1 i_22).Channels).length:Int)=0) then
     some ([],false)
     else
     next21 ()))
   (fun (_:Unit)=>
    k20 ()) (d_1.length - 0) 0 ()))
 (fun k2=>
  jj (fun (next5:(List GDomain×Bool)→Option (List GDomain×Bool)) (s5:List GDomain×Bool)=>
   (bif s5.2 then
    jj (fun (next11:(List GDomain×Bool×Int)→Option (List GDomain×Bool)) (s11:List GDomain×Bool×Int)=>
     (bif decide (s11.2.2<(s11.1.length:Int)) then
      eP (0≤s11.2.2∧s11.2.2<(s11.1.length:Int)) <|
      lK (fun (k_17:Nat) (next16:(List GDomain×Bool)→Option (List GDomain×Bool)) (s16:List GDomain×Bool)=>
       eP (0≤s11.2.2∧s11.2.2<(s16.1.length:Int)) <|
       eP (0≤(k_17:Int)∧(k_17:Int)<(((cD s16.1 s11.2.2.toNat).Channels).length:Int)) <|
       (bif (zcC p s16.1 ((cD s16.1 s11.2.2.toNat).Station) (cD ((cD s16.1 s11.2.2.toNat).Channels) k_17)) then
        (zbS s16.1 ((cD s16.1 s11.2.2.toNat).Station) (cD ((cD s16.1 s11.2.2.toNat).Channels) k_17)).bind fun r51=>
        next16 (r51,true)
        else
        next16 (s16.1,s16.2)))
      (fun (s16:List GDomain×Bool)=>
       next11 (s16.1,s16.2,(s11.2.2+1))) (((cD s11.1 s11.2.2.toNat).Channels).length) (s11.1,s11.2.1)
      else
      next5 (s11.1,s11.2.1))) fuel (s5.1,false,0)
    else
    k2 s5.1)) fuel (d,true))
theorem gQ {α:Type}[Inhabited α]{xs:List α}{k:Nat}(h:k<xs.length):cD xs k∈xs:=by rw [d9 h];exact List.getElem_mem _
theorem jK {α:Type}[Inhabited α]{xs:List α}{x:α}(h:x∈xs):∃k,k<xs.length∧cD xs k=x:=by
 obtain ⟨k,hk,rfl⟩:=List.mem_iff_getElem.1 h;exact ⟨k,hk,d9 hk⟩
theorem jy {α β:Type}[Inhabited α][Inhabited β]{f:α→β}{xs:List α}{i:Nat}(h:i<xs.length):cD (xs.map f) i=f (cD xs i):=iZ h
theorem zfi {α:Type}[Inhabited α]{a b:List α}(hl:a.length=b.length)(h:∀i,i<a.length→cD a i=cD b i):a=b:=by
 apply List.ext_getElem hl;intro i h1 h2;have:=h i h1
 rwa [d9 h1,d9 h2] at this
def SubD (a b:List GDomain):Prop:=a.length=b.length∧∀i,i<b.length→(cD a i).Station=(cD b i).Station∧∀c∈(cD a i).Channels,c∈(cD b i).Channels
theorem SubD.refl (a:List GDomain):SubD a a:=⟨rfl,fun _ _=>⟨rfl,fun _ h=>h⟩⟩
theorem SubD.trans {a b c:List GDomain}(h:SubD a b)(k:SubD b c):SubD a c:=⟨h.1.trans k.1,fun i hi=>⟨((h.2 i (by rw [k.1];exact hi)).1).trans (k.2 i hi).1,fun x hx=>(k.2 i hi).2 x ((h.2 i (by rw [k.1];exact hi)).2 x hx)⟩⟩
def WtP (p:GProblem):Prop:=p.Rules.Loads.length≤1024∧∀x∈p.Rules.Loads,0≤x.Weight∧x.Weight≤1073741824
section
variable {p:GProblem}{a b d:List GDomain}
theorem zhp {s c:Int}:jt d s c=true↔∀x∈d,x.Station=s→∀k∈x.Channels,k=c:=by
 unfold jt;simp only [List.all_eq_true,Bool.or_eq_true,decide_eq_true_eq];constructor
 ·intro h x hx hs k hk;rcases h x hx with h1|h1
  ·exact absurd hs h1
  ·exact h1 k hk
 ·intro h x hx;by_cases hs:x.Station=s
  ·exact .inr (h x hx hs)
  ·exact .inl hs
theorem zdB (h:SubD a b){s c:Int}(ho:jt b s c=true):jt a s c=true:=by
 rw [zhp] at ho ⊢;intro x hx hs k hk;obtain ⟨i,hi,rfl⟩:=jK hx;have h2:=h.2 i (by rw [←h.1];exact hi);exact ho (cD b i) (gQ (by rw [←h.1];exact hi)) (by rw [←h2.1];exact hs) k (h2.2 k hk)
theorem zeP {t c f : Int} (h : SubD a b) : ∀ (l : List GLoad), (∀ x ∈ l, 0 ≤ x.Weight ∧ x.Weight ≤ 1073741824) → ∀ n n' : Int, 0 ≤ n → n ≤ n' → n' + 1073741824 * (l.length : Int) ≤ 4611686018427387904 →
    l.foldl (fun n x => bif loadC b t c f x then wI (n + x.Weight) else n) n ≤ l.foldl (fun n x => bif loadC a t c f x then wI (n + x.Weight) else n) n'
  | [], _, n, n', _, hn, _ => hn
  | x :: r, hw, n, n', h0, hn, hb => by
    have h1 := hw x b2; simp only [List.length_cons] at hb; rw [List.foldl_cons, List.foldl_cons]; have e1 : wI (n + x.Weight) = n + x.Weight := ziT a6; have e2 : wI (n' + x.Weight) = n' + x.Weight := ziT a6; rw [e1, e2]
    have hc : loadC b t c f x = true → loadC a t c f x = true := by
      unfold loadC;simp only [Bool.and_eq_true, Bool.or_eq_true]; rintro ⟨h3, h4⟩; exact ⟨h3, h4.imp id (zdB h)⟩
    refine zeP h r (fun y hy => hw y (by simp [hy])) _ _ ?_ ?_ ?_
    · cases loadC b t c f x <;> simp <;> omega
    · cases hb' : loadC b t c f x
      · cases loadC a t c f x <;> simp <;> omega
      · rw [hc hb']; simp; omega
    · cases loadC a t c f x <;> simp <;> omega
theorem zhm (hp:WtP p)(h:SubD a b){t c f:Int}:gJ p b t c f≤gJ p a t c f:=by
 unfold gJ;have:=hp.1;exact zeP h _ hp.2 0 0 a6 a6 a6
theorem zfL {s c l l':Int}(hl:l≤l')(h:kV p s c l=true):kV p s c l'=true:=by
 unfold kV at h ⊢;rw [List.any_eq_true] at h ⊢;obtain ⟨x,hx,h⟩:=h;refine ⟨x,hx,?_⟩;simp only [Bool.and_eq_true,decide_eq_true_eq] at h ⊢;exact ⟨h.1,by omega⟩
theorem zg8 (hp:WtP p)(h:SubD a b){s c:Int}(hr:iy p b s c=true):iy p a s c=true:=by
 unfold iy at hr ⊢;simp only [Bool.or_eq_true,List.any_eq_true] at hr ⊢;rcases hr with (⟨x,hx,hr⟩|hr)|⟨x,hx,hr⟩
 ·refine .inl (.inl ⟨x,hx,?_⟩);unfold zgr at hr ⊢;simp only [Bool.or_eq_true,Bool.and_eq_true] at hr ⊢;exact hr.imp (fun q=>⟨q.1,zdB h q.2⟩) (fun q=>⟨q.1,zdB h q.2⟩)
 ·exact .inl (.inr (zfL (zhm hp h) hr))
 ·refine .inr ⟨x,hx,?_⟩;unfold loadR at hr ⊢;simp only [Bool.and_eq_true] at hr ⊢;exact ⟨⟨hr.1.1,zdB h hr.1.2⟩,zfL (zhm hp h) hr.2⟩
structure ClosedD (p:GProblem) (d:List GDomain):Prop where
 ne:∀x∈d,x.Channels≠[]
 calm:∀x∈d,∀c∈x.Channels,iy p d x.Station c=false
def OrdD (a b:List GDomain):Prop:=∀i,i<b.length→(cD a i).Channels.Sublist (cD b i).Channels
def PropD (p:GProblem)(d:List GDomain)(r:List GDomain×Bool):Prop:=
 (r.2=true∧ClosedD p r.1∧(SubD r.1 d∧OrdD r.1 d)∧∀S,ClosedD p S→SubD S d→SubD S r.1)∨(r=([],false)∧∀S,ClosedD p S→¬SubD S d)
def zkL (R:List GDomain→Int→Int→Bool)(d:List GDomain):Prop:=∀x∈d,∀c∈x.Channels,R d x.Station c=false
def MonoR (R:List GDomain→Int→Int→Bool):Prop:=∀a b s c,SubD a b→R b s c=true→R a s c=true
theorem ziU {R:List GDomain→Int→Int→Bool}(hp:MonoR R){S:List GDomain}(hS:zkL R S)(h:SubD S d){s c:Int}(hr:R d s c=true):SubD S (d.map (j7 s c)):=by
 refine ⟨by rw [h.1,List.length_map],fun i hi=>?_⟩;rw [List.length_map] at hi;rw [jy hi];have h2:=h.2 i hi;refine ⟨h2.1,fun k hk=>?_⟩;unfold j7;rw [List.mem_filter];refine ⟨h2.2 k hk,?_⟩;simp only [Bool.or_eq_true,decide_eq_true_eq];by_cases hs:(cD d i).Station=s
 ·refine .inr fun hkc=>?_;subst hkc;have hm:=gQ (show i<S.length by rw [h.1];exact hi);have:=hS _ hm k hk;rw [h2.1,hs,hp _ _ _ _ h hr] at this
  cases this
 ·exact .inl hs
theorem drop_sub {s c:Int}:SubD (d.map (j7 s c)) d:=by
 refine ⟨List.length_map _,fun i hi=>?_⟩;rw [jy hi];exact ⟨rfl,fun k hk=>(List.mem_filter.1 hk).1⟩
def fE (d:List GDomain):Nat:=(d.map fun x=>x.Channels.length).sum
theorem zjh:∀(d:List GDomain) (f:GDomain→GDomain),(∀x∈d,(f x).Channels.length≤x.Channels.length)→fE (d.map f)≤fE d
 | [],_,_=>Nat.le_refl _
 |x :: r,f,h=>by
  have:=zjh r f (fun y hy=>h y (by simp [hy]));have h1:=h x b2;simp only [fE,List.map_cons,List.sum_cons] at this ⊢;omega
theorem zjx:∀(d:List GDomain) (f:GDomain→GDomain),(∀x∈d,(f x).Channels.length≤x.Channels.length)→(∃x∈d,(f x).Channels.length<x.Channels.length)→fE (d.map f)<fE d
 |x :: r,f,h,he=>by
  have h1:=h x b2;obtain ⟨y,hy,hlt⟩:=he;rcases List.mem_cons.1 hy with rfl|hy
  ·have:=zjh r f (fun z hz=>h z (by simp [hz]));simp only [fE,List.map_cons,List.sum_cons] at this ⊢;omega
  ·have:=zjx r f (fun z hz=>h z (by simp [hz])) ⟨y,hy,hlt⟩;simp only [fE,List.map_cons,List.sum_cons] at this ⊢;omega
theorem zfO {α:Type}{q:α→Bool}:∀ {l:List α} {x:α},x∈l→q x=false→(l.filter q).length<l.length
 |y :: r,x,hx,hq=>by
  rcases List.mem_cons.1 hx with rfl|hx
  ·rw [List.filter_cons,hq];have:=List.length_filter_le q r;simp;omega
  ·have:=zfO hx hq;rw [List.filter_cons];split <;> simp only [List.length_cons] <;> omega
theorem zlk {s c:Int}{i:Nat}(hi:i<d.length)(hs:(cD d i).Station=s)(hc:c∈(cD d i).Channels):fE (d.map (j7 s c))<fE d:=
 zjx d _ (fun x _=>List.length_filter_le _ _) ⟨cD d i,gQ hi,zfO hc (by simp [hs])⟩
structure Bd (d:List GDomain):Prop where
 len:d.length≤100000
 ch:∀x∈d,x.Channels.length≤100000∧x.Channels.Nodup
theorem Bd.drop (h:Bd d){s c:Int}:Bd (d.map (j7 s c)):=by
 refine ⟨by rw [List.length_map];exact h.len,fun x hx=>?_⟩;obtain ⟨y,hy,rfl⟩:=List.mem_map.1 hx;exact ⟨Nat.le_trans (List.length_filter_le _ _) (h.ch y hy).1,(h.ch y hy).2.filter _⟩
theorem ziE {s c:Int}{i k:Nat}(hb:Bd d)(hi:i<d.length)(hk:k<(cD d i).Channels.length)(hc:cD (cD d i).Channels k=c):k≤(cD (d.map (j7 s c)) i).Channels.length:=by
 rw [jy hi];unfold j7;have hn:=(hb.ch _ (gQ hi)).2;have e:(cD d i).Channels=(cD d i).Channels.take k++(cD d i).Channels.drop k:=(List.take_append_drop k _).symm
 have hf:((cD d i).Channels.take k).filter (fun q=>decide (¬(cD d i).Station=s)||decide (¬q=c))=(cD d i).Channels.take k:=by
  rw [List.filter_eq_self];intro q hq;simp only [Bool.or_eq_true,decide_eq_true_eq];refine .inr fun hqc=>?_;obtain ⟨j,hj,rfl⟩:=List.mem_iff_getElem.1 hq;simp only [List.length_take] at hj;rw [List.getElem_take] at hqc;rw [d9 hk] at hc;have:=(List.getElem_inj (h₀:=by omega) (h₁:=hk) hn).1 (hqc.trans hc.symm);omega
 show k≤((cD d i).Channels.filter _).length
 rw [e,List.filter_append,hf,List.length_append,List.length_take];omega
structure InvR (R:List GDomain→Int→Int→Bool) (d0 d:List GDomain):Prop where
 bd:Bd d
 sub:SubD d d0
 ord:OrdD d d0
 sup:∀S,zkL R S→SubD S d0→SubD S d
theorem InvR.step {R:List GDomain→Int→Int→Bool}{d0:List GDomain}(hp:MonoR R)(h:InvR R d0 d){s c:Int}(hr:R d s c=true):InvR R d0 (d.map (j7 s c)):=
 ⟨h.bd.drop,drop_sub.trans h.sub,fun i hi=>by
  rw [jy (by rw [h.sub.1];exact hi)]
  exact (List.filter_sublist).trans (h.ord i hi),fun S hS hs=>ziU hp hS (h.sup S hS hs) hr⟩
theorem zlI {R : List GDomain → Int → Int → Bool} {ρ : Type} {fuel : Nat} {d0 : List GDomain} {k2 : List GDomain → Option ρ} (post : Option ρ → Prop) (hp : MonoR R) (hb : Bd d0) (hf1 : d0.length < fuel) (hf2 : fE d0 + 1 < fuel) (hend : ∀ d, InvR R d0 d → zkL R d → post (k2 d)) :
    post (jj (fun (next5 : (List GDomain × Bool) → Option ρ) (s5 : List GDomain × Bool) =>
      (bif s5.2 then
        jj (fun (next11 : (List GDomain × Bool × Int) → Option ρ) (s11 : List GDomain × Bool × Int) =>
          (bif decide (s11.2.2 < (s11.1.length : Int)) then
            eP (0 ≤ s11.2.2 ∧ s11.2.2 < (s11.1.length : Int)) <|
            lK (fun (k_17 : Nat) (next16 : (List GDomain × Bool) → Option ρ) (s16 : List GDomain × Bool) =>
              eP (0 ≤ s11.2.2 ∧ s11.2.2 < (s16.1.length : Int)) <|
              eP (0 ≤ (k_17 : Int) ∧ (k_17 : Int) < (((cD s16.1 s11.2.2.toNat).Channels).length : Int)) <|
              (bif (R s16.1 ((cD s16.1 s11.2.2.toNat).Station) (cD ((cD s16.1 s11.2.2.toNat).Channels) k_17)) then
                (zbS s16.1 ((cD s16.1 s11.2.2.toNat).Station) (cD ((cD s16.1 s11.2.2.toNat).Channels) k_17)).bind fun r51 =>
                next16 (r51, true)
                else
                next16 (s16.1, s16.2)))
            (fun (s16 : List GDomain × Bool) =>
              next11 (s16.1, s16.2, (s11.2.2 + 1))) (((cD s11.1 s11.2.2.toNat).Channels).length) (s11.1, s11.2.1)
            else
            next5 (s11.1, s11.2.1))) fuel (s5.1, false, 0)
        else
        k2 s5.1)) fuel (d0, true)) := by
  refine zeu (σ := List GDomain × Bool) (I := fun s => InvR R d0 s.1 ∧ (s.2 = false → zkL R s.1)) (μ := fun s => fE s.1 + (bif s.2 then 1 else 0)) (post := post) ⟨⟨hb, .refl _, fun _ _ => List.Sublist.refl _, fun S _ h => h⟩, fun h => by cases h⟩ hf2 ?_; rintro ⟨d, again⟩ next ⟨hI, hA⟩ hn; dsimp only at hI hA hn ⊢
  cases again with
  | false =>
    rw [cond_false]; exact hend d hI (hA rfl)
  | true =>
    rw [cond_true]
    -- one sweep over the stations
    refine zeu (σ := List GDomain × Bool × Int) (I := fun s => InvR R d0 s.1 ∧ 0 ≤ s.2.2 ∧ s.2.2 ≤ s.1.length ∧ s.1.length = d.length ∧ (s.2.1 = false → s.1 = d ∧ ∀ j : Nat, (j : Int) < s.2.2 → ∀ c ∈ (cD d j).Channels, R d (cD d j).Station c = false) ∧ (s.2.1 = true → fE s.1 < fE d)) (μ := fun s => (s.1.length - s.2.2).toNat) (post := post) ⟨hI, by simp, by simp, rfl, fun _ => ⟨rfl, fun j hj => absurd hj b2⟩, fun h => by cases h⟩ (by simp only [Int.sub_zero, Int.toNat_natCast]; rw [hI.sub.1]; exact hf1) ?_; rintro ⟨d1, ag, i⟩ next1 ⟨hI1, h0, h1, hl, hF, hT⟩ hn1; dsimp only at hI1 h0 h1 hl hF hT hn1 ⊢; by_cases hi : i < (d1.length : Int)
    · rw [decide_eq_true hi, cond_true, jg ⟨h0, hi⟩]; (have hin : i.toNat < d1.length := by omega); refine zjw (σ := List GDomain × Bool) (I := fun m s => InvR R d0 s.1 ∧ s.1.length = d.length ∧ m ≤ (cD s.1 i.toNat).Channels.length ∧ (s.2 = false → s.1 = d ∧ (∀ j : Nat, (j : Int) < i → ∀ c ∈ (cD d j).Channels, R d (cD d j).Station c = false) ∧ ∀ k, m ≤ k → k < (cD d i.toNat).Channels.length → R d (cD d i.toNat).Station (cD (cD d i.toNat).Channels k) = false) ∧ (s.2 = true → fE s.1 < fE d)) (post := post) ?_ ?_ ?_
      · dsimp only; refine ⟨hI1, hl, Nat.le_refl _, fun h => ?_, hT⟩; obtain ⟨h2, h3⟩ := hF h; subst h2; exact ⟨rfl, h3, fun k h4 h5 => absurd h5 a6⟩
      · rintro ⟨d2, ag2⟩ ⟨g1, g2, _, g4, g5⟩; dsimp only at g1 g2 g4 g5 ⊢; refine hn1 _ ⟨g1, by dsimp only; omega, by dsimp only; omega, g2, fun h => ?_, g5⟩ (by dsimp only; omega); dsimp only at h; obtain ⟨h2, h3, h4⟩ := g4 h; refine ⟨h2, fun j hj c hc => ?_⟩; dsimp only at hj; by_cases hji : (j : Int) < i
        · exact h3 j hji c hc
        · (obtain rfl : j = i.toNat := by omega); obtain ⟨k, hk, rfl⟩ := jK hc; exact h4 k (Nat.zero_le _) hk
      · rintro k ⟨d2, ag2⟩ nx hk ⟨g1, g2, g3, g4, g5⟩ hnx; dsimp only at g1 g2 g3 g4 g5 hnx ⊢; (have hid : i.toNat < d2.length := by omega); rw [jg ⟨h0, by omega⟩, jg ⟨by omega, by omega⟩]
        cases hr : R d2 (cD d2 i.toNat).Station (cD (cD d2 i.toNat).Channels k) with
        | true =>
          rw [cond_true, zk1 g1.bd.len (fun x hx => (g1.bd.ch x hx).1), Option.bind_some]; refine hnx _ ⟨g1.step hp hr, by dsimp only; rw [List.length_map]; exact g2, ziE g1.bd hid a6 rfl, (fun h => by cases h), fun _ => ?_⟩;dsimp only; have h6 := zlk hid rfl (gQ (show k < (cD d2 i.toNat).Channels.length by omega))
          cases ag2 with
          | true => have := g5 rfl; omega
          | false => obtain ⟨h7, _⟩ := g4 rfl; subst h7; exact h6
        | false =>
          rw [cond_false]; refine hnx _ ⟨g1, g2, by dsimp only; omega, fun h => ?_, g5⟩; dsimp only at h ⊢; obtain ⟨h7, h8, h9⟩ := g4 h; refine ⟨h7, h8, fun q h10 h11 => ?_⟩; rcases Nat.lt_or_ge k q with h12 | h12
          · exact h9 q h12 h11
          · (obtain rfl : q = k := by omega); subst h7; exact hr
    · rw [decide_eq_false hi, cond_false]; (have hil : i = d1.length := by omega); refine hn (d1, ag) ⟨hI1, fun h => ?_⟩ ?_
      · dsimp only at h ⊢; obtain ⟨h2, h3⟩ := hF h; subst h2; intro x hx c hc; obtain ⟨j, hj, rfl⟩ := jK hx; exact h3 j a6 c hc
      · dsimp only
        cases ag with
        | true => have := hT rfl;simp only [cond_true]; omega
        | false => obtain ⟨h2, _⟩ := hF rfl; subst h2;simp only [cond_true, cond_false]; omega
theorem MonoR.rem (hp:WtP p):MonoR (iy p):=fun _ _ _ _ h hr=>zg8 hp h hr
theorem zh2 {fuel : Nat} {d0 : List GDomain} (hp : WtP p) (hb : Bd d0) (hf1 : d0.length < fuel) (hf2 : fE d0 + 1 < fuel) : ∃ r, zaS fuel p d0 = some r ∧ PropD p d0 r := by
  unfold zaS;simp only [dV, Nat.sub_zero, zkg]; refine zlI (R := iy p) (k2 := fun d => dj (fun (i : Nat) (next : Unit → Option (List GDomain × Bool)) (_ : Unit) => bif decide ((((cD d i).Channels).length : Int) = 0) then some ([], false) else next ()) (fun (_ : Unit) => some (d, true)) d.length 0 ()) (fun o => ∃ r, o = some r ∧ PropD p d0 r) (.rem hp) hb hf1 hf2 fun d hI hA => ?_
  -- the end: is a domain empty?
  refine zjF (σ := Unit) (I := fun i _ => ∀ j, j < i → (cD d j).Channels ≠ []) (post := fun o => ∃ r, o = some r ∧ PropD p d0 r) (fun j hj => absurd hj (Nat.not_lt_zero j)) ?_ ?_
  · intro _ h; refine ⟨_, rfl, .inl ⟨rfl, ⟨fun x hx => ?_, hA⟩, ⟨hI.sub, hI.ord⟩, fun S hS => hI.sup S hS.calm⟩⟩; obtain ⟨i, hi, rfl⟩ := jK hx; exact h i hi
  · intro i _ nx hi h hnx; by_cases he : (cD d i).Channels = []
    · rw [he]; refine ⟨_, rfl, .inr ⟨rfl, fun S hS hs => ?_⟩⟩; have h2 := hI.sup S hS.calm hs; have h3 := (h2.2 i hi).2; rw [he] at h3; have hm := gQ (show i < S.length by rw [h2.1]; exact hi); apply hS.ne _ hm
      cases hc : (cD S i).Channels with
      | nil => rfl
      | cons c r => exact absurd (h3 c (by rw [hc]; simp)) b2
    · have : ¬ ((cD d i).Channels.length : Int) = 0 := fun h0 => he (List.eq_nil_of_length_eq_zero a6); rw [decide_eq_false this, cond_false]; refine hnx () (fun j hj => ?_); rcases Nat.lt_or_ge j i with h1 | h1
      · exact h j h1
      · rw [show j = i by omega]; exact he
end
end Go.Proofs.YtgoeeefoinkepaaGreatDoor
