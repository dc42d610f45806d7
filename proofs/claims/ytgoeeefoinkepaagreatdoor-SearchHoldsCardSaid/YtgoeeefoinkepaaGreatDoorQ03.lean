/- Ya Yd Cb: shortened and put together by squeeze.py. -/
import Derived.Test.YtgoeeefoinkepaaGreatDoorQ02
set_option maxRecDepth 100000
set_option maxHeartbeats 4000000
set_option linter.unusedVariables false
set_option linter.unusedSectionVars false
set_option linter.unusedSimpArgs false
namespace Go.Proofs.YtgoeeefoinkepaaGreatDoor
open Go.RowKit
structure GChoice where
 Station:Int
 Channel:Int
deriving DecidableEq,Inhabited
abbrev cH (x:GChoice):List Value:=[.int .i64 x.Station, .int .i64 x.Channel]
theorem GChoice.len (x:GChoice):(cH x).length=2:=rfl
structure GDomain where
 Station:Int
 Channels:List Int
deriving DecidableEq,Inhabited
def cK (F:Frz)(c:List Value)(x:GDomain):Prop:=∃(v1:Value),c=[.int .i64 x.Station,v1]∧SlC F v1 1 (x.Channels.map eI)
theorem GDomain.mono {F G:Frz}{c:List Value}{x:GDomain}(hle:F.Le G)(h:cK F c x):cK G c x:=by
 obtain ⟨v1,h0,h2⟩:=h;exact ⟨v1,h0,h2.mono hle⟩
theorem GDomain.len {F:Frz}{c:List Value}{x:GDomain}(h:cK F c x):c.length=2:=by
 obtain ⟨v1,h0,h2⟩:=h;subst h0;rfl
theorem GDomain.one {F:Frz}{c:List Value}{x:GDomain}(h:cK F c x):OneCs c:=by
 obtain ⟨v1,h0,h2⟩:=h;subst h0;haveI:=h2.oneC
 infer_instance
theorem GDomain.c0 {F:Frz}{c:List Value}{x:GDomain}(h:cK F c x):c[0]?=some (.int .i64 x.Station):=by
 obtain ⟨v1,h0,h2⟩:=h;subst h0;rfl
theorem GDomain.c1 {F:Frz}{c:List Value}{x:GDomain}(h:cK F c x):c[1]?=some (cI c 1)∧SlC F (cI c 1) 1 (x.Channels.map eI):=by
 obtain ⟨v1,h0,h2⟩:=h;subst h0;exact ⟨rfl,h2⟩
theorem e9 {F:Frz}{c:List Value}{x:GDomain}(h:cK F c x):(c.drop 0).take 2=[.int .i64 x.Station,cI c 1]:=by
 obtain ⟨v1,h0,h2⟩:=h;subst h0;rfl
structure GPair where
 A:Int
 B:Int
 Offset:Int
 Low:Int
 High:Int
deriving DecidableEq,Inhabited
abbrev cX (x:GPair):List Value:=[.int .i64 x.A, .int .i64 x.B, .int .i64 x.Offset, .int .i64 x.Low, .int .i64 x.High]
theorem GPair.len (x:GPair):(cX x).length=5:=rfl
structure GLoad where
 To:Int
 From:Int
 Weight:Int
 Low:Int
 High:Int
deriving DecidableEq,Inhabited
abbrev c4 (x:GLoad):List Value:=[.int .i64 x.To, .int .i64 x.From, .int .i64 x.Weight, .int .i64 x.Low, .int .i64 x.High]
theorem GLoad.len (x:GLoad):(c4 x).length=5:=rfl
structure GCap where
 Station:Int
 Max:Int
 Low:Int
 High:Int
deriving DecidableEq,Inhabited
abbrev dg (x:GCap):List Value:=[.int .i64 x.Station, .int .i64 x.Max, .int .i64 x.Low, .int .i64 x.High]
theorem GCap.len (x:GCap):(dg x).length=4:=rfl
structure GRules where
 Pairs:List GPair
 Loads:List GLoad
 Caps:List GCap
deriving DecidableEq,Inhabited
def ej (F:Frz)(c:List Value)(x:GRules):Prop:=∃(v0:Value) (v1:Value) (v2:Value),c=[v0,v1,v2]∧SlC F v0 5 (x.Pairs.map cX)∧SlC F v1 5 (x.Loads.map c4)∧SlC F v2 4 (x.Caps.map dg)
theorem GRules.mono {F G:Frz}{c:List Value}{x:GRules}(hle:F.Le G)(h:ej F c x):ej G c x:=by
 obtain ⟨v0,v1,v2,h0,h1,h2,h3⟩:=h;exact ⟨v0,v1,v2,h0,h1.mono hle,h2.mono hle,h3.mono hle⟩
theorem GRules.len {F:Frz}{c:List Value}{x:GRules}(h:ej F c x):c.length=3:=by
 obtain ⟨v0,v1,v2,h0,h1,h2,h3⟩:=h;subst h0;rfl
theorem GRules.one {F:Frz}{c:List Value}{x:GRules}(h:ej F c x):OneCs c:=by
 obtain ⟨v0,v1,v2,h0,h1,h2,h3⟩:=h;subst h0;haveI:=h1.oneC;haveI:=h2.oneC;haveI:=h3.oneC
 infer_instance
theorem GRules.c0 {F:Frz}{c:List Value}{x:GRules}(h:ej F c x):c[0]?=some (cI c 0)∧SlC F (cI c 0) 5 (x.Pairs.map cX):=by
 obtain ⟨v0,v1,v2,h0,h1,h2,h3⟩:=h;subst h0;exact ⟨rfl,h1⟩
theorem GRules.c1 {F:Frz}{c:List Value}{x:GRules}(h:ej F c x):c[1]?=some (cI c 1)∧SlC F (cI c 1) 5 (x.Loads.map c4):=by
 obtain ⟨v0,v1,v2,h0,h1,h2,h3⟩:=h;subst h0;exact ⟨rfl,h2⟩
theorem GRules.c2 {F:Frz}{c:List Value}{x:GRules}(h:ej F c x):c[2]?=some (cI c 2)∧SlC F (cI c 2) 4 (x.Caps.map dg):=by
 obtain ⟨v0,v1,v2,h0,h1,h2,h3⟩:=h;subst h0;exact ⟨rfl,h3⟩
theorem GRules.form {F:Frz}{c:List Value}{x:GRules}(h:ej F c x):(c.drop 0).take 3=[cI c 0,cI c 1,cI c 2]:=by
 obtain ⟨v0,v1,v2,h0,h1,h2,h3⟩:=h;subst h0;rfl
structure GProblem where
 Domains:List GDomain
 Rules:GRules
deriving DecidableEq,Inhabited
def dS (F:Frz)(c:List Value)(x:GProblem):Prop:=∃(v0:Value) (cs0:List (List Value)) (v1:Value) (v2:Value) (v3:Value),c=[v0,v1,v2,v3]∧SlD cK F v0 2 cs0 x.Domains∧SlC F v1 5 (x.Rules.Pairs.map cX)∧SlC F v2 5 (x.Rules.Loads.map c4)∧SlC F v3 4 (x.Rules.Caps.map dg)
theorem GProblem.mono {F G:Frz}{c:List Value}{x:GProblem}(hle:F.Le G)(h:dS F c x):dS G c x:=by
 obtain ⟨v0,cs0,v1,v2,v3,h0,h1,h2,h3,h4⟩:=h;exact ⟨v0,cs0,v1,v2,v3,h0,SlD.mono (rep:=cK) (fun _ _ _ _=>GDomain.mono) h1 hle,h2.mono hle,h3.mono hle,h4.mono hle⟩
theorem GProblem.len {F:Frz}{c:List Value}{x:GProblem}(h:dS F c x):c.length=4:=by
 obtain ⟨v0,cs0,v1,v2,v3,h0,h1,h2,h3,h4⟩:=h;subst h0;rfl
theorem GProblem.one {F:Frz}{c:List Value}{x:GProblem}(h:dS F c x):OneCs c:=by
 obtain ⟨v0,cs0,v1,v2,v3,h0,h1,h2,h3,h4⟩:=h;subst h0;haveI:=h1.1.oneC;haveI:=h2.oneC;haveI:=h3.oneC;haveI:=h4.oneC
 infer_instance
theorem GProblem.c0 {F:Frz}{c:List Value}{x:GProblem}(h:dS F c x):c[0]?=some (cI c 0)∧∃cs,SlD cK F (cI c 0) 2 cs x.Domains:=by
 obtain ⟨v0,cs0,v1,v2,v3,h0,h1,h2,h3,h4⟩:=h;subst h0;exact ⟨rfl,cs0,h1⟩
theorem GProblem.c1 {F:Frz}{c:List Value}{x:GProblem}(h:dS F c x):c[1]?=some (cI c 1)∧SlC F (cI c 1) 5 (x.Rules.Pairs.map cX):=by
 obtain ⟨v0,cs0,v1,v2,v3,h0,h1,h2,h3,h4⟩:=h;subst h0;exact ⟨rfl,h2⟩
theorem GProblem.c2 {F:Frz}{c:List Value}{x:GProblem}(h:dS F c x):c[2]?=some (cI c 2)∧SlC F (cI c 2) 5 (x.Rules.Loads.map c4):=by
 obtain ⟨v0,cs0,v1,v2,v3,h0,h1,h2,h3,h4⟩:=h;subst h0;exact ⟨rfl,h3⟩
theorem GProblem.c3 {F:Frz}{c:List Value}{x:GProblem}(h:dS F c x):c[3]?=some (cI c 3)∧SlC F (cI c 3) 4 (x.Rules.Caps.map dg):=by
 obtain ⟨v0,cs0,v1,v2,v3,h0,h1,h2,h3,h4⟩:=h;subst h0;exact ⟨rfl,h4⟩
theorem GProblem.form {F:Frz}{c:List Value}{x:GProblem}(h:dS F c x):(c.drop 0).take 4=[cI c 0,cI c 1,cI c 2,cI c 3]:=by
 obtain ⟨v0,cs0,v1,v2,v3,h0,h1,h2,h3,h4⟩:=h;subst h0;rfl
def kw (n:Int):Bool:=
 ((decide (0≤n))&&(decide (n≤511)))
theorem zbz (F0:Frz)(w:World)(hF0:F0.At w)(n:Int):Calls Tryz.prog 31 #[.int .i64 n] w fun e w'=>e= .returned (.bool (kw n))∧Below w.heap.size w w':=by
 obtain ⟨r,hk⟩:∃r,kw n=r:=⟨_,rfl⟩;rw [hk];unfold kw at hk;obtain ⟨S0,F1,rfl,hS0,hp0⟩:=fk hF0;refine dA Tryz.func31 rfl rfl rfl hp0 ?_;refine fA ?_;refine c6 (ι:=Unit) (fun z=>[(2, .bool ((decide (0≤n))&&(decide (n≤511))))]) (fun z=>[.fr F1]) (fun z=>True) ?_ ?_
 ·refine nv ?_;refine dj rfl rfl rfl (fun h1=>?_) (fun h1=>?_)
  ·have p1:=of_decide_eq_true h1;refine mn ?_;exact q4P
  ·have p1:=of_decide_eq_false h1;refine mn ?_;exact q4K
 ·refine mM ?_;subst hk;exact eh
def mr (l:List GChoice):Bool:=
 dQ (fun (_:Unit)=>
  true)
 (fun k1=>
  dk (fun (i_3:Nat) (next2:Unit→Bool) (_:Unit)=>
   (bif ((((!(kw ((cI l i_3).Station)))||(decide ((cI l i_3).Channel<2)))||(decide (51<(cI l i_3).Channel)))||((decide (0<(i_3:Int)))&&(decide ((cI l i_3).Station≤(cI l (((i_3:Int) - 1).toNat)).Station)))) then
    false
    else
    next2 ()))
  (fun (_:Unit)=>
   k1 ()) (l.length - 0) 0 ())
theorem zcM (F0:Frz)(w:World)(hF0:F0.At w)(l:List GChoice)(vl:Value)(hl:SlC F0 vl 2 (l.map cH)):Calls Tryz.prog 12 #[vl] w fun e w'=>e= .returned (.bool (mr l))∧Below w.heap.size w w':=by
 obtain ⟨r,hk⟩:∃r,mr l=r:=⟨_,rfl⟩;rw [hk];unfold mr at hk;haveI:=hl.oneC;obtain ⟨S0,F1,rfl,hS0,hp0⟩:=fk hF0;refine dA Tryz.func12 rfl rfl rfl hp0 ?_;refine gM ?_;refine lZ ?_;have hq:=eD hk;clear hk;obtain ⟨k1,hk1,hk⟩:=hq; (try dsimp only at hk);refine c6 (ι:=Unit) (fun z=>[]) (fun z=>[.fr F1]) (fun z=>k1 ()=r) ?_ ?_
 ·have hq:=fJ hk;clear hk;obtain ⟨f2,kk2,hf2,hkk2,hk⟩:=hq;refine fe ?_;refine T.loop (ι:=Nat) (fun z=>[(0,vl),(3, .int .i64 (z:Int))]) (fun z=>[.fr F1]) (fun z=>dk f2 kk2 (l.length - z) z ()=r) (fun z=>l.length - z) 0 ?_ ?_ ?_ ?_
  ·exact hk
  ·exact q4H
  ·exact eX
  ·rintro i_3 hk;refine iZ ?_;refine q2K ?_;have hm6:l.length≤9223372036854775807:=(List.length_map _)▸hl.max;refine dM ?_;refine T.cond rfl (fun h4=>?_) (fun h4=>?_)
   ·have p4:=of_decide_eq_true h4;rw [fK a6] at hk;generalize hn2:dk f2 kk2 (l.length - (i_3+1)) (i_3+1)=next2 at hk;rw [←hf2] at hk; (try dsimp only at hk);refine kB ?_;refine c6 (ι:=Unit) (fun z=>[(0,vl),(3, .int .i64 (i_3:Int)),(50, .bool ((((!(kw ((cI l i_3).Station)))||(decide ((cI l i_3).Channel<2)))||(decide (51<(cI l i_3).Channel)))||((decide (0<(i_3:Int)))&&(decide ((cI l i_3).Station≤(cI l (((i_3:Int) - 1).toNat)).Station)))))]) (fun z=>[.fr F1]) (fun z=>True) ?_ ?_
    ·refine dF (sN 0 5 (.eff 5 (sN 6 34 (.still 40 .done)))) _ a8 (List.Sublist.refl _) ?_;refine q1z ?_;refine cO rfl (dT 0 (i:=i_3) (j:=0) rfl rfl rfl hl a6) ?_;refine dw ?_;refine cR rfl (Wt.none) rfl rfl (cM rfl rfl rfl (fun w hw=>zbz _ w (hw.fr (i:=0) rfl) ((cI l i_3).Station))) ?_;refine q4k ?_;refine dt rfl rfl rfl rfl (fun h5=>?_) (fun h5=>?_)
     ·refine TS.run 33 rfl ?_;refine ij ?_;exact cP () trivial (.c (.c (.b (gk (gk (gk h5))).symm .nil))) (List.Sublist.refl _)
     ·refine q1z ?_;refine cO rfl (dT 0 (i:=i_3) (j:=1) rfl rfl rfl hl a6) ?_;refine ik ?_;refine dt rfl rfl rfl rfl (fun h6=>?_) (fun h6=>?_)
      ·have p6:=of_decide_eq_true h6;refine TS.run 25 rfl ?_;refine ij ?_;exact cP () trivial (.c (.c (.b (gk (gk (iE h5 h6))).symm .nil))) (List.Sublist.refl _)
      ·have p6:=of_decide_eq_false h6;refine q1z ?_;refine cO rfl (dT 0 (i:=i_3) (j:=1) rfl rfl rfl hl a6) ?_;refine ik ?_;refine dt rfl rfl rfl rfl (fun h7=>?_) (fun h7=>?_)
       ·have p7:=of_decide_eq_true h7;refine TS.run 17 rfl ?_;refine ij ?_;exact cP () trivial (.c (.c (.b (gk (iE (iE h5 h6) h7)).symm .nil))) (List.Sublist.refl _)
       ·have p7:=of_decide_eq_false h7;refine ik ?_;refine dt rfl rfl rfl rfl (fun h8=>?_) (fun h8=>?_)
        ·have p8:=of_decide_eq_true h8;refine q27 ?_;refine cO rfl (dT 0 (i:=((i_3:Int) - 1).toNat) (j:=0) rfl rfl rfl hl a6) ?_;refine q1z ?_;refine cO rfl (dT 0 (i:=i_3) (j:=0) rfl rfl rfl hl a6) ?_;refine mI ?_;exact cP () trivial (.c (.c (.b (Eq.trans (jI h8) (f9 (iE (iE h5 h6) h7))) .nil))) (List.Sublist.refl _)
        ·have p8:=of_decide_eq_false h8;refine TS.run 14 rfl ?_;refine ij ?_;exact cP () trivial (.c (.c (.b (iE (iE (iE h5 h6) h7) (eH h8)).symm .nil))) (List.Sublist.refl _)
    ·rintro _ _;refine T.cond rfl (fun h9=>?_) (fun h9=>?_)
     ·replace hk:=dy hk h9;refine iT ?_;subst hk;exact eh
     ·have p9:=h9; (try simp only [cT] at p9);replace hk:=dz hk h9;refine gY ?_;rw [←hn2] at hk;exact K.next (i_3+1) hk a6 (.c (.c .nil)) (List.Sublist.refl _)
   ·have p4:=of_decide_eq_false h4;rw [fL a6,←hkk2] at hk; (try dsimp only at hk);refine fx ?_;exact ks
 ·rintro _ hk;rw [←hk1] at hk; (try dsimp only at hk);refine kj ?_;subst hk;exact eh
def zbC (a:List GChoice)(b:List GChoice):Bool:=
 (bif decide (¬(a.length:Int)=(b.length:Int)) then
  false
  else
  dQ (fun (_:Unit)=>
   true)
  (fun k2=>
   dk (fun (i_4:Nat) (next3:Unit→Bool) (_:Unit)=>
    (bif !(decide ((cI a i_4).Station=(cI b i_4).Station)&&decide ((cI a i_4).Channel=(cI b i_4).Channel)) then
     false
     else
     next3 ()))
   (fun (_:Unit)=>
    k2 ()) (a.length - 0) 0 ()))
theorem zdW (F0:Frz)(w:World)(hF0:F0.At w)(a:List GChoice)(va:Value)(ha:SlC F0 va 2 (a.map cH))(b:List GChoice)(vb:Value)(hb:SlC F0 vb 2 (b.map cH)):Calls Tryz.prog 16 #[va,vb] w fun e w'=>e= .returned (.bool (zbC a b))∧Below w.heap.size w w':=by
 obtain ⟨r,hk⟩:∃r,zbC a b=r:=⟨_,rfl⟩;rw [hk];unfold zbC at hk;haveI:=ha.oneC;haveI:=hb.oneC;obtain ⟨S0,F1,rfl,hS0,hp0⟩:=fk hF0;refine dA Tryz.func16 rfl rfl rfl hp0 ?_;refine jD ?_;refine cL (dp rfl rfl ha (List.length_map _)) ?_;have hm7:a.length≤9223372036854775807:=(List.length_map _)▸ha.max;refine di ?_;refine cL (dp rfl rfl hb (List.length_map _)) ?_;have hm9:b.length≤9223372036854775807:=(List.length_map _)▸hb.max;refine dM ?_;refine T.cond rfl (fun h1=>?_) (fun h1=>?_)
 ·have p1:=of_decide_eq_true h1;replace hk:=dy hk h1;refine jc ?_;subst hk;exact eh
 ·have p1:=of_decide_eq_false h1;replace hk:=dz hk h1;refine jT ?_;refine dM ?_;have hq:=eD hk;clear hk;obtain ⟨k2,hk2,hk⟩:=hq; (try dsimp only at hk);refine c6 (ι:=Unit) (fun z=>[]) (fun z=>[.fr F1]) (fun z=>k2 ()=r) ?_ ?_
  ·have hq:=fJ hk;clear hk;obtain ⟨f3,kk3,hf3,hkk3,hk⟩:=hq;refine fe ?_;refine T.loop (ι:=Nat) (fun z=>[(0,va),(1,vb),(5, .int .i64 (z:Int))]) (fun z=>[.fr F1]) (fun z=>dk f3 kk3 (a.length - z) z ()=r) (fun z=>a.length - z) 0 ?_ ?_ ?_ ?_
   ·exact hk
   ·exact mw
   ·exact eX
   ·rintro i_4 hk;refine iZ ?_;refine cL (dp rfl rfl ha (List.length_map _)) ?_;refine dM ?_;refine T.cond rfl (fun h5=>?_) (fun h5=>?_)
    ·have p5:=of_decide_eq_true h5;rw [fK a6] at hk;generalize hn3:dk f3 kk3 (a.length - (i_4+1)) (i_4+1)=next3 at hk;rw [←hf3] at hk; (try dsimp only at hk);refine kB ?_;refine q2j ?_;refine gG ?_;refine cO rfl (dd (i:=i_4) rfl rfl rfl ha (List.length_map _) rfl a6) ?_;refine cO rfl (et 0 (i:=i_4) rfl rfl rfl ha a6) ?_;refine gG ?_;refine cO rfl (dd (i:=i_4) rfl rfl rfl hb (List.length_map _) rfl a6) ?_;refine cO rfl (et 0 (i:=i_4) rfl rfl rfl hb a6) ?_;refine cO rfl (Yv.cy a8 rfl rfl rfl) ?_;refine ij ?_;refine K.seq ?_;refine T.cond rfl (fun h6=>?_) (fun h6=>?_)
     ·replace hk:=dy hk h6;refine iT ?_;subst hk;exact eh
     ·have p6:=h6; (try simp only [cT] at p6);replace hk:=dz hk h6;refine gY ?_;rw [←hn3] at hk;exact K.next (i_4+1) hk a6 (.c (.c (.c .nil))) (List.Sublist.refl _)
    ·have p5:=of_decide_eq_false h5;rw [fL a6,←hkk3] at hk; (try dsimp only at hk);refine fx ?_;exact ks
  ·rintro _ hk;rw [←hk2] at hk; (try dsimp only at hk);refine kj ?_;subst hk;exact eh
def fH (p:GProblem)(n:Int):Int:=
 dQ (fun (_:Unit)=>
  (-1))
 (fun k1=>
  dk (fun (i_3:Nat) (next2:Unit→Int) (_:Unit)=>
   (bif decide ((cI p.Domains i_3).Station=n) then
    (i_3:Int)
    else
    next2 ()))
  (fun (_:Unit)=>
   k1 ()) (p.Domains.length - 0) 0 ())
theorem zcc (F0:Frz)(w:World)(hF0:F0.At w)(p:GProblem)(vp_0:Value)(cp_0:List (List Value))(hp_0:SlD cK F0 vp_0 2 cp_0 p.Domains)(vp_1:Value)(hp_1:SlC F0 vp_1 5 (p.Rules.Pairs.map cX))(vp_2:Value)(hp_2:SlC F0 vp_2 5 (p.Rules.Loads.map c4))(vp_3:Value)(hp_3:SlC F0 vp_3 4 (p.Rules.Caps.map dg))(n:Int):Calls Tryz.prog 32 #[.agg [vp_0,vp_1,vp_2,vp_3].toArray, .int .i64 n] w fun e w'=>e= .returned (.int .i64 (fH p n))∧Below w.heap.size w w':=by
 obtain ⟨r,hk⟩:∃r,fH p n=r:=⟨_,rfl⟩;rw [hk];unfold fH at hk;haveI:=hp_0.1.oneC;haveI:=hp_1.oneC;haveI:=hp_2.oneC;haveI:=hp_3.oneC;obtain ⟨S0,F1,rfl,hS0,hp0⟩:=fk hF0;refine dA Tryz.func32 rfl rfl rfl hp0 ?_;refine iL ?_;rintro _ _ ⟨g2,rfl,rfl⟩;refine q4l ?_;have hq:=eD hk;clear hk;obtain ⟨k1,hk1,hk⟩:=hq; (try dsimp only at hk);refine c6 (ι:=Unit) (fun z=>[]) (fun z=>[.fr F1]) (fun z=>k1 ()=r) ?_ ?_
 ·have hq:=fJ hk;clear hk;obtain ⟨f2,kk2,hf2,hkk2,hk⟩:=hq;refine fe ?_;refine T.loop (ι:=Nat) (fun z=>[(1, .int .i64 n),(2, .pointer (some ⟨g2,0,none⟩)),(5, .int .i64 (z:Int))]) (fun z=>[.row g2 31 [vp_0,vp_1,vp_2,vp_3], .fr F1]) (fun z=>dk f2 kk2 (p.Domains.length - z) z ()=r) (fun z=>p.Domains.length - z) 0 ?_ ?_ ?_ ?_
  ·exact hk
  ·exact mw
  ·exact eX
  ·rintro i_3 hk;refine q3K ?_;refine q22 ?_;have hm9:p.Domains.length≤9223372036854775807:=hp_0.2.1▸hp_0.1.max;refine dM ?_;refine T.cond rfl (fun h4=>?_) (fun h4=>?_)
   ·have p4:=of_decide_eq_true h4;rw [fK a6] at hk;generalize hn2:dk f2 kk2 (p.Domains.length - (i_3+1)) (i_3+1)=next2 at hk;rw [←hf2] at hk; (try dsimp only at hk);refine fS ?_;refine mQ ?_;refine cL (dd (i:=i_3) rfl rfl rfl hp_0.1 hp_0.2.1 rfl a6) ?_;refine cL (em rfl rfl hp_0.1 hp_0.2.1 a6) ?_;refine cL (dq 1 (i:=i_3) (j:=0) rfl rfl rfl hp_0.1 hp_0.2.1 a6 rfl (GDomain.c0 (hp_0.2.2 i_3 a6))) ?_;refine jm ?_;refine T.cond rfl (fun h5=>?_) (fun h5=>?_)
    ·have p5:=of_decide_eq_true h5;replace hk:=dy hk h5;refine iv ?_;refine mE ?_;subst hk;exact eh
    ·have p5:=of_decide_eq_false h5;replace hk:=dz hk h5;refine gY ?_;rw [←hn2] at hk;exact q40
   ·have p4:=of_decide_eq_false h4;rw [fL a6,←hkk2] at hk; (try dsimp only at hk);refine ni ?_;exact ks
 ·rintro _ hk;rw [←hk1] at hk; (try dsimp only at hk);refine kj ?_;subst hk;exact eh
def gR (l:List GChoice)(n:Int):Int:=
 dQ (fun (_:Unit)=>
  0)
 (fun k1=>
  dk (fun (i_3:Nat) (next2:Unit→Int) (_:Unit)=>
   (bif decide ((cI l i_3).Station=n) then
    ((cI l i_3).Channel)
    else
    next2 ()))
  (fun (_:Unit)=>
   k1 ()) (l.length - 0) 0 ())
theorem zdE (F0:Frz)(w:World)(hF0:F0.At w)(l:List GChoice)(vl:Value)(hl:SlC F0 vl 2 (l.map cH))(n:Int):Calls Tryz.prog 33 #[vl, .int .i64 n] w fun e w'=>e= .returned (.int .i64 (gR l n))∧Below w.heap.size w w':=by
 obtain ⟨r,hk⟩:∃r,gR l n=r:=⟨_,rfl⟩;rw [hk];unfold gR at hk;haveI:=hl.oneC;obtain ⟨S0,F1,rfl,hS0,hp0⟩:=fk hF0;refine dA Tryz.func33 rfl rfl rfl hp0 ?_;refine gM ?_;refine lZ ?_;have hq:=eD hk;clear hk;obtain ⟨k1,hk1,hk⟩:=hq; (try dsimp only at hk);refine c6 (ι:=Unit) (fun z=>[]) (fun z=>[.fr F1]) (fun z=>k1 ()=r) ?_ ?_
 ·have hq:=fJ hk;clear hk;obtain ⟨f2,kk2,hf2,hkk2,hk⟩:=hq;refine fe ?_;refine T.loop (ι:=Nat) (fun z=>[(0,vl),(1, .int .i64 n),(5, .int .i64 (z:Int))]) (fun z=>[.fr F1]) (fun z=>dk f2 kk2 (l.length - z) z ()=r) (fun z=>l.length - z) 0 ?_ ?_ ?_ ?_
  ·exact hk
  ·exact mw
  ·exact eX
  ·rintro i_3 hk;refine iZ ?_;refine q2K ?_;have hm8:l.length≤9223372036854775807:=(List.length_map _)▸hl.max;refine dM ?_;refine T.cond rfl (fun h4=>?_) (fun h4=>?_)
   ·have p4:=of_decide_eq_true h4;rw [fK a6] at hk;generalize hn2:dk f2 kk2 (l.length - (i_3+1)) (i_3+1)=next2 at hk;rw [←hf2] at hk; (try dsimp only at hk);refine na ?_;refine q21 ?_;refine cL (em rfl rfl hl (List.length_map _) a6) ?_;refine cL (dT 0 (i:=i_3) (j:=0) rfl rfl rfl hl a6) ?_;refine jm ?_;refine T.cond rfl (fun h5=>?_) (fun h5=>?_)
    ·have p5:=of_decide_eq_true h5;replace hk:=dy hk h5;refine iv ?_;refine q21 ?_;refine cL (em rfl rfl hl (List.length_map _) a6) ?_;refine cL (dT 0 (i:=i_3) (j:=1) rfl rfl rfl hl a6) ?_;refine di ?_;refine mE ?_;subst hk;exact eh
    ·have p5:=of_decide_eq_false h5;replace hk:=dz hk h5;refine gY ?_;rw [←hn2] at hk;exact q40
   ·have p4:=of_decide_eq_false h4;rw [fL a6,←hkk2] at hk; (try dsimp only at hk);refine fx ?_;exact ks
 ·rintro _ hk;rw [←hk1] at hk; (try dsimp only at hk);refine kj ?_;subst hk;exact eh
def l6 (l:List Int)(n:Int):Bool:=
 dQ (fun (_:Unit)=>
  false)
 (fun k1=>
  dk (fun (i_3:Nat) (next2:Unit→Bool) (_:Unit)=>
   (bif decide ((cI l i_3)=n) then
    true
    else
    next2 ()))
  (fun (_:Unit)=>
   k1 ()) (l.length - 0) 0 ())
theorem zdM (F0:Frz)(w:World)(hF0:F0.At w)(l:List Int)(vl:Value)(hl:SlC F0 vl 1 (l.map eI))(n:Int):Calls Tryz.prog 34 #[vl, .int .i64 n] w fun e w'=>e= .returned (.bool (l6 l n))∧Below w.heap.size w w':=by
 obtain ⟨r,hk⟩:∃r,l6 l n=r:=⟨_,rfl⟩;rw [hk];unfold l6 at hk;haveI:=hl.oneC;obtain ⟨S0,F1,rfl,hS0,hp0⟩:=fk hF0;refine dA Tryz.func34 rfl rfl rfl hp0 ?_;refine gM ?_;refine lZ ?_;have hq:=eD hk;clear hk;obtain ⟨k1,hk1,hk⟩:=hq; (try dsimp only at hk);refine c6 (ι:=Unit) (fun z=>[]) (fun z=>[.fr F1]) (fun z=>k1 ()=r) ?_ ?_
 ·have hq:=fJ hk;clear hk;obtain ⟨f2,kk2,hf2,hkk2,hk⟩:=hq;refine fe ?_;refine T.loop (ι:=Nat) (fun z=>[(0,vl),(1, .int .i64 n),(5, .int .i64 (z:Int))]) (fun z=>[.fr F1]) (fun z=>dk f2 kk2 (l.length - z) z ()=r) (fun z=>l.length - z) 0 ?_ ?_ ?_ ?_
  ·exact hk
  ·exact mw
  ·exact eX
  ·rintro i_3 hk;refine iZ ?_;refine q2K ?_;have hm8:l.length≤9223372036854775807:=(List.length_map _)▸hl.max;refine dM ?_;refine T.cond rfl (fun h4=>?_) (fun h4=>?_)
   ·have p4:=of_decide_eq_true h4;rw [fK a6] at hk;generalize hn2:dk f2 kk2 (l.length - (i_3+1)) (i_3+1)=next2 at hk;rw [←hf2] at hk; (try dsimp only at hk);refine na ?_;refine q21 ?_;refine cL (dT 0 (i:=i_3) (j:=0) rfl rfl rfl hl a6) ?_;refine jm ?_;refine T.cond rfl (fun h5=>?_) (fun h5=>?_)
    ·have p5:=of_decide_eq_true h5;replace hk:=dy hk h5;refine iT ?_;subst hk;exact eh
    ·have p5:=of_decide_eq_false h5;replace hk:=dz hk h5;refine gY ?_;rw [←hn2] at hk;exact q40
   ·have p4:=of_decide_eq_false h4;rw [fL a6,←hkk2] at hk; (try dsimp only at hk);refine fx ?_;exact ks
 ·rintro _ hk;rw [←hk1] at hk; (try dsimp only at hk);refine kj ?_;subst hk;exact eh
def m8 (low:Int)(high:Int):Bool:=
 (((decide (2≤low))&&(decide (low≤high)))&&(decide (high≤51)))
theorem zeb (F0:Frz)(w:World)(hF0:F0.At w)(low:Int)(high:Int):Calls Tryz.prog 62 #[.int .i64 low, .int .i64 high] w fun e w'=>e= .returned (.bool (m8 low high))∧Below w.heap.size w w':=by
 obtain ⟨r,hk⟩:∃r,m8 low high=r:=⟨_,rfl⟩;rw [hk];unfold m8 at hk;obtain ⟨S0,F1,rfl,hS0,hp0⟩:=fk hF0;refine dA Tryz.func62 rfl rfl rfl hp0 ?_;refine fA ?_;refine c6 (ι:=Unit) (fun z=>[(4, .bool (((decide (2≤low))&&(decide (low≤high)))&&(decide (high≤51))))]) (fun z=>[.fr F1]) (fun z=>True) ?_ ?_
 ·refine nv ?_;refine dj rfl rfl rfl (fun h1=>?_) (fun h1=>?_)
  ·have p1:=of_decide_eq_true h1;refine TL.run 5 rfl ?_;refine dj rfl rfl rfl (fun h2=>?_) (fun h2=>?_)
   ·have p2:=of_decide_eq_true h2;refine mn ?_;exact cP () trivial (.b (jI (fE h1 h2)) .nil) (List.Sublist.refl _)
   ·have p2:=of_decide_eq_false h2;refine mn ?_;exact cP () trivial (.b (eH (fE h1 h2)).symm .nil) (List.Sublist.refl _)
  ·have p1:=of_decide_eq_false h1;refine TL.run 9 rfl ?_;refine ep ?_;exact cP () trivial (.b (eH (eH h1)).symm .nil) (List.Sublist.refl _)
 ·refine mM ?_;subst hk;exact eh
def zbo (a:List Int)(b:List Int):Option Bool:=
 dQ (fun (_:Unit)=>
  some false)
 (fun k1=>
  dk (fun (i_3:Nat) (next2:Unit→Option Bool) (_:Unit)=>
   eG (0≤(i_3:Int)∧(i_3:Int)<(b.length:Int)) <|
   (bif decide (¬(cI a i_3)=(cI b i_3)) then
    some (decide ((cI a i_3)<(cI b i_3)))
    else
    next2 ()))
  (fun (_:Unit)=>
   k1 ()) (a.length - 0) 0 ())
theorem zeh (F0:Frz)(w:World)(hF0:F0.At w)(a:List Int)(va:Value)(ha:SlC F0 va 1 (a.map eI))(b:List Int)(vb:Value)(hb:SlC F0 vb 1 (b.map eI))(r:Bool)(hr:zbo a b=some r):Calls Tryz.prog 63 #[va,vb] w fun e w'=>e= .returned (.bool r)∧Below w.heap.size w w':=by
 have hk:=hr;unfold zbo at hk;haveI:=ha.oneC;haveI:=hb.oneC;obtain ⟨S0,F1,rfl,hS0,hp0⟩:=fk hF0;refine dA Tryz.func63 rfl rfl rfl hp0 ?_;refine gM ?_;refine lZ ?_;have hq:=eD hk;clear hk;obtain ⟨k1,hk1,hk⟩:=hq; (try dsimp only at hk);refine c6 (ι:=Unit) (fun z=>[]) (fun z=>[.fr F1]) (fun z=>k1 ()=some r) ?_ ?_
 ·have hq:=fJ hk;clear hk;obtain ⟨f2,kk2,hf2,hkk2,hk⟩:=hq;refine fe ?_;refine T.loop (ι:=Nat) (fun z=>[(0,va),(1,vb),(5, .int .i64 (z:Int))]) (fun z=>[.fr F1]) (fun z=>dk f2 kk2 (a.length - z) z ()=some r) (fun z=>a.length - z) 0 ?_ ?_ ?_ ?_
  ·exact hk
  ·exact mw
  ·exact eX
  ·rintro i_3 hk;refine iZ ?_;refine cL (dp rfl rfl ha (List.length_map _)) ?_;have hm8:a.length≤9223372036854775807:=(List.length_map _)▸ha.max;refine dM ?_;refine T.cond rfl (fun h4=>?_) (fun h4=>?_)
   ·have p4:=of_decide_eq_true h4;rw [fK a6] at hk;generalize hn2:dk f2 kk2 (a.length - (i_3+1)) (i_3+1)=next2 at hk;rw [←hf2] at hk; (try dsimp only at hk);refine kB ?_;have hq:(0≤(i_3:Int)∧(i_3:Int)<(b.length:Int))∧_:=gQ hk;clear hk;obtain ⟨g18,hk⟩:=hq; (try dsimp only at hk);refine q2j ?_;refine q14 ?_;refine kx ?_;refine T.cond rfl (fun h5=>?_) (fun h5=>?_)
    ·have p5:=of_decide_eq_true h5;replace hk:=dy hk h5;refine T.seq ?_;refine q3N ?_;refine q14 ?_;refine jt ?_;refine K.seq (T.ret (eu (dV (dV (eu (dV ?_))))));obtain rfl:=Option.some.inj hk;exact eh
    ·have p5:=of_decide_eq_false h5;replace hk:=dz hk h5;refine gY ?_;rw [←hn2] at hk;exact q40
   ·have p4:=of_decide_eq_false h4;rw [fL a6,←hkk2] at hk; (try dsimp only at hk);refine fx ?_;exact ks
 ·rintro _ hk;rw [←hk1] at hk; (try dsimp only at hk);refine kj ?_;obtain rfl:=Option.some.inj hk;exact eh
def lU (x_:GPair):List Int:=
 [x_.A,x_.B,x_.Offset,x_.Low,x_.High]
theorem zeB (F0:Frz)(w:World)(hF0:F0.At w)(x_:GPair):Calls Tryz.prog 64 #[.agg [.int .i64 x_.A, .int .i64 x_.B, .int .i64 x_.Offset, .int .i64 x_.Low, .int .i64 x_.High].toArray] w fun e w'=>∃(y:Value) (G:Frz),(SlC G y 1 ((lU x_).map eI))∧e= .returned (y)∧Fx F0 w G w':=by
 obtain ⟨r,hk⟩:∃r,lU x_=r:=⟨_,rfl⟩;rw [hk];unfold lU at hk;obtain ⟨S0,F1,rfl,hS0,hp0⟩:=fk hF0;refine dA Tryz.func64 rfl rfl rfl hp0 ?_;refine iL ?_;rintro _ _ ⟨g1,rfl,rfl⟩;refine gn ?_;refine q23 ?_;refine eB ?_;refine eB ?_;refine q01 ?_;rintro _ _ ⟨g13,rfl,rfl⟩;refine fI ?_;refine q3p ?_;rintro F2 ⟨le1_2,hz2⟩;refine iF ?_;have hf2:SlC F2.toFrz (.slice (some ⟨g13,0,none⟩) 5 5) 1 ([x_.A,x_.B,x_.Offset,x_.Low,x_.High].map eI):=(SlK.lit hz2 rfl (Nat.le_refl _) a7).toF (xs:=[x_.A,x_.B,x_.Offset,x_.Low,x_.High]) rfl (fun _=>rfl);subst hk;exact q5j
def lH (x_:GLoad):List Int:=
 [x_.To,x_.From,x_.Weight,x_.Low,x_.High]
theorem zey (F0:Frz)(w:World)(hF0:F0.At w)(x_:GLoad):Calls Tryz.prog 65 #[.agg [.int .i64 x_.To, .int .i64 x_.From, .int .i64 x_.Weight, .int .i64 x_.Low, .int .i64 x_.High].toArray] w fun e w'=>∃(y:Value) (G:Frz),(SlC G y 1 ((lH x_).map eI))∧e= .returned (y)∧Fx F0 w G w':=by
 obtain ⟨r,hk⟩:∃r,lH x_=r:=⟨_,rfl⟩;rw [hk];unfold lH at hk;obtain ⟨S0,F1,rfl,hS0,hp0⟩:=fk hF0;refine dA Tryz.func65 rfl rfl rfl hp0 ?_;refine iL ?_;rintro _ _ ⟨g1,rfl,rfl⟩;refine gn ?_;refine q23 ?_;refine eB ?_;refine eB ?_;refine q01 ?_;rintro _ _ ⟨g13,rfl,rfl⟩;refine fI ?_;refine q3p ?_;rintro F2 ⟨le1_2,hz2⟩;refine iF ?_;have hf2:SlC F2.toFrz (.slice (some ⟨g13,0,none⟩) 5 5) 1 ([x_.To,x_.From,x_.Weight,x_.Low,x_.High].map eI):=(SlK.lit hz2 rfl (Nat.le_refl _) a7).toF (xs:=[x_.To,x_.From,x_.Weight,x_.Low,x_.High]) rfl (fun _=>rfl);subst hk;exact q5j
def lX (x_:GCap):List Int:=
 [x_.Station,x_.Max,x_.Low,x_.High]
theorem ze9 (F0:Frz)(w:World)(hF0:F0.At w)(x_:GCap):Calls Tryz.prog 66 #[.agg [.int .i64 x_.Station, .int .i64 x_.Max, .int .i64 x_.Low, .int .i64 x_.High].toArray] w fun e w'=>∃(y:Value) (G:Frz),(SlC G y 1 ((lX x_).map eI))∧e= .returned (y)∧Fx F0 w G w':=by
 obtain ⟨r,hk⟩:∃r,lX x_=r:=⟨_,rfl⟩;rw [hk];unfold lX at hk;obtain ⟨S0,F1,rfl,hS0,hp0⟩:=fk hF0;refine dA Tryz.func66 rfl rfl rfl hp0 ?_;refine iL ?_;rintro _ _ ⟨g1,rfl,rfl⟩;refine gn ?_;refine q23 ?_;refine eB ?_;refine q01 ?_;rintro _ _ ⟨g11,rfl,rfl⟩;refine fI ?_;refine q3p ?_;rintro F2 ⟨le1_2,hz2⟩;refine iF ?_;have hf2:SlC F2.toFrz (.slice (some ⟨g11,0,none⟩) 4 4) 1 ([x_.Station,x_.Max,x_.Low,x_.High].map eI):=(SlK.lit hz2 rfl (Nat.le_refl _) a7).toF (xs:=[x_.Station,x_.Max,x_.Low,x_.High]) rfl (fun _=>rfl);subst hk;exact cV rfl rfl (fun w' hw=>⟨(.slice (some ⟨g11,0,none⟩) 4 4),F2.toFrz,hf2,rfl,gZ hw (i:=1) rfl hS0 le1_2⟩)
def zbE (d:List GDomain)(s:Int)(c:Int):Option (List GDomain):=
 dQ (fun (out_1:List GDomain)=>
  some out_1)
 (fun k2=>
  dk (fun (i_5:Nat) (next4:List GDomain→Option (List GDomain)) (out_3:List GDomain)=>
   eG (dW ([]++(cI d i_5).Channels).length 8) <|
   dQ (fun (s9:Int×List Int)=>
    eG (dW (out_3++[(GDomain.mk s9.1 s9.2)]).length 32) <|
    next4 (out_3++[(GDomain.mk s9.1 s9.2)]))
   (fun k9=>
    (bif decide ((cI d i_5).Station=s) then
     (bif (l6 ((cI d i_5).Channels) c) then
      k9 ((cI d i_5).Station,[c])
      else
      k9 ((cI d i_5).Station,[]))
     else
     k9 ((cI d i_5).Station,([]++(cI d i_5).Channels)))))
  (fun (out_3:List GDomain)=>
   k2 out_3) (d.length - 0) 0 [])
theorem ziW (F0:Frz)(w:World)(hF0:F0.At w)(d:List GDomain)(vd:Value)(cd:List (List Value))(hd:SlD cK F0 vd 2 cd d)(s:Int)(c:Int)(r:List GDomain)(hr:zbE d s c=some r):Calls Tryz.prog 73 #[vd, .int .i64 s, .int .i64 c] w fun e w'=>∃(y:Value×List (List Value)) (G:Frz),(SlD cK G y.1 2 y.2 r)∧e= .returned (y.1)∧Fx F0 w G w':=by
 have hk:=hr;unfold zbE at hk;haveI:=hd.1.oneC;obtain ⟨S0,F1,rfl,hS0,hp0⟩:=fk hF0;refine dA Tryz.func73 rfl rfl rfl hp0 ?_;refine kZ ?_;refine TL.slNil 59 2 ?_;refine lZ ?_;have hq:=eD hk;clear hk;obtain ⟨k2,hk2,hk⟩:=hq; (try dsimp only at hk);refine c6 (ι:=List GDomain×Value×List (List Value)×FzB w (fun _=>False) S0) (fun z=>[(7,z.2.1)]) (fun z=>[.sl z.2.1 59 2 z.1.length z.2.2.1.flatten, .fr z.2.2.2]) (fun z=>k2 z.1=some r∧OwnD cK z.2.2.2.toFrz 2 z.2.2.1 z.1∧OneC z.2.1∧F1.toFrz.Le z.2.2.2.toFrz) ?_ ?_
 ·have hq:=fJ hk;clear hk;obtain ⟨f4,kk4,hf4,hkk4,hk⟩:=hq;refine fe ?_;refine T.loop (ι:=Nat×List GDomain×Value×List (List Value)×FzB w (fun _=>False) S0) (fun z=>[(0,vd),(1, .int .i64 s),(2, .int .i64 c),(7,z.2.2.1),(8, .int .i64 (z.1:Int))]) (fun z=>[.sl z.2.2.1 59 2 z.2.1.length z.2.2.2.1.flatten, .fr z.2.2.2.2]) (fun z=>dk f4 kk4 (d.length - z.1) z.1 z.2.1=some r∧OwnD cK z.2.2.2.2.toFrz 2 z.2.2.2.1 z.2.1∧OneC z.2.2.1∧F1.toFrz.Le z.2.2.2.2.toFrz) (fun z=>d.length - z.1) (0,[],(.slice none 0 0),[],F1) ?_ ?_ ?_ ?_
  ·exact ⟨hk,(OwnD.nil _ _ 2),inferInstance,(Frz.Le.refl _)⟩
  ·exact mt
  ·exact eX
  ·rintro ⟨i_5,out_3,vout_3,cout_3,F3⟩ ⟨hk,hout_3,oout_3,le1_3⟩; (try dsimp only at *);refine q3u ?_;have hm12:d.length≤9223372036854775807:=(SlD.mono (rep:=cK) (fun _ _ _ _=>GDomain.mono) hd le1_3).2.1▸(SlD.mono (rep:=cK) (fun _ _ _ _=>GDomain.mono) hd le1_3).1.max;refine dM ?_;refine T.cond rfl (fun h6=>?_) (fun h6=>?_)
   ·have p6:=of_decide_eq_true h6;rw [fK a6] at hk;generalize hn4:dk f4 kk4 (d.length - (i_5+1)) (i_5+1)=next4 at hk;rw [←hf4] at hk; (try dsimp only at hk);refine kB ?_;have hq:(dW ([]++(cI d i_5).Channels).length 8)∧_:=gQ hk;clear hk;obtain ⟨g26,hk⟩:=hq; (try dsimp only at hk);refine c6 (ι:=Nat×Value) (fun z=>[(0,vd),(1, .int .i64 s),(2, .int .i64 c),(7,vout_3),(8, .int .i64 (i_5:Int)),(9, .pointer (some ⟨z.1,0,none⟩))]) (fun z=>[.row z.1 59 [.int .i64 ((cI d i_5).Station),z.2], .sl z.2 3 1 ([]++(cI d i_5).Channels).length (([]++(cI d i_5).Channels).flatMap eI), .sl vout_3 59 2 out_3.length cout_3.flatten, .fr F3]) (fun z=>OneC z.2) ?_ ?_
    ·refine dF (.still 0 (.still 1 (.still 2 (.still 3 (.still 4 (.still 5 (.still 6 (.still 7 (.still 8 (.still 9 (.two 10 12 (.still 11 (.eff 12 (.eff 13 .done))) (.eff 10 (.still 11 (.eff 13 .done)))))))))))))) _ a8 (List.Sublist.refl _) ?_;refine q0Z ?_;refine cO rfl (dq 1 (i:=i_5) (j:=0) rfl rfl rfl (SlD.mono (rep:=cK) (fun _ _ _ _=>GDomain.mono) hd le1_3).1 (SlD.mono (rep:=cK) (fun _ _ _ _=>GDomain.mono) hd le1_3).2.1 a6 rfl (GDomain.c0 ((SlD.mono (rep:=cK) (fun _ _ _ _=>GDomain.mono) hd le1_3).2.2 i_5 a6))) ?_;refine q2b ?_;have hd25_1:=(GDomain.c1 ((SlD.mono (rep:=cK) (fun _ _ _ _=>GDomain.mono) hd le1_3).2.2 i_5 a6)).2;haveI:=hd25_1.oneC;refine TS.two ?_ ?_
     ·refine TSo.slNil 3 1 ?_;refine cR rfl (Wt.none) rfl rfl (lD 0 2 (zhD (fun _=>inferInstance)) rfl rfl rfl rfl rfl hd25_1 (zjS (xs:=([]:List Int))) (ziC (xs:=([]:List Int))) g26 a7) ?_;rintro v26 _ ⟨hv26,rfl⟩;refine ka ?_;refine m7 ?_;refine q3n ?_;rintro _ _ ⟨g9,rfl,rfl⟩;refine ka ?_;refine q1I ?_;refine ij ?_;exact cP (g9,v26) hv26 (.c (.c (.c (.c (.c (.c .nil)))))) (List.Sublist.refl _)
     ·refine q3n ?_;rintro _ _ ⟨g9,rfl,rfl⟩;refine ka ?_;refine dw ?_;refine TSo.slNil 3 1 ?_;refine cR rfl (Wt.none) rfl rfl (lD 0 3 (zhD (fun _=>inferInstance)) rfl rfl rfl rfl rfl hd25_1 (zjS (xs:=([]:List Int))) (ziC (xs:=([]:List Int))) g26 a7) ?_;rintro v26 _ ⟨hv26,rfl⟩;refine ka ?_;refine m7 ?_;refine fb rfl (Wt.none) rfl (dH 1) ?_;refine gJ ?_;refine ij ?_;refine K.pick [1,0,2,3] rfl a7 ?_;exact cP (g9,v26) hv26 (.c (.c (.c (.c (.c (.c .nil)))))) (List.Sublist.refl _)
    ·rintro ⟨g9,v26⟩ hv26; (try dsimp only at *);refine T.seq (df ?_);refine eB ?_;refine jm ?_;have hq:=eD hk;clear hk;obtain ⟨k9,hk9,hk⟩:=hq; (try dsimp only at hk);refine c6 (ι:=Int×List Int×Value×FzB w (fun _=>False) S0) (fun z=>[(0,vd),(1, .int .i64 s),(2, .int .i64 c),(7,vout_3),(8, .int .i64 (i_5:Int)),(9, .pointer (some ⟨g9,0,none⟩))]) (fun z=>[.row g9 59 [.int .i64 z.1,z.2.2.1], .sl vout_3 59 2 out_3.length cout_3.flatten, .fr z.2.2.2]) (fun z=>k9 (z.1,z.2.1)=some r∧SlC z.2.2.2.toFrz z.2.2.1 1 (z.2.1.map eI)∧F3.toFrz.Le z.2.2.2.toFrz) ?_ ?_
     ·refine T.cond rfl (fun h10=>?_) (fun h10=>?_)
      ·have p10:=of_decide_eq_true h10;replace hk:=dy hk h10;refine df ?_;refine fg ?_;refine eS (ed 0 rfl rfl rfl rfl b2) ?_;refine fG ?_;refine du ?_;refine ef ?_;refine q1h ?_;have hd37_1:=(GDomain.c1 ((SlD.mono (rep:=cK) (fun _ _ _ _=>GDomain.mono) hd le1_3).2.2 i_5 a6)).2;haveI:=hd37_1.oneC;refine di ?_;refine c8 (cM rfl rfl rfl (fun w hw=>zdM _ w (hw.fr (i:=3) rfl) ((cI d i_5).Channels) (cI (cI cd i_5) 1) hd37_1 c)) ?_;refine fG ?_;refine cS ?_;refine T.cond rfl (fun h11=>?_) (fun h11=>?_)
       ·replace hk:=dy hk h11;refine jE ?_;refine q01 ?_;rintro _ _ ⟨g41,rfl,rfl⟩;refine fg ?_;refine eS (ed 1 rfl rfl rfl rfl b2) ?_;refine fG ?_;refine ep ?_;refine kL (fun w hw=>hw.freezeR (i:=4) (j:=0) a7 rfl rfl) ?_;rintro F5 ⟨le3_5,hz5⟩;refine iF ?_;have hf5:SlC F5.toFrz (.slice (some ⟨g41,0,none⟩) 1 1) 1 ([c].map eI):=(SlK.lit hz5 rfl (Nat.le_refl _) a7).toF (xs:=[c]) rfl (fun _=>rfl);refine K.pick [0,2,3] rfl a7 ?_;exact cP ((cI d i_5).Station,[c],(.slice (some ⟨g41,0,none⟩) 1 1),F5) ⟨hk,hf5,le3_5⟩ (.c (.c (.c (.c (.c (.c .nil)))))) (List.Sublist.refl _)
       ·replace hk:=dz hk h11;refine T.skip ?_;refine K.pick [0,2,3] rfl a7 ?_;exact cP ((cI d i_5).Station,[],(.slice none 0 0),F3) ⟨hk,(SlC.nil _ 1),(Frz.Le.refl _)⟩ (.c (.c (.c (.c (.c (.c .nil)))))) (List.Sublist.refl _)
      ·have p10:=of_decide_eq_false h10;replace hk:=dz hk h10;refine T.skip ?_;refine kL (fun w hw=>hw.freezeS (i:=3) (j:=1) a7 rfl rfl) ?_;rintro F6 ⟨le3_6,hz6⟩;refine iF ?_;have hf6:=hz6.toF rfl (fun _=>rfl);haveI:=hf6.oneC;exact cP ((cI d i_5).Station,([]++(cI d i_5).Channels),v26,F6) ⟨hk,hf6,le3_6⟩ (.c (.c (.c (.c (.c (.c .nil)))))) (List.Sublist.refl _)
     ·rintro ⟨c_7,c_8,vc_8,F4⟩ ⟨hk,hc_8,le3_4⟩; (try dsimp only at *);rw [←hk9] at hk; (try dsimp only at hk);have le1_4:=le1_3.trans le3_4;haveI:=hc_8.oneC;have hq:(dW (out_3++[(GDomain.mk c_7 c_8)]).length 32)∧_:=gQ hk;clear hk;obtain ⟨g46,hk⟩:=hq; (try dsimp only at hk);refine jE ?_;refine iN ?_;refine q01 ?_;rintro _ _ ⟨g45,rfl,rfl⟩;have hl45:OwnD cK F4.toFrz 2 [[.int .i64 c_7,vc_8]] [(GDomain.mk c_7 c_8)]:=(dn (OwnD.nil _ _ 2) ⟨_,rfl,hc_8⟩);refine c8 (j3 2 0 rfl rfl rfl rfl rfl rfl (zcG (ys:=[(GDomain.mk c_7 c_8)])) (zdc (cs:=cout_3) (ds:=[[.int .i64 c_7,vc_8]])) g46 a7) ?_;rintro v46 _ ⟨hv46,rfl⟩;have ho46:OwnD cK F4.toFrz 2 (cout_3++[[.int .i64 c_7,vc_8]]) (out_3++[(GDomain.mk c_7 c_8)]):=(dn (OwnD.mono (rep:=cK) (fun _ _ _ _=>GDomain.mono) hout_3 le3_4) ⟨_,rfl,hc_8⟩);refine di ?_;refine q38 ?_;rw [←hn4] at hk;refine K.pick [2,3] rfl a7 ?_;exact K.next ((i_5+1),(out_3++[(GDomain.mk c_7 c_8)]),v46,(cout_3++[[.int .i64 c_7,vc_8]]),F4) ⟨hk,ho46,inferInstance,le1_4⟩ (by dsimp only;omega) (.c (.c (.c (.c (.c .nil))))) (List.Sublist.refl _)
   ·have p6:=of_decide_eq_false h6;rw [fL a6,←hkk4] at hk; (try dsimp only at hk);refine fx ?_;exact q5k
 ·rintro ⟨out_1,vout_1,cout_1,F2⟩ ⟨hk,hout_1,oout_1,le1_2⟩; (try dsimp only at *);rw [←hk2] at hk; (try dsimp only at hk);refine iv ?_;refine gj ?_;refine kL (fun w hw=>hw.freezeS (i:=1) (j:=0) a7 rfl rfl) ?_;rintro F7 ⟨le2_7,hz7⟩;refine iF ?_;have le1_7:=le1_2.trans le2_7;have hf7:=hz7.toD (OwnD.mono (rep:=cK) (fun _ _ _ _=>GDomain.mono) hout_1 le2_7) rfl;haveI:=hf7.1.oneC;obtain rfl:=Option.some.inj hk;exact cV rfl rfl (fun w' hw=>⟨(vout_1,cout_1),F7.toFrz,hf7,rfl,gZ hw (i:=0) rfl hS0 le1_7⟩)
def mU (d:List GDomain)(s:Int)(c:Int):Option (List GDomain):=
 dQ (fun (out_1:List GDomain)=>
  some out_1)
 (fun k2=>
  dk (fun (i_5:Nat) (next4:List GDomain→Option (List GDomain)) (out_3:List GDomain)=>
   dQ (fun (s9:Int×List Int)=>
    eG (dW (out_3++[(GDomain.mk s9.1 s9.2)]).length 32) <|
    next4 (out_3++[(GDomain.mk s9.1 s9.2)]))
   (fun k9=>
    dk (fun (k_13:Nat) (next12:(Int×List Int)→Option (List GDomain)) (s12:Int×List Int)=>
     (bif ((decide (¬(cI d i_5).Station=s))||(decide (¬(cI ((cI d i_5).Channels) k_13)=c))) then
      eG (dW (s12.2++[(cI ((cI d i_5).Channels) k_13)]).length 8) <|
      next12 (s12.1,(s12.2++[(cI ((cI d i_5).Channels) k_13)]))
      else
      next12 (s12.1,s12.2)))
    (fun (s12:Int×List Int)=>
     k9 (s12.1,s12.2)) ((((cI d i_5).Channels).length) - 0) 0 ((cI d i_5).Station,[])))
  (fun (out_3:List GDomain)=>
   k2 out_3) (d.length - 0) 0 [])
theorem zih (F0:Frz)(w:World)(hF0:F0.At w)(d:List GDomain)(vd:Value)(cd:List (List Value))(hd:SlD cK F0 vd 2 cd d)(s:Int)(c:Int)(r:List GDomain)(hr:mU d s c=some r):Calls Tryz.prog 108 #[vd, .int .i64 s, .int .i64 c] w fun e w'=>∃(y:Value×List (List Value)) (G:Frz),(SlD cK G y.1 2 y.2 r)∧e= .returned (y.1)∧Fx F0 w G w':=by
 have hk:=hr;unfold mU at hk;haveI:=hd.1.oneC;obtain ⟨S0,F1,rfl,hS0,hp0⟩:=fk hF0;refine dA Tryz.func108 rfl rfl rfl hp0 ?_;refine kZ ?_;refine TL.slNil 59 2 ?_;refine lZ ?_;have hq:=eD hk;clear hk;obtain ⟨k2,hk2,hk⟩:=hq; (try dsimp only at hk);refine c6 (ι:=List GDomain×Value×List (List Value)×FzB w (fun _=>False) S0) (fun z=>[(7,z.2.1)]) (fun z=>[.sl z.2.1 59 2 z.1.length z.2.2.1.flatten, .fr z.2.2.2]) (fun z=>k2 z.1=some r∧OwnD cK z.2.2.2.toFrz 2 z.2.2.1 z.1∧OneC z.2.1∧F1.toFrz.Le z.2.2.2.toFrz) ?_ ?_
 ·have hq:=fJ hk;clear hk;obtain ⟨f4,kk4,hf4,hkk4,hk⟩:=hq;refine fe ?_;refine T.loop (ι:=Nat×List GDomain×Value×List (List Value)×FzB w (fun _=>False) S0) (fun z=>[(0,vd),(1, .int .i64 s),(2, .int .i64 c),(7,z.2.2.1),(8, .int .i64 (z.1:Int))]) (fun z=>[.sl z.2.2.1 59 2 z.2.1.length z.2.2.2.1.flatten, .fr z.2.2.2.2]) (fun z=>dk f4 kk4 (d.length - z.1) z.1 z.2.1=some r∧OwnD cK z.2.2.2.2.toFrz 2 z.2.2.2.1 z.2.1∧OneC z.2.2.1∧F1.toFrz.Le z.2.2.2.2.toFrz) (fun z=>d.length - z.1) (0,[],(.slice none 0 0),[],F1) ?_ ?_ ?_ ?_
  ·exact ⟨hk,(OwnD.nil _ _ 2),inferInstance,(Frz.Le.refl _)⟩
  ·exact mt
  ·exact eX
  ·rintro ⟨i_5,out_3,vout_3,cout_3,F3⟩ ⟨hk,hout_3,oout_3,le1_3⟩; (try dsimp only at *);refine q3u ?_;have hm13:d.length≤9223372036854775807:=(SlD.mono (rep:=cK) (fun _ _ _ _=>GDomain.mono) hd le1_3).2.1▸(SlD.mono (rep:=cK) (fun _ _ _ _=>GDomain.mono) hd le1_3).1.max;refine dM ?_;refine T.cond rfl (fun h6=>?_) (fun h6=>?_)
   ·have p6:=of_decide_eq_true h6;rw [fK a6] at hk;generalize hn4:dk f4 kk4 (d.length - (i_5+1)) (i_5+1)=next4 at hk;rw [←hf4] at hk; (try dsimp only at hk);refine na ?_;refine q0B ?_;refine cL (dq 1 (i:=i_5) (j:=0) rfl rfl rfl (SlD.mono (rep:=cK) (fun _ _ _ _=>GDomain.mono) hd le1_3).1 (SlD.mono (rep:=cK) (fun _ _ _ _=>GDomain.mono) hd le1_3).2.1 a6 rfl (GDomain.c0 ((SlD.mono (rep:=cK) (fun _ _ _ _=>GDomain.mono) hd le1_3).2.2 i_5 a6))) ?_;refine jo ?_;refine iD ?_;rintro _ _ ⟨g9,rfl,rfl⟩;refine TL.slNil 3 1 ?_;refine eS (dH 1) ?_;refine fG ?_;refine TL.slNil 3 1 ?_;refine lZ ?_;have hq:=eD hk;clear hk;obtain ⟨k9,hk9,hk⟩:=hq; (try dsimp only at hk);refine c6 (ι:=Int×List Int×Value) (fun z=>[(0,vd),(1, .int .i64 s),(2, .int .i64 c),(7,vout_3),(8, .int .i64 (i_5:Int)),(9, .pointer (some ⟨g9,0,none⟩))]) (fun z=>[.sl z.2.2 3 1 z.2.1.length (z.2.1.flatMap eI), .row g9 59 [.int .i64 z.1,z.2.2], .sl vout_3 59 2 out_3.length cout_3.flatten, .fr F3]) (fun z=>k9 (z.1,z.2.1)=some r∧OneC z.2.2) ?_ ?_
    ·have hq:=fJ hk;clear hk;obtain ⟨f12,kk12,hf12,hkk12,hk⟩:=hq;refine fe ?_;refine T.pick [0,2,3,4] rfl a7 ?_;refine T.loop (ι:=Nat×Int×List Int×Value) (fun z=>[(0,vd),(1, .int .i64 s),(2, .int .i64 c),(7,vout_3),(8, .int .i64 (i_5:Int)),(9, .pointer (some ⟨g9,0,none⟩)),(10, .int .i64 (z.1:Int))]) (fun z=>[.sl z.2.2.2 3 1 z.2.2.1.length (z.2.2.1.flatMap eI), .row g9 59 [.int .i64 z.2.1,z.2.2.2], .sl vout_3 59 2 out_3.length cout_3.flatten, .fr F3]) (fun z=>dk f12 kk12 ((((cI d i_5).Channels).length) - z.1) z.1 (z.2.1,z.2.2.1)=some r∧OneC z.2.2.2) (fun z=>(((cI d i_5).Channels).length) - z.1) (0,(cI d i_5).Station,[],(.slice none 0 0)) ?_ ?_ ?_ ?_
     ·exact ⟨hk,inferInstance⟩
     ·exact q41
     ·exact eX
     ·rintro ⟨k_13,c_10,c_11,vc_11⟩ ⟨hk,oc_11⟩; (try dsimp only at *);refine T.seq (df ?_);refine ft ?_;refine q1h ?_;have hd28_1:=(GDomain.c1 ((SlD.mono (rep:=cK) (fun _ _ _ _=>GDomain.mono) hd le1_3).2.2 i_5 a6)).2;haveI:=hd28_1.oneC;refine cL (dp rfl rfl hd28_1 (List.length_map _)) ?_;have hm29:((cI d i_5).Channels).length≤9223372036854775807:=(List.length_map _)▸hd28_1.max;refine dM ?_;refine T.cond rfl (fun h14=>?_) (fun h14=>?_)
      ·have p14:=of_decide_eq_true h14;rw [fK a6] at hk;generalize hn12:dk f12 kk12 ((((cI d i_5).Channels).length) - (k_13+1)) (k_13+1)=next12 at hk;rw [←hf12] at hk; (try dsimp only at hk);refine kB ?_;refine c6 (ι:=Unit) (fun z=>[(0,vd),(1, .int .i64 s),(2, .int .i64 c),(7,vout_3),(8, .int .i64 (i_5:Int)),(9, .pointer (some ⟨g9,0,none⟩)),(10, .int .i64 (k_13:Int)),(51, .bool ((decide (¬(cI d i_5).Station=s))||(decide (¬(cI ((cI d i_5).Channels) k_13)=c))))]) (fun z=>[.sl vc_11 3 1 c_11.length (c_11.flatMap eI), .row g9 59 [.int .i64 c_10,vc_11], .sl vout_3 59 2 out_3.length cout_3.flatten, .fr F3]) (fun z=>True) ?_ ?_
       ·refine ji ?_;refine q0B ?_;refine cL (dq 3 (i:=i_5) (j:=0) rfl rfl rfl (SlD.mono (rep:=cK) (fun _ _ _ _=>GDomain.mono) hd le1_3).1 (SlD.mono (rep:=cK) (fun _ _ _ _=>GDomain.mono) hd le1_3).2.1 a6 rfl (GDomain.c0 ((SlD.mono (rep:=cK) (fun _ _ _ _=>GDomain.mono) hd le1_3).2.2 i_5 a6))) ?_;refine ft ?_;refine dj rfl rfl rfl (fun h15=>?_) (fun h15=>?_)
        ·have p15:=of_decide_eq_true h15;refine TL.run 11 rfl ?_;refine ep ?_;exact cP () trivial (.c (.c (.c (.c (.c (.c (.c (.b (gk h15).symm .nil)))))))) (List.Sublist.refl _)
        ·have p15:=of_decide_eq_false h15;refine ef ?_;refine q1h ?_;refine di ?_;refine cL (dd (i:=k_13) rfl rfl rfl hd28_1 (List.length_map _) rfl a6) ?_;refine cL (dT 3 (i:=k_13) (j:=0) rfl rfl rfl hd28_1 a6) ?_;refine ft ?_;refine ep ?_;exact cP () trivial (.c (.c (.c (.c (.c (.c (.c (.b (f9 h15) .nil)))))))) (List.Sublist.refl _)
       ·rintro _ _;refine T.cond rfl (fun h16=>?_) (fun h16=>?_)
        ·replace hk:=dy hk h16;have hq:(dW (c_11++[(cI ((cI d i_5).Channels) k_13)]).length 8)∧_:=gQ hk;clear hk;obtain ⟨g63,hk⟩:=hq; (try dsimp only at hk);refine dF (.still 0 (.still 2 (.still 3 (.still 4 (.still 5 (.still 6 (.still 7 (.still 8 (.still 9 (.two 1 10 (.eff 10 (.eff 11 (.still 12 (.eff 13 .done)))) (.eff 1 (.eff 11 (.still 12 (.eff 13 .done)))))))))))))) [.sl vout_3 59 2 out_3.length cout_3.flatten, .fr F3] a8 Sx ?_;refine gg ?_;refine q2b ?_;refine eY ?_;refine cO rfl (dd (i:=k_13) rfl rfl rfl hd28_1 (List.length_map _) rfl a6) ?_;refine cO rfl (dT 1 (i:=k_13) (j:=0) rfl rfl rfl hd28_1 a6) ?_;refine TS.two ?_ ?_
         ·refine gh rfl (Wt.none) rfl rfl (cY 1) (fun w hw=>hw.sub Sx) ?_;refine dw ?_;refine mR ?_;rintro _ _ ⟨g62,rfl,rfl⟩;refine ka ?_;refine q2U ?_;rintro v63 _ ⟨hv63,rfl⟩;refine q3g ?_;rw [←hn12] at hk;refine K.pick [1,2,3,4] rfl a7 ?_;exact q5l
         ·refine mR ?_;rintro _ _ ⟨g62,rfl,rfl⟩;refine ka ?_;refine dw ?_;refine gh rfl (Wt.none) rfl rfl (cY 2) (fun w hw=>hw.sub Sx) ?_;refine q2U ?_;rintro v63 _ ⟨hv63,rfl⟩;refine q3g ?_;rw [←hn12] at hk;refine K.pick [1,2,3,4] rfl a7 ?_;exact q5l
        ·have p16:=h16; (try simp only [cT] at p16);replace hk:=dz hk h16;refine gY ?_;rw [←hn12] at hk;exact K.next ((k_13+1),c_10,c_11,vc_11) ⟨hk,inferInstance⟩ (by dsimp only;omega) (.c (.c (.c (.c (.c (.c (.c .nil))))))) (List.Sublist.refl _)
      ·have p14:=of_decide_eq_false h14;rw [fL a6,←hkk12] at hk; (try dsimp only at hk);refine fx ?_;exact cP (c_10,c_11,vc_11) ⟨hk,inferInstance⟩ (.c (.c (.c (.c (.c (.c .nil)))))) (List.Sublist.refl _)
    ·rintro ⟨c_7,c_8,vc_8⟩ ⟨hk,oc_8⟩; (try dsimp only at *);rw [←hk9] at hk; (try dsimp only at hk);refine kO (fun w hw=>hw.freezeS (i:=3) (j:=0) a7 rfl rfl) ?_;rintro F4 ⟨le3_4,hz4⟩;refine iF ?_;have le1_4:=le1_3.trans le3_4;have hf4:=hz4.toF rfl (fun _=>rfl);haveI:=hf4.oneC;have hq:(dW (out_3++[(GDomain.mk c_7 c_8)]).length 32)∧_:=gQ hk;clear hk;obtain ⟨g68,hk⟩:=hq; (try dsimp only at hk);refine jE ?_;refine iN ?_;refine q01 ?_;rintro _ _ ⟨g67,rfl,rfl⟩;have hl67:OwnD cK F4.toFrz 2 [[.int .i64 c_7,vc_8]] [(GDomain.mk c_7 c_8)]:=(dn (OwnD.nil _ _ 2) ⟨_,rfl,hf4⟩);refine c8 (j3 2 0 rfl rfl rfl rfl rfl rfl (zcG (ys:=[(GDomain.mk c_7 c_8)])) (zdc (cs:=cout_3) (ds:=[[.int .i64 c_7,vc_8]])) g68 a7) ?_;rintro v68 _ ⟨hv68,rfl⟩;have ho68:OwnD cK F4.toFrz 2 (cout_3++[[.int .i64 c_7,vc_8]]) (out_3++[(GDomain.mk c_7 c_8)]):=(dn (OwnD.mono (rep:=cK) (fun _ _ _ _=>GDomain.mono) hout_3 le3_4) ⟨_,rfl,hf4⟩);refine di ?_;refine q38 ?_;rw [←hn4] at hk;refine K.pick [2,3] rfl a7 ?_;exact K.next ((i_5+1),(out_3++[(GDomain.mk c_7 c_8)]),v68,(cout_3++[[.int .i64 c_7,vc_8]]),F4) ⟨hk,ho68,inferInstance,le1_4⟩ (by dsimp only;omega) (.c (.c (.c (.c (.c .nil))))) (List.Sublist.refl _)
   ·have p6:=of_decide_eq_false h6;rw [fL a6,←hkk4] at hk; (try dsimp only at hk);refine fx ?_;exact q5k
 ·rintro ⟨out_1,vout_1,cout_1,F2⟩ ⟨hk,hout_1,oout_1,le1_2⟩; (try dsimp only at *);rw [←hk2] at hk; (try dsimp only at hk);refine iv ?_;refine gj ?_;refine kL (fun w hw=>hw.freezeS (i:=1) (j:=0) a7 rfl rfl) ?_;rintro F5 ⟨le2_5,hz5⟩;refine iF ?_;have le1_5:=le1_2.trans le2_5;have hf5:=hz5.toD (OwnD.mono (rep:=cK) (fun _ _ _ _=>GDomain.mono) hout_1 le2_5) rfl;haveI:=hf5.1.oneC;obtain rfl:=Option.some.inj hk;exact cV rfl rfl (fun w' hw=>⟨(vout_1,cout_1),F5.toFrz,hf5,rfl,gZ hw (i:=0) rfl hS0 le1_5⟩)
def lc (low:Int)(c:Int)(high:Int):Bool:=
 ((decide (low≤c))&&(decide (c≤high)))
theorem zcl (F0:Frz)(w:World)(hF0:F0.At w)(low:Int)(c:Int)(high:Int):Calls Tryz.prog 167 #[.int .i64 low, .int .i64 c, .int .i64 high] w fun e w'=>e= .returned (.bool (lc low c high))∧Below w.heap.size w w':=by
 obtain ⟨r,hk⟩:∃r,lc low c high=r:=⟨_,rfl⟩;rw [hk];unfold lc at hk;obtain ⟨S0,F1,rfl,hS0,hp0⟩:=fk hF0;refine dA Tryz.func167 rfl rfl rfl hp0 ?_;refine fA ?_;refine c6 (ι:=Unit) (fun z=>[(6, .bool ((decide (low≤c))&&(decide (c≤high))))]) (fun z=>[.fr F1]) (fun z=>True) ?_ ?_
 ·refine fi ?_;refine kV ?_;refine dj rfl rfl rfl (fun h1=>?_) (fun h1=>?_)
  ·have p1:=of_decide_eq_true h1;refine mO ?_;exact q4P
  ·have p1:=of_decide_eq_false h1;refine mO ?_;exact q4K
 ·refine mM ?_;subst hk;exact eh
def lG (d:List GDomain)(station:Int)(channel:Int):Bool:=
 dQ (fun (_:Unit)=>
  true)
 (fun k1=>
  dk (fun (i_3:Nat) (next2:Unit→Bool) (_:Unit)=>
   dQ (fun (_:Unit)=>
    next2 ())
   (fun k5=>
    (bif decide (¬(cI d i_3).Station=station) then
     k5 ()
     else
     dk (fun (k_8:Nat) (next7:Unit→Bool) (_:Unit)=>
      (bif decide (¬(cI ((cI d i_3).Channels) k_8)=channel) then
       false
       else
       next7 ()))
     (fun (_:Unit)=>
      k5 ()) ((((cI d i_3).Channels).length) - 0) 0 ())))
  (fun (_:Unit)=>
   k1 ()) (d.length - 0) 0 ())
theorem zcW (F0:Frz)(w:World)(hF0:F0.At w)(d:List GDomain)(vd:Value)(cd:List (List Value))(hd:SlD cK F0 vd 2 cd d)(station:Int)(channel:Int):Calls Tryz.prog 152 #[vd, .int .i64 station, .int .i64 channel] w fun e w'=>e= .returned (.bool (lG d station channel))∧Below w.heap.size w w':=by
 obtain ⟨r,hk⟩:∃r,lG d station channel=r:=⟨_,rfl⟩;rw [hk];unfold lG at hk;haveI:=hd.1.oneC;obtain ⟨S0,F1,rfl,hS0,hp0⟩:=fk hF0;refine dA Tryz.func152 rfl rfl rfl hp0 ?_;refine gM ?_;refine lZ ?_;have hq:=eD hk;clear hk;obtain ⟨k1,hk1,hk⟩:=hq; (try dsimp only at hk);refine c6 (ι:=Unit) (fun z=>[]) (fun z=>[.fr F1]) (fun z=>k1 ()=r) ?_ ?_
 ·have hq:=fJ hk;clear hk;obtain ⟨f2,kk2,hf2,hkk2,hk⟩:=hq;refine fe ?_;refine T.loop (ι:=Nat) (fun z=>[(0,vd),(1, .int .i64 station),(2, .int .i64 channel),(7, .int .i64 (z:Int))]) (fun z=>[.fr F1]) (fun z=>dk f2 kk2 (d.length - z) z ()=r) (fun z=>d.length - z) 0 ?_ ?_ ?_ ?_
  ·exact hk
  ·exact mD
  ·exact eX
  ·rintro i_3 hk;refine iZ ?_;refine cL (dp rfl rfl hd.1 hd.2.1) ?_;have hm11:d.length≤9223372036854775807:=hd.2.1▸hd.1.max;refine dM ?_;refine T.cond rfl (fun h4=>?_) (fun h4=>?_)
   ·have p4:=of_decide_eq_true h4;rw [fK a6] at hk;generalize hn2:dk f2 kk2 (d.length - (i_3+1)) (i_3+1)=next2 at hk;rw [←hf2] at hk; (try dsimp only at hk);refine ke ?_;have hq:=eD hk;clear hk;obtain ⟨k5,hk5,hk⟩:=hq; (try dsimp only at hk);refine c6 (ι:=Unit) (fun z=>[(0,vd),(1, .int .i64 station),(2, .int .i64 channel),(7, .int .i64 (i_3:Int))]) (fun z=>[.fr F1]) (fun z=>k5 ()=r) ?_ ?_
    ·refine T.block (T.seq (df ?_));refine ef ?_;refine cL (dd (i:=i_3) rfl rfl rfl hd.1 hd.2.1 rfl a6) ?_;refine cL (em rfl rfl hd.1 hd.2.1 a6) ?_;refine cL (dq 0 (i:=i_3) (j:=0) rfl rfl rfl hd.1 hd.2.1 a6 rfl (GDomain.c0 (hd.2.2 i_3 a6))) ?_;refine jm ?_;refine T.cond rfl (fun h6=>?_) (fun h6=>?_)
     ·have p6:=of_decide_eq_true h6;replace hk:=dy hk h6;refine T.exit (ec (fU ?_));exact q46
     ·have p6:=of_decide_eq_false h6;replace hk:=dz hk h6;refine ja ?_;refine dM ?_;have hq:=fJ hk;clear hk;obtain ⟨f7,kk7,hf7,hkk7,hk⟩:=hq;refine fe ?_;refine T.loop (ι:=Nat) (fun z=>[(0,vd),(1, .int .i64 station),(2, .int .i64 channel),(7, .int .i64 (i_3:Int)),(8, .int .i64 (z:Int))]) (fun z=>[.fr F1]) (fun z=>dk f7 kk7 ((((cI d i_3).Channels).length) - z) z ()=r) (fun z=>(((cI d i_3).Channels).length) - z) 0 ?_ ?_ ?_ ?_
      ·exact hk
      ·exact mt
      ·exact eX
      ·rintro k_8 hk;refine T.seq (df ?_);refine ft ?_;refine q2N ?_;have hd27_1:=(GDomain.c1 (hd.2.2 i_3 a6)).2;haveI:=hd27_1.oneC;refine cL (dp rfl rfl hd27_1 (List.length_map _)) ?_;have hm28:((cI d i_3).Channels).length≤9223372036854775807:=(List.length_map _)▸hd27_1.max;refine dM ?_;refine T.cond rfl (fun h9=>?_) (fun h9=>?_)
       ·have p9:=of_decide_eq_true h9;rw [fK a6] at hk;generalize hn7:dk f7 kk7 ((((cI d i_3).Channels).length) - (k_8+1)) (k_8+1)=next7 at hk;rw [←hf7] at hk; (try dsimp only at hk);refine na ?_;refine q2N ?_;refine di ?_;refine cL (dd (i:=k_8) rfl rfl rfl hd27_1 (List.length_map _) rfl a6) ?_;refine cL (dT 0 (i:=k_8) (j:=0) rfl rfl rfl hd27_1 a6) ?_;refine jm ?_;refine T.cond rfl (fun h10=>?_) (fun h10=>?_)
        ·have p10:=of_decide_eq_true h10;replace hk:=dy hk h10;refine gM ?_;refine cS (T.ret (eu (dV (dV (eu (eu (dV (dV (eu (dV ?_))))))))));subst hk;exact eh
        ·have p10:=of_decide_eq_false h10;replace hk:=dz hk h10;refine gY ?_;rw [←hn7] at hk;exact K.next (k_8+1) hk a6 (.c (.c (.c (.c (.c .nil))))) (List.Sublist.refl _)
       ·have p9:=of_decide_eq_false h9;rw [fL a6,←hkk7] at hk; (try dsimp only at hk);refine q3P ?_;exact q46
    ·rintro _ hk;rw [←hk5] at hk; (try dsimp only at hk);refine jE ?_;refine jQ ?_;rw [←hn2] at hk;exact q42
   ·have p4:=of_decide_eq_false h4;rw [fL a6,←hkk2] at hk; (try dsimp only at hk);refine fx ?_;exact ks
 ·rintro _ hk;rw [←hk1] at hk; (try dsimp only at hk);refine kj ?_;subst hk;exact eh
def zbO (p:GProblem)(d:List GDomain)(s:Int)(c:Int):Bool:=
 dQ (fun (_:Unit)=>
  false)
 (fun k1=>
  dk (fun (i_3:Nat) (next2:Unit→Bool) (_:Unit)=>
   (bif (((decide ((cI p.Rules.Pairs i_3).A=s))&&(lc ((cI p.Rules.Pairs i_3).Low) c ((cI p.Rules.Pairs i_3).High)))&&(lG d ((cI p.Rules.Pairs i_3).B) (wI (c+((cI p.Rules.Pairs i_3).Offset))))) then
    true
    else
    (bif (((decide ((cI p.Rules.Pairs i_3).B=s))&&(lc ((cI p.Rules.Pairs i_3).Low) (wI (c - ((cI p.Rules.Pairs i_3).Offset))) ((cI p.Rules.Pairs i_3).High)))&&(lG d ((cI p.Rules.Pairs i_3).A) (wI (c - ((cI p.Rules.Pairs i_3).Offset))))) then
     true
     else
     next2 ())))
  (fun (_:Unit)=>
   k1 ()) (p.Rules.Pairs.length - 0) 0 ())
theorem zgT (F0:Frz)(w:World)(hF0:F0.At w)(p:GProblem)(vp_0:Value)(cp_0:List (List Value))(hp_0:SlD cK F0 vp_0 2 cp_0 p.Domains)(vp_1:Value)(hp_1:SlC F0 vp_1 5 (p.Rules.Pairs.map cX))(vp_2:Value)(hp_2:SlC F0 vp_2 5 (p.Rules.Loads.map c4))(vp_3:Value)(hp_3:SlC F0 vp_3 4 (p.Rules.Caps.map dg))(d:List GDomain)(vd:Value)(cd:List (List Value))(hd:SlD cK F0 vd 2 cd d)(s:Int)(c:Int):Calls Tryz.prog 153 #[.agg [vp_0,vp_1,vp_2,vp_3].toArray,vd, .int .i64 s, .int .i64 c] w fun e w'=>e= .returned (.bool (zbO p d s c))∧Below w.heap.size w w':=by
 obtain ⟨r,hk⟩:∃r,zbO p d s c=r:=⟨_,rfl⟩;rw [hk];unfold zbO at hk;haveI:=hp_0.1.oneC;haveI:=hp_1.oneC;haveI:=hp_2.oneC;haveI:=hp_3.oneC;haveI:=hd.1.oneC;obtain ⟨S0,F1,rfl,hS0,hp0⟩:=fk hF0;refine dA Tryz.func153 rfl rfl rfl hp0 ?_;refine iL ?_;rintro _ _ ⟨g4,rfl,rfl⟩;refine q4l ?_;have hq:=eD hk;clear hk;obtain ⟨k1,hk1,hk⟩:=hq; (try dsimp only at hk);refine c6 (ι:=Unit) (fun z=>[]) (fun z=>[.fr F1]) (fun z=>k1 ()=r) ?_ ?_
 ·have hq:=fJ hk;clear hk;obtain ⟨f2,kk2,hf2,hkk2,hk⟩:=hq;refine fe ?_;refine T.loop (ι:=Nat) (fun z=>[(1,vd),(2, .int .i64 s),(3, .int .i64 c),(4, .pointer (some ⟨g4,0,none⟩)),(9, .int .i64 (z:Int))]) (fun z=>[.row g4 31 [vp_0,vp_1,vp_2,vp_3], .fr F1]) (fun z=>dk f2 kk2 (p.Rules.Pairs.length - z) z ()=r) (fun z=>p.Rules.Pairs.length - z) 0 ?_ ?_ ?_ ?_
  ·exact hk
  ·exact mt
  ·exact eX
  ·rintro i_3 hk;refine q12 ?_;refine q4m ?_;have hm15:p.Rules.Pairs.length≤9223372036854775807:=(List.length_map _)▸hp_1.max;refine dM ?_;refine T.cond rfl (fun h4=>?_) (fun h4=>?_)
   ·have p4:=of_decide_eq_true h4;rw [fK a6] at hk;generalize hn2:dk f2 kk2 (p.Rules.Pairs.length - (i_3+1)) (i_3+1)=next2 at hk;rw [←hf2] at hk; (try dsimp only at hk);refine fS ?_;refine fg ?_;refine mQ ?_;refine cL (dd (i:=i_3) rfl rfl rfl hp_1 (List.length_map _) rfl a6) ?_;refine cL (et 1 (i:=i_3) rfl rfl rfl hp_1 a6) ?_;refine iD ?_;rintro _ _ ⟨g10,rfl,rfl⟩;refine jW ?_;refine cS (T.seq (T.seq ?_));refine c6 (ι:=Unit) (fun z=>[(1,vd),(2, .int .i64 s),(3, .int .i64 c),(4, .pointer (some ⟨g4,0,none⟩)),(9, .int .i64 (i_3:Int)),(10, .pointer (some ⟨g10,0,none⟩)),(46, .bool (((decide ((cI p.Rules.Pairs i_3).A=s))&&(lc ((cI p.Rules.Pairs i_3).Low) c ((cI p.Rules.Pairs i_3).High)))&&(lG d ((cI p.Rules.Pairs i_3).B) (wI (c+((cI p.Rules.Pairs i_3).Offset))))))]) (fun z=>[.row g10 69 [.int .i64 ((cI p.Rules.Pairs i_3).A), .int .i64 ((cI p.Rules.Pairs i_3).B), .int .i64 ((cI p.Rules.Pairs i_3).Offset), .int .i64 ((cI p.Rules.Pairs i_3).Low), .int .i64 ((cI p.Rules.Pairs i_3).High)], .row g4 31 [vp_0,vp_1,vp_2,vp_3], .fr F1]) (fun z=>True) ?_ ?_
    ·refine fi ?_;refine lr ?_;refine dj rfl rfl rfl (fun h5=>?_) (fun h5=>?_)
     ·have p5:=of_decide_eq_true h5;refine eB ?_;refine iP ?_;refine c8 (cM rfl rfl rfl (fun w hw=>zcl _ w (hw.fr (i:=2) rfl) ((cI p.Rules.Pairs i_3).Low) c ((cI p.Rules.Pairs i_3).High))) ?_;refine mz ?_;refine dj rfl rfl rfl (fun h6=>?_) (fun h6=>?_)
      ·refine iP ?_;refine iP ?_;refine di ?_;refine c8 (cM rfl rfl rfl (fun w hw=>zcW _ w (hw.fr (i:=2) rfl) d vd cd hd ((cI p.Rules.Pairs i_3).B) (wI (c+((cI p.Rules.Pairs i_3).Offset))))) ?_;refine mh ?_;refine ep ?_;exact cP () trivial (.c (.c (.c (.c (.c (.c (.b (jI (fE h5 h6)) .nil))))))) (List.Sublist.refl _)
      ·refine TL.run 9 rfl ?_;refine ep ?_;exact cP () trivial (.c (.c (.c (.c (.c (.c (.b (eH (fE h5 h6)).symm .nil))))))) (List.Sublist.refl _)
     ·have p5:=of_decide_eq_false h5;refine TL.run 17 rfl ?_;refine ep ?_;exact cP () trivial (.c (.c (.c (.c (.c (.c (.b (eH (eH h5)).symm .nil))))))) (List.Sublist.refl _)
    ·rintro _ _;refine T.cond rfl (fun h7=>?_) (fun h7=>?_)
     ·have p7:=h7; (try simp only [cT] at p7);replace hk:=dy hk h7;refine gM ?_;refine q3O ?_;subst hk;exact eh
     ·replace hk:=dz hk h7;refine ke ?_;refine c6 (ι:=Unit) (fun z=>[(1,vd),(2, .int .i64 s),(3, .int .i64 c),(4, .pointer (some ⟨g4,0,none⟩)),(9, .int .i64 (i_3:Int)),(71, .bool (((decide ((cI p.Rules.Pairs i_3).B=s))&&(lc ((cI p.Rules.Pairs i_3).Low) (wI (c - ((cI p.Rules.Pairs i_3).Offset))) ((cI p.Rules.Pairs i_3).High)))&&(lG d ((cI p.Rules.Pairs i_3).A) (wI (c - ((cI p.Rules.Pairs i_3).Offset))))))]) (fun z=>[.row g10 69 [.int .i64 ((cI p.Rules.Pairs i_3).A), .int .i64 ((cI p.Rules.Pairs i_3).B), .int .i64 ((cI p.Rules.Pairs i_3).Offset), .int .i64 ((cI p.Rules.Pairs i_3).Low), .int .i64 ((cI p.Rules.Pairs i_3).High)], .row g4 31 [vp_0,vp_1,vp_2,vp_3], .fr F1]) (fun z=>True) ?_ ?_
      ·refine fi ?_;refine lr ?_;refine dj rfl rfl rfl (fun h8=>?_) (fun h8=>?_)
       ·have p8:=of_decide_eq_true h8;refine eB ?_;refine iP ?_;refine iP ?_;refine c8 (cM rfl rfl rfl (fun w hw=>zcl _ w (hw.fr (i:=2) rfl) ((cI p.Rules.Pairs i_3).Low) (wI (c - ((cI p.Rules.Pairs i_3).Offset))) ((cI p.Rules.Pairs i_3).High))) ?_;refine mz ?_;refine dj rfl rfl rfl (fun h9=>?_) (fun h9=>?_)
        ·refine iP ?_;refine iP ?_;refine di ?_;refine c8 (cM rfl rfl rfl (fun w hw=>zcW _ w (hw.fr (i:=2) rfl) d vd cd hd ((cI p.Rules.Pairs i_3).A) (wI (c - ((cI p.Rules.Pairs i_3).Offset))))) ?_;refine mh ?_;refine ep ?_;exact cP () trivial (.c (.c (.c (.c (.c (.b (jI (fE h8 h9)) .nil)))))) (List.Sublist.refl _)
        ·refine TL.run 9 rfl ?_;refine ep ?_;exact cP () trivial (.c (.c (.c (.c (.c (.b (eH (fE h8 h9)).symm .nil)))))) (List.Sublist.refl _)
       ·have p8:=of_decide_eq_false h8;refine TL.run 20 rfl ?_;refine ep ?_;exact cP () trivial (.c (.c (.c (.c (.c (.b (eH (eH h8)).symm .nil)))))) (List.Sublist.refl _)
      ·rintro _ _;refine T.cond rfl (fun h10=>?_) (fun h10=>?_)
       ·have p10:=h10; (try simp only [cT] at p10);replace hk:=dy hk h10;refine iT ?_;subst hk;exact eh
       ·replace hk:=dz hk h10;refine gY ?_;rw [←hn2] at hk;refine lO ?_;exact q47
   ·have p4:=of_decide_eq_false h4;rw [fL a6,←hkk2] at hk; (try dsimp only at hk);refine ni ?_;exact ks
 ·rintro _ hk;rw [←hk1] at hk; (try dsimp only at hk);refine kj ?_;subst hk;exact eh
def nr (p:GProblem)(d:List GDomain)(to_:Int)(c:Int)(further:Int):Int:=
 dQ (fun (n_1:Int)=>
  n_1)
 (fun k2=>
  dk (fun (i_5:Nat) (next4:Int→Int) (n_3:Int)=>
   (bif (((decide ((cI p.Rules.Loads i_5).To=to_))&&(lc ((cI p.Rules.Loads i_5).Low) c ((cI p.Rules.Loads i_5).High)))&&((decide ((cI p.Rules.Loads i_5).From=further))||(lG d ((cI p.Rules.Loads i_5).From) c))) then
    next4 (wI (n_3+((cI p.Rules.Loads i_5).Weight)))
    else
    next4 n_3))
  (fun (n_3:Int)=>
   k2 n_3) (p.Rules.Loads.length - 0) 0 0)
theorem zgz (F0:Frz)(w:World)(hF0:F0.At w)(p:GProblem)(vp_0:Value)(cp_0:List (List Value))(hp_0:SlD cK F0 vp_0 2 cp_0 p.Domains)(vp_1:Value)(hp_1:SlC F0 vp_1 5 (p.Rules.Pairs.map cX))(vp_2:Value)(hp_2:SlC F0 vp_2 5 (p.Rules.Loads.map c4))(vp_3:Value)(hp_3:SlC F0 vp_3 4 (p.Rules.Caps.map dg))(d:List GDomain)(vd:Value)(cd:List (List Value))(hd:SlD cK F0 vd 2 cd d)(to_:Int)(c:Int)(further:Int):Calls Tryz.prog 155 #[.agg [vp_0,vp_1,vp_2,vp_3].toArray,vd, .int .i64 to_, .int .i64 c, .int .i64 further] w fun e w'=>e= .returned (.int .i64 (nr p d to_ c further))∧Below w.heap.size w w':=by
 obtain ⟨r,hk⟩:∃r,nr p d to_ c further=r:=⟨_,rfl⟩;rw [hk];unfold nr at hk;haveI:=hp_0.1.oneC;haveI:=hp_1.oneC;haveI:=hp_2.oneC;haveI:=hp_3.oneC;haveI:=hd.1.oneC;obtain ⟨S0,F1,rfl,hS0,hp0⟩:=fk hF0;refine dA Tryz.func155 rfl rfl rfl hp0 ?_;refine iL ?_;rintro _ _ ⟨g5,rfl,rfl⟩;refine gn ?_;refine q4l ?_;have hq:=eD hk;clear hk;obtain ⟨k2,hk2,hk⟩:=hq; (try dsimp only at hk);refine c6 (ι:=Int) (fun z=>[(11, .int .i64 z)]) (fun z=>[.fr F1]) (fun z=>k2 z=r) ?_ ?_
 ·have hq:=fJ hk;clear hk;obtain ⟨f4,kk4,hf4,hkk4,hk⟩:=hq;refine fe ?_;refine T.loop (ι:=Nat×Int) (fun z=>[(1,vd),(2, .int .i64 to_),(3, .int .i64 c),(4, .int .i64 further),(5, .pointer (some ⟨g5,0,none⟩)),(11, .int .i64 z.2),(12, .int .i64 (z.1:Int))]) (fun z=>[.row g5 31 [vp_0,vp_1,vp_2,vp_3], .fr F1]) (fun z=>dk f4 kk4 (p.Rules.Loads.length - z.1) z.1 z.2=r) (fun z=>p.Rules.Loads.length - z.1) (0,0) ?_ ?_ ?_ ?_
  ·exact hk
  ·exact q41
  ·exact eX
  ·rintro ⟨i_5,n_3⟩ hk; (try dsimp only at *);refine q3y ?_;have hm18:p.Rules.Loads.length≤9223372036854775807:=(List.length_map _)▸hp_2.max;refine dM ?_;refine T.cond rfl (fun h6=>?_) (fun h6=>?_)
   ·have p6:=of_decide_eq_true h6;rw [fK a6] at hk;generalize hn4:dk f4 kk4 (p.Rules.Loads.length - (i_5+1)) (i_5+1)=next4 at hk;rw [←hf4] at hk; (try dsimp only at hk);refine q24 ?_;rintro _ _ ⟨g13,rfl,rfl⟩;refine ms ?_;refine c6 (ι:=Unit) (fun z=>[(1,vd),(2, .int .i64 to_),(3, .int .i64 c),(4, .int .i64 further),(5, .pointer (some ⟨g5,0,none⟩)),(11, .int .i64 n_3),(12, .int .i64 (i_5:Int)),(13, .pointer (some ⟨g13,0,none⟩)),(52, .bool (((decide ((cI p.Rules.Loads i_5).To=to_))&&(lc ((cI p.Rules.Loads i_5).Low) c ((cI p.Rules.Loads i_5).High)))&&((decide ((cI p.Rules.Loads i_5).From=further))||(lG d ((cI p.Rules.Loads i_5).From) c))))]) (fun z=>[.row g13 71 [.int .i64 ((cI p.Rules.Loads i_5).To), .int .i64 ((cI p.Rules.Loads i_5).From), .int .i64 ((cI p.Rules.Loads i_5).Weight), .int .i64 ((cI p.Rules.Loads i_5).Low), .int .i64 ((cI p.Rules.Loads i_5).High)], .row g5 31 [vp_0,vp_1,vp_2,vp_3], .fr F1]) (fun z=>True) ?_ ?_
    ·refine fi ?_;refine lr ?_;refine dj rfl rfl rfl (fun h7=>?_) (fun h7=>?_)
     ·have p7:=of_decide_eq_true h7;refine eB ?_;refine iP ?_;refine c8 (cM rfl rfl rfl (fun w hw=>zcl _ w (hw.fr (i:=2) rfl) ((cI p.Rules.Loads i_5).Low) c ((cI p.Rules.Loads i_5).High))) ?_;refine mz ?_;refine dj rfl rfl rfl (fun h8=>?_) (fun h8=>?_)
      ·refine lr ?_;refine dj rfl rfl rfl (fun h9=>?_) (fun h9=>?_)
       ·have p9:=of_decide_eq_true h9;refine TL.run 7 rfl ?_;refine ep ?_;exact cP () trivial (.c (.c (.c (.c (.c (.c (.c (.c (.b (fE (fE h7 h8) (gk h9)).symm .nil))))))))) (List.Sublist.refl _)
       ·have p9:=of_decide_eq_false h9;refine iP ?_;refine di ?_;refine c8 (cM rfl rfl rfl (fun w hw=>zcW _ w (hw.fr (i:=2) rfl) d vd cd hd ((cI p.Rules.Loads i_5).From) c)) ?_;refine q4n ?_;exact cP () trivial (.c (.c (.c (.c (.c (.c (.c (.c (.b (Eq.trans (f9 h9) (jI (fE h7 h8))) .nil))))))))) (List.Sublist.refl _)
      ·refine TL.run 12 rfl ?_;refine ep ?_;exact cP () trivial (.c (.c (.c (.c (.c (.c (.c (.c (.b (eH (fE h7 h8)).symm .nil))))))))) (List.Sublist.refl _)
     ·have p7:=of_decide_eq_false h7;refine TL.run 20 rfl ?_;refine ep ?_;exact cP () trivial (.c (.c (.c (.c (.c (.c (.c (.c (.b (eH (eH h7)).symm .nil))))))))) (List.Sublist.refl _)
    ·rintro _ _;refine T.cond rfl (fun h10=>?_) (fun h10=>?_)
     ·have p10:=h10; (try simp only [cT] at p10);replace hk:=dy hk h10;refine fi ?_;refine iP ?_;refine ef ?_;refine q38 ?_;rw [←hn4] at hk;refine lO ?_;exact K.next ((i_5+1),wI (n_3+((cI p.Rules.Loads i_5).Weight))) hk (by dsimp only;omega) (.c (.c (.c (.c (.c (.c (.c .nil))))))) (List.Sublist.refl _)
     ·replace hk:=dz hk h10;refine gY ?_;rw [←hn4] at hk;refine lO ?_;exact K.next ((i_5+1),n_3) hk (by dsimp only;omega) (.c (.c (.c (.c (.c (.c (.c .nil))))))) (List.Sublist.refl _)
   ·have p6:=of_decide_eq_false h6;rw [fL a6,←hkk4] at hk; (try dsimp only at hk);refine ni ?_;exact cP n_3 hk (.c .nil) (List.Sublist.refl _)
 ·rintro n_1 hk;rw [←hk2] at hk; (try dsimp only at hk);refine iv ?_;refine gj ?_;subst hk;exact eh
def zbI (p:GProblem)(station:Int)(c:Int)(loss:Int):Bool:=
 dQ (fun (_:Unit)=>
  false)
 (fun k1=>
  dk (fun (i_3:Nat) (next2:Unit→Bool) (_:Unit)=>
   (bif (((decide ((cI p.Rules.Caps i_3).Station=station))&&(lc ((cI p.Rules.Caps i_3).Low) c ((cI p.Rules.Caps i_3).High)))&&(decide ((cI p.Rules.Caps i_3).Max<loss))) then
    true
    else
    next2 ()))
  (fun (_:Unit)=>
   k1 ()) (p.Rules.Caps.length - 0) 0 ())
theorem zfH (F0:Frz)(w:World)(hF0:F0.At w)(p:GProblem)(vp_0:Value)(cp_0:List (List Value))(hp_0:SlD cK F0 vp_0 2 cp_0 p.Domains)(vp_1:Value)(hp_1:SlC F0 vp_1 5 (p.Rules.Pairs.map cX))(vp_2:Value)(hp_2:SlC F0 vp_2 5 (p.Rules.Loads.map c4))(vp_3:Value)(hp_3:SlC F0 vp_3 4 (p.Rules.Caps.map dg))(station:Int)(c:Int)(loss:Int):Calls Tryz.prog 154 #[.agg [vp_0,vp_1,vp_2,vp_3].toArray, .int .i64 station, .int .i64 c, .int .i64 loss] w fun e w'=>e= .returned (.bool (zbI p station c loss))∧Below w.heap.size w w':=by
 obtain ⟨r,hk⟩:∃r,zbI p station c loss=r:=⟨_,rfl⟩;rw [hk];unfold zbI at hk;haveI:=hp_0.1.oneC;haveI:=hp_1.oneC;haveI:=hp_2.oneC;haveI:=hp_3.oneC;obtain ⟨S0,F1,rfl,hS0,hp0⟩:=fk hF0;refine dA Tryz.func154 rfl rfl rfl hp0 ?_;refine iL ?_;rintro _ _ ⟨g4,rfl,rfl⟩;refine q4l ?_;have hq:=eD hk;clear hk;obtain ⟨k1,hk1,hk⟩:=hq; (try dsimp only at hk);refine c6 (ι:=Unit) (fun z=>[]) (fun z=>[.fr F1]) (fun z=>k1 ()=r) ?_ ?_
 ·have hq:=fJ hk;clear hk;obtain ⟨f2,kk2,hf2,hkk2,hk⟩:=hq;refine fe ?_;refine T.loop (ι:=Nat) (fun z=>[(1, .int .i64 station),(2, .int .i64 c),(3, .int .i64 loss),(4, .pointer (some ⟨g4,0,none⟩)),(9, .int .i64 (z:Int))]) (fun z=>[.row g4 31 [vp_0,vp_1,vp_2,vp_3], .fr F1]) (fun z=>dk f2 kk2 (p.Rules.Caps.length - z) z ()=r) (fun z=>p.Rules.Caps.length - z) 0 ?_ ?_ ?_ ?_
  ·exact hk
  ·exact mt
  ·exact eX
  ·rintro i_3 hk;refine q12 ?_;refine q4o ?_;have hm15:p.Rules.Caps.length≤9223372036854775807:=(List.length_map _)▸hp_3.max;refine dM ?_;refine T.cond rfl (fun h4=>?_) (fun h4=>?_)
   ·have p4:=of_decide_eq_true h4;rw [fK a6] at hk;generalize hn2:dk f2 kk2 (p.Rules.Caps.length - (i_3+1)) (i_3+1)=next2 at hk;rw [←hf2] at hk; (try dsimp only at hk);refine fS ?_;refine fg ?_;refine mQ ?_;refine cL (dd (i:=i_3) rfl rfl rfl hp_3 (List.length_map _) rfl a6) ?_;refine cL (et 1 (i:=i_3) rfl rfl rfl hp_3 a6) ?_;refine iD ?_;rintro _ _ ⟨g10,rfl,rfl⟩;refine ms ?_;refine c6 (ι:=Unit) (fun z=>[(1, .int .i64 station),(2, .int .i64 c),(3, .int .i64 loss),(4, .pointer (some ⟨g4,0,none⟩)),(9, .int .i64 (i_3:Int)),(42, .bool (((decide ((cI p.Rules.Caps i_3).Station=station))&&(lc ((cI p.Rules.Caps i_3).Low) c ((cI p.Rules.Caps i_3).High)))&&(decide ((cI p.Rules.Caps i_3).Max<loss))))]) (fun z=>[.row g10 73 [.int .i64 ((cI p.Rules.Caps i_3).Station), .int .i64 ((cI p.Rules.Caps i_3).Max), .int .i64 ((cI p.Rules.Caps i_3).Low), .int .i64 ((cI p.Rules.Caps i_3).High)], .row g4 31 [vp_0,vp_1,vp_2,vp_3], .fr F1]) (fun z=>True) ?_ ?_
    ·refine fi ?_;refine lr ?_;refine dj rfl rfl rfl (fun h5=>?_) (fun h5=>?_)
     ·have p5:=of_decide_eq_true h5;refine eB ?_;refine iP ?_;refine c8 (cM rfl rfl rfl (fun w hw=>zcl _ w (hw.fr (i:=2) rfl) ((cI p.Rules.Caps i_3).Low) c ((cI p.Rules.Caps i_3).High))) ?_;refine mz ?_;refine dj rfl rfl rfl (fun h6=>?_) (fun h6=>?_)
      ·refine iP ?_;refine ef ?_;refine ep ?_;exact cP () trivial (.c (.c (.c (.c (.c (.b (jI (fE h5 h6)) .nil)))))) (List.Sublist.refl _)
      ·refine mO ?_;exact cP () trivial (.c (.c (.c (.c (.c (.b (eH (fE h5 h6)).symm .nil)))))) (List.Sublist.refl _)
     ·have p5:=of_decide_eq_false h5;refine TL.run 13 rfl ?_;refine ep ?_;exact cP () trivial (.c (.c (.c (.c (.c (.b (eH (eH h5)).symm .nil)))))) (List.Sublist.refl _)
    ·rintro _ _;refine T.cond rfl (fun h7=>?_) (fun h7=>?_)
     ·have p7:=h7; (try simp only [cT] at p7);replace hk:=dy hk h7;refine iT ?_;subst hk;exact eh
     ·replace hk:=dz hk h7;refine gY ?_;rw [←hn2] at hk;refine lO ?_;exact q47
   ·have p4:=of_decide_eq_false h4;rw [fL a6,←hkk2] at hk; (try dsimp only at hk);refine ni ?_;exact ks
 ·rintro _ hk;rw [←hk1] at hk; (try dsimp only at hk);refine kj ?_;subst hk;exact eh
def zbL (p:GProblem)(d:List GDomain)(s:Int)(c:Int):Bool:=
 dQ (fun (_:Unit)=>
  false)
 (fun k1=>
  dk (fun (i_3:Nat) (next2:Unit→Bool) (_:Unit)=>
   (bif ((((decide ((cI p.Rules.Loads i_3).From=s))&&(lc ((cI p.Rules.Loads i_3).Low) c ((cI p.Rules.Loads i_3).High)))&&(lG d ((cI p.Rules.Loads i_3).To) c))&&(zbI p ((cI p.Rules.Loads i_3).To) c (nr p d ((cI p.Rules.Loads i_3).To) c s))) then
    true
    else
    next2 ()))
  (fun (_:Unit)=>
   k1 ()) (p.Rules.Loads.length - 0) 0 ())
theorem zgU (F0:Frz)(w:World)(hF0:F0.At w)(p:GProblem)(vp_0:Value)(cp_0:List (List Value))(hp_0:SlD cK F0 vp_0 2 cp_0 p.Domains)(vp_1:Value)(hp_1:SlC F0 vp_1 5 (p.Rules.Pairs.map cX))(vp_2:Value)(hp_2:SlC F0 vp_2 5 (p.Rules.Loads.map c4))(vp_3:Value)(hp_3:SlC F0 vp_3 4 (p.Rules.Caps.map dg))(d:List GDomain)(vd:Value)(cd:List (List Value))(hd:SlD cK F0 vd 2 cd d)(s:Int)(c:Int):Calls Tryz.prog 156 #[.agg [vp_0,vp_1,vp_2,vp_3].toArray,vd, .int .i64 s, .int .i64 c] w fun e w'=>e= .returned (.bool (zbL p d s c))∧Below w.heap.size w w':=by
 obtain ⟨r,hk⟩:∃r,zbL p d s c=r:=⟨_,rfl⟩;rw [hk];unfold zbL at hk;haveI:=hp_0.1.oneC;haveI:=hp_1.oneC;haveI:=hp_2.oneC;haveI:=hp_3.oneC;haveI:=hd.1.oneC;obtain ⟨S0,F1,rfl,hS0,hp0⟩:=fk hF0;refine dA Tryz.func156 rfl rfl rfl hp0 ?_;refine iL ?_;rintro _ _ ⟨g4,rfl,rfl⟩;refine q4l ?_;have hq:=eD hk;clear hk;obtain ⟨k1,hk1,hk⟩:=hq; (try dsimp only at hk);refine c6 (ι:=Unit) (fun z=>[]) (fun z=>[.fr F1]) (fun z=>k1 ()=r) ?_ ?_
 ·have hq:=fJ hk;clear hk;obtain ⟨f2,kk2,hf2,hkk2,hk⟩:=hq;refine fe ?_;refine T.loop (ι:=Nat) (fun z=>[(1,vd),(2, .int .i64 s),(3, .int .i64 c),(4, .pointer (some ⟨g4,0,none⟩)),(9, .int .i64 (z:Int))]) (fun z=>[.row g4 31 [vp_0,vp_1,vp_2,vp_3], .fr F1]) (fun z=>dk f2 kk2 (p.Rules.Loads.length - z) z ()=r) (fun z=>p.Rules.Loads.length - z) 0 ?_ ?_ ?_ ?_
  ·exact hk
  ·exact mt
  ·exact eX
  ·rintro i_3 hk;refine q3y ?_;have hm15:p.Rules.Loads.length≤9223372036854775807:=(List.length_map _)▸hp_2.max;refine dM ?_;refine T.cond rfl (fun h4=>?_) (fun h4=>?_)
   ·have p4:=of_decide_eq_true h4;rw [fK a6] at hk;generalize hn2:dk f2 kk2 (p.Rules.Loads.length - (i_3+1)) (i_3+1)=next2 at hk;rw [←hf2] at hk; (try dsimp only at hk);refine fS ?_;refine fg ?_;refine mQ ?_;refine cL (dd (i:=i_3) rfl rfl rfl hp_2 (List.length_map _) rfl a6) ?_;refine cL (et 1 (i:=i_3) rfl rfl rfl hp_2 a6) ?_;refine iD ?_;rintro _ _ ⟨g10,rfl,rfl⟩;refine ms ?_;refine c6 (ι:=Unit) (fun z=>[(1,vd),(2, .int .i64 s),(3, .int .i64 c),(4, .pointer (some ⟨g4,0,none⟩)),(9, .int .i64 (i_3:Int)),(57, .bool ((((decide ((cI p.Rules.Loads i_3).From=s))&&(lc ((cI p.Rules.Loads i_3).Low) c ((cI p.Rules.Loads i_3).High)))&&(lG d ((cI p.Rules.Loads i_3).To) c))&&(zbI p ((cI p.Rules.Loads i_3).To) c (nr p d ((cI p.Rules.Loads i_3).To) c s))))]) (fun z=>[.row g10 71 [.int .i64 ((cI p.Rules.Loads i_3).To), .int .i64 ((cI p.Rules.Loads i_3).From), .int .i64 ((cI p.Rules.Loads i_3).Weight), .int .i64 ((cI p.Rules.Loads i_3).Low), .int .i64 ((cI p.Rules.Loads i_3).High)], .row g4 31 [vp_0,vp_1,vp_2,vp_3], .fr F1]) (fun z=>True) ?_ ?_
    ·refine dF (sN 0 10 (.eff 10 (sN 11 6 (.eff 17 (sN 18 12 (.eff 30 (.eff 31 (.still 32 .done)))))))) _ a8 (List.Sublist.refl _) ?_;refine q4p ?_;refine dt rfl rfl rfl rfl (fun h5=>?_) (fun h5=>?_)
     ·have p5:=of_decide_eq_true h5;refine lB ?_;refine lR ?_;refine cR rfl (Wt.some) rfl rfl (cM rfl rfl rfl (fun w hw=>zcl _ w (hw.fr (i:=2) rfl) ((cI p.Rules.Loads i_3).Low) c ((cI p.Rules.Loads i_3).High))) ?_;refine q4k ?_;refine dt rfl rfl rfl rfl (fun h6=>?_) (fun h6=>?_)
      ·refine eY ?_;refine lB ?_;refine dw ?_;refine cR rfl (Wt.some) rfl rfl (cM rfl rfl rfl (fun w hw=>zcW _ w (hw.fr (i:=2) rfl) d vd cd hd ((cI p.Rules.Loads i_3).To) c)) ?_;refine q4k ?_;refine dt rfl rfl rfl rfl (fun h7=>?_) (fun h7=>?_)
       ·refine q3c ?_;refine lB ?_;refine q3c ?_;refine eY ?_;refine gm ?_;refine gG ?_;refine dw ?_;refine cR rfl (Wt.some) rfl rfl (cM rfl rfl rfl (fun w hw=>zgz _ w (hw.fr (i:=2) rfl) p vp_0 cp_0 hp_0 vp_1 hp_1 vp_2 hp_2 vp_3 hp_3 d vd cd hd ((cI p.Rules.Loads i_3).To) c s)) ?_;refine gJ ?_;refine dw ?_;refine cR rfl (Wt.some) rfl rfl (cM rfl rfl rfl (fun w hw=>zfH _ w (hw.fr (i:=2) rfl) p vp_0 cp_0 hp_0 vp_1 hp_1 vp_2 hp_2 vp_3 hp_3 ((cI p.Rules.Loads i_3).To) c (nr p d ((cI p.Rules.Loads i_3).To) c s))) ?_;refine gJ ?_;refine j9 ?_;exact cP () trivial (.c (.c (.c (.c (.c (.b (jI (fE (fE h5 h6) h7)) .nil)))))) (List.Sublist.refl _)
       ·refine TS.run 10 rfl ?_;refine gK ?_;refine gK ?_;refine j9 ?_;exact cP () trivial (.c (.c (.c (.c (.c (.b (eH (fE (fE h5 h6) h7)).symm .nil)))))) (List.Sublist.refl _)
      ·refine TS.run 4 rfl ?_;refine gK ?_;refine TS.run 12 rfl ?_;refine gK ?_;refine gK ?_;refine j9 ?_;exact cP () trivial (.c (.c (.c (.c (.c (.b (eH (eH (fE h5 h6))).symm .nil)))))) (List.Sublist.refl _)
     ·have p5:=of_decide_eq_false h5;refine TS.run 5 rfl ?_;refine gK ?_;refine TS.run 6 rfl ?_;refine gK ?_;refine TS.run 12 rfl ?_;refine gK ?_;refine gK ?_;refine j9 ?_;exact cP () trivial (.c (.c (.c (.c (.c (.b (eH (eH (eH h5))).symm .nil)))))) (List.Sublist.refl _)
    ·rintro _ _;refine T.cond rfl (fun h8=>?_) (fun h8=>?_)
     ·have p8:=h8; (try simp only [cT] at p8);replace hk:=dy hk h8;refine iT ?_;subst hk;exact eh
     ·replace hk:=dz hk h8;refine gY ?_;rw [←hn2] at hk;refine lO ?_;exact q47
   ·have p4:=of_decide_eq_false h4;rw [fL a6,←hkk2] at hk; (try dsimp only at hk);refine ni ?_;exact ks
 ·rintro _ hk;rw [←hk1] at hk; (try dsimp only at hk);refine kj ?_;subst hk;exact eh
def zbh (p:GProblem)(d:List GDomain)(s:Int)(c:Int):Bool:=
 (((zbO p d s c)||(zbI p s c (nr p d s c (-1))))||(zbL p d s c))
theorem zgN (F0:Frz)(w:World)(hF0:F0.At w)(p:GProblem)(vp_0:Value)(cp_0:List (List Value))(hp_0:SlD cK F0 vp_0 2 cp_0 p.Domains)(vp_1:Value)(hp_1:SlC F0 vp_1 5 (p.Rules.Pairs.map cX))(vp_2:Value)(hp_2:SlC F0 vp_2 5 (p.Rules.Loads.map c4))(vp_3:Value)(hp_3:SlC F0 vp_3 4 (p.Rules.Caps.map dg))(d:List GDomain)(vd:Value)(cd:List (List Value))(hd:SlD cK F0 vd 2 cd d)(s:Int)(c:Int):Calls Tryz.prog 131 #[.agg [vp_0,vp_1,vp_2,vp_3].toArray,vd, .int .i64 s, .int .i64 c] w fun e w'=>e= .returned (.bool (zbh p d s c))∧Below w.heap.size w w':=by
 obtain ⟨r,hk⟩:∃r,zbh p d s c=r:=⟨_,rfl⟩;rw [hk];unfold zbh at hk;haveI:=hp_0.1.oneC;haveI:=hp_1.oneC;haveI:=hp_2.oneC;haveI:=hp_3.oneC;haveI:=hd.1.oneC;obtain ⟨S0,F1,rfl,hS0,hp0⟩:=fk hF0;refine dA Tryz.func131 rfl rfl rfl hp0 ?_;refine iL ?_;rintro _ _ ⟨g4,rfl,rfl⟩;refine jr ?_;refine c6 (ι:=Unit) (fun z=>[(8, .bool (((zbO p d s c)||(zbI p s c (nr p d s c (-1))))||(zbL p d s c)))]) (fun z=>[.row g4 31 [vp_0,vp_1,vp_2,vp_3], .fr F1]) (fun z=>True) ?_ ?_
 ·refine dF (sN 0 4 (.eff 4 (sN 5 8 (.eff 13 (.eff 14 (sN 15 6 (.eff 21 (.still 22 (.still 23 .done))))))))) _ a8 (List.Sublist.refl _) ?_;refine jf ?_;refine ik ?_;refine dw ?_;refine cR rfl (Wt.none) rfl rfl (cM rfl rfl rfl (fun w hw=>zgT _ w (hw.fr (i:=1) rfl) p vp_0 cp_0 hp_0 vp_1 hp_1 vp_2 hp_2 vp_3 hp_3 d vd cd hd s c)) ?_;refine gJ ?_;refine eY ?_;refine dt rfl rfl rfl rfl (fun h1=>?_) (fun h1=>?_)
  ·refine q2Z ?_;refine gK ?_;refine TS.run 6 rfl ?_;refine gK ?_;refine jt ?_;exact cP () trivial (.b (gk (gk h1)).symm .nil) (List.Sublist.refl _)
  ·refine jf ?_;refine gG ?_;refine jf ?_;refine ik ?_;refine dw ?_;refine cR rfl (Wt.some) rfl rfl (cM rfl rfl rfl (fun w hw=>zgz _ w (hw.fr (i:=1) rfl) p vp_0 cp_0 hp_0 vp_1 hp_1 vp_2 hp_2 vp_3 hp_3 d vd cd hd s c (-1))) ?_;refine gJ ?_;refine dw ?_;refine cR rfl (Wt.some) rfl rfl (cM rfl rfl rfl (fun w hw=>zfH _ w (hw.fr (i:=1) rfl) p vp_0 cp_0 hp_0 vp_1 hp_1 vp_2 hp_2 vp_3 hp_3 s c (nr p d s c (-1)))) ?_;refine q4k ?_;refine dt rfl rfl rfl rfl (fun h2=>?_) (fun h2=>?_)
   ·refine TS.run 4 rfl ?_;refine gK ?_;refine jt ?_;exact cP () trivial (.b (gk (iE h1 h2)).symm .nil) (List.Sublist.refl _)
   ·refine jf ?_;refine ik ?_;refine dw ?_;refine cR rfl (Wt.some) rfl rfl (cM rfl rfl rfl (fun w hw=>zgU _ w (hw.fr (i:=1) rfl) p vp_0 cp_0 hp_0 vp_1 hp_1 vp_2 hp_2 vp_3 hp_3 d vd cd hd s c)) ?_;refine gJ ?_;refine jt ?_;exact cP () trivial (.b (f9 (iE h1 h2)) .nil) (List.Sublist.refl _)
 ·refine mM ?_;subst hk;exact eh
theorem zmE {l:List Int}{n:Int}:l6 l n=l.any fun k=>decide (k=n):=by
 unfold l6;refine ku ?_;rw [zej (fun i=>decide (cI l i=n)) (fun i next _=>?_),zdz (q:=fun k=>decide (k=n)),Bool.or_false]
 cases decide (cI l i=n) <;> rfl
def iQ (d:List GDomain)(s c:Int):Bool:=d.all fun x=>(decide (¬x.Station=s)||x.Channels.all fun k=>decide (k=c))
theorem zjU {d:List GDomain}{s c:Int}:lG d s c=iQ d s c:=by
 unfold lG iQ;refine ku ?_;rw [zec (fun i=>(decide (¬(cI d i).Station=s)||(cI d i).Channels.all fun k=>decide (k=c))) (fun i next _=>?_),zij (l:=d) (q:=fun x=>(decide (¬x.Station=s)||x.Channels.all fun k=>decide (k=c))),Bool.and_true];rw [zec (fun k=>decide (cI (cI d i).Channels k=c)) (fun k nx _=>?_),zij (q:=fun k=>decide (k=c))]
 ·cases decide (¬(cI d i).Station=s) <;> rfl
 ·by_cases h:cI (cI d i).Channels k=c <;> simp [h]
theorem zf2 {a b c:Int}:lc a b c=decide (a≤b∧b≤c):=by
 unfold lc;by_cases h1:a≤b <;> by_cases h2:b≤c <;> simp [h1,h2]
def mL (d:List GDomain)(s c:Int)(x:GPair):Bool:=(decide (x.A=s)&&decide (x.Low≤c∧c≤x.High)&&iQ d x.B (wI (c+x.Offset)))||(decide (x.B=s)&&decide (x.Low≤wI (c - x.Offset)∧wI (c - x.Offset)≤x.High)&&iQ d x.A (wI (c - x.Offset)))
theorem zmJ {p:GProblem}{d:List GDomain}{s c:Int}:zbO p d s c=p.Rules.Pairs.any (mL d s c):=by
 unfold zbO;simp only [dQ,Nat.sub_zero,zjU,zf2];rw [zej (fun i=>mL d s c (cI p.Rules.Pairs i)) (fun i next _=>?_),zdz (q:=mL d s c),Bool.or_false];unfold mL;generalize (decide ((cI p.Rules.Pairs i).A=s)&&decide ((cI p.Rules.Pairs i).Low≤c∧c≤(cI p.Rules.Pairs i).High)&&iQ d (cI p.Rules.Pairs i).B (wI (c+(cI p.Rules.Pairs i).Offset)))=a
 cases a
 ·rw [cond_false,Bool.false_or];generalize (decide ((cI p.Rules.Pairs i).B=s)&&decide ((cI p.Rules.Pairs i).Low≤wI (c - (cI p.Rules.Pairs i).Offset)∧wI (c - (cI p.Rules.Pairs i).Offset)≤(cI p.Rules.Pairs i).High)&&iQ d (cI p.Rules.Pairs i).A (wI (c - (cI p.Rules.Pairs i).Offset)))=b
  cases b <;> rfl
 ·rfl
def loadC (d:List GDomain)(t c f:Int)(x:GLoad):Bool:=decide (x.To=t)&&decide (x.Low≤c∧c≤x.High)&&(decide (x.From=f)||iQ d x.From c)
def ii (p:GProblem)(d:List GDomain)(t c f:Int):Int:=p.Rules.Loads.foldl (fun n x=>bif loadC d t c f x then wI (n+x.Weight) else n) 0
theorem zoG {p:GProblem}{d:List GDomain}{t c f:Int}:nr p d t c f=ii p d t c f:=by
 unfold nr ii;simp only [dQ,Nat.sub_zero,zjU,zf2];rw [zhh (fun i n=>bif loadC d t c f (cI p.Rules.Loads i) then wI (n+(cI p.Rules.Loads i).Weight) else n) (fun i next n _=>?_),zdj (g:=fun n x=>bif loadC d t c f x then wI (n+x.Weight) else n)];unfold loadC;generalize (decide ((cI p.Rules.Loads i).To=t)&&decide ((cI p.Rules.Loads i).Low≤c∧c≤(cI p.Rules.Loads i).High)&&(decide ((cI p.Rules.Loads i).From=f)||iQ d (cI p.Rules.Loads i).From c))=a
 cases a <;> rfl
def kP (p:GProblem)(s c l:Int):Bool:=p.Rules.Caps.any fun x=>decide (x.Station=s)&&decide (x.Low≤c∧c≤x.High)&&decide (x.Max<l)
theorem znq {p:GProblem}{s c l:Int}:zbI p s c l=kP p s c l:=by
 unfold zbI kP;simp only [dQ,Nat.sub_zero,zf2];rw [zej (fun i=>decide ((cI p.Rules.Caps i).Station=s)&&decide ((cI p.Rules.Caps i).Low≤c∧c≤(cI p.Rules.Caps i).High)&&decide ((cI p.Rules.Caps i).Max<l)) (fun i next _=>?_),zdz (l:=p.Rules.Caps) (q:=fun x=>decide (x.Station=s)&&decide (x.Low≤c∧c≤x.High)&&decide (x.Max<l)),Bool.or_false];generalize (decide ((cI p.Rules.Caps i).Station=s)&&decide ((cI p.Rules.Caps i).Low≤c∧c≤(cI p.Rules.Caps i).High)&&decide ((cI p.Rules.Caps i).Max<l))=a
 cases a <;> rfl
def loadR (p:GProblem)(d:List GDomain)(s c:Int)(x:GLoad):Bool:=decide (x.From=s)&&decide (x.Low≤c∧c≤x.High)&&iQ d x.To c&&kP p x.To c (ii p d x.To c s)
theorem zm1 {p:GProblem}{d:List GDomain}{s c:Int}:zbL p d s c=p.Rules.Loads.any (loadR p d s c):=by
 unfold zbL;simp only [dQ,Nat.sub_zero,zjU,zf2,znq,zoG];rw [zej (fun i=>loadR p d s c (cI p.Rules.Loads i)) (fun i next _=>?_),zdz (q:=loadR p d s c),Bool.or_false];unfold loadR;generalize (decide ((cI p.Rules.Loads i).From=s)&&decide ((cI p.Rules.Loads i).Low≤c∧c≤(cI p.Rules.Loads i).High)&&iQ d (cI p.Rules.Loads i).To c&&kP p (cI p.Rules.Loads i).To c (ii p d (cI p.Rules.Loads i).To c s))=a
 cases a <;> rfl
def iA (p:GProblem)(d:List GDomain)(s c:Int):Bool:=p.Rules.Pairs.any (mL d s c)||kP p s c (ii p d s c (-1))||p.Rules.Loads.any (loadR p d s c)
theorem zie {p:GProblem}{d:List GDomain}{s c:Int}:zbh p d s c=iA p d s c:=by
 unfold zbh iA;rw [zmJ,znq,zoG,zm1]
def je (s c:Int)(x:GDomain):GDomain:=⟨x.Station,x.Channels.filter fun k=>decide (¬x.Station=s)||decide (¬k=c)⟩
theorem zmf {d:List GDomain}{s c:Int}(hd:d.length≤100000)(hc:∀x∈d,x.Channels.length≤100000):mU d s c=some (d.map (je s c)):=by
 unfold mU;refine ku ?_;refine (zdh (fun i out=>out.length=i) (fun i out=>out++[je s c (cI d i)]) rfl (fun i out _ h=>by simp [h]) (fun i next out hi hl=>?_)).1.trans ?_
 ·have hci:=hc (cI d i) (by rw [d9 hi];exact List.getElem_mem _);refine (zdh (fun k (t:Int×List Int)=>t.2.length≤k) (fun k t=>(t.1,bif (decide (¬(cI d i).Station=s)||decide (¬cI (cI d i).Channels k=c)) then t.2++[cI (cI d i).Channels k] else t.2)) (by exact Nat.le_refl 0) (fun k t _ h=>?_) (fun k nx t hk ht=>?_)).1.trans ?_
  ·(try dsimp only)
   cases (decide (¬(cI d i).Station=s)||decide (¬cI (cI d i).Channels k=c)) <;> simp <;> omega
  ·(try dsimp only)
   cases (decide (¬(cI d i).Station=s)||decide (¬cI (cI d i).Channels k=c))
   ·rfl
   ·exact fN (by simp only [dW,List.length_append,List.length_singleton];omega)
  ·rw [zk7 (g:=fun t k=>bif (decide (¬(cI d i).Station=s)||decide (¬cI (cI d i).Channels k=c)) then t++[cI (cI d i).Channels k] else t),zdj (l:=(cI d i).Channels) (g:=fun t k=>bif (decide (¬(cI d i).Station=s)||decide (¬k=c)) then t++[k] else t),zkI (g:=fun k=>k)];rw [fN (by simp only [dW,List.length_append,List.length_singleton];omega)];simp [je]
 ·rw [zdj (l:=d) (g:=fun out x=>out++[je s c x]),zhf];rfl
def i5 (s c:Int)(x:GDomain):GDomain:=⟨x.Station,bif decide (x.Station=s) then (bif x.Channels.any (fun k=>decide (k=c)) then [c] else []) else x.Channels⟩
theorem zmp {d:List GDomain}{s c:Int}(hd:d.length≤100000)(hc:∀x∈d,x.Channels.length≤100000):zbE d s c=some (d.map (i5 s c)):=by
 unfold zbE;simp only [dQ,Nat.sub_zero,zmE];refine (zdh (fun i out=>out.length=i) (fun i out=>out++[i5 s c (cI d i)]) rfl (fun i out _ h=>by simp [h]) (fun i next out hi hl=>?_)).1.trans ?_
 ·have hci:=hc (cI d i) (by rw [d9 hi];exact List.getElem_mem _);rw [fN (by simp only [dW,List.nil_append];omega)]; (have hr:∀y:GDomain,dW (out++[y]).length 32:=fun y=>by simp only [dW,List.length_append,List.length_singleton];omega);simp only [fN (hr _),i5]
  cases decide ((cI d i).Station=s) <;> cases ((cI d i).Channels.any fun k=>decide (k=c)) <;> rfl
 ·rw [zdj (l:=d) (g:=fun out x=>out++[i5 s c x]),zhf];rfl
end Go.Proofs.YtgoeeefoinkepaaGreatDoor
