/- Ya Yd Cb: shortened and put together by squeeze.py. -/
import Derived.Test.YtgoeeefoinkepaaGreatDoorQ02
set_option maxRecDepth 100000
set_option maxHeartbeats 4000000
set_option linter.unusedVariables false
set_option linter.unusedSectionVars false
set_option linter.unusedSimpArgs false
namespace Go.Proofs.YtgoeeefoinkepaaGreatDoor
open Go.RowKit
structure GChoice where
 Station:Int
 Channel:Int
deriving DecidableEq,Inhabited
abbrev cG (x:GChoice):List Value:=[.int .i64 x.Station, .int .i64 x.Channel]
theorem GChoice.len (x:GChoice):(cG x).length=2:=rfl
structure GDomain where
 Station:Int
 Channels:List Int
deriving DecidableEq,Inhabited
def cJ (F:Frz)(c:List Value)(x:GDomain):Prop:=∃(v1:Value),c=[.int .i64 x.Station,v1]∧SlC F v1 1 (x.Channels.map eI)
theorem GDomain.mono {F G:Frz}{c:List Value}{x:GDomain}(hle:F.Le G)(h:cJ F c x):cJ G c x:=by
 obtain ⟨v1,h0,h2⟩:=h;exact ⟨v1,h0,h2.mono hle⟩
theorem GDomain.len {F:Frz}{c:List Value}{x:GDomain}(h:cJ F c x):c.length=2:=by
 obtain ⟨v1,h0,h2⟩:=h;subst h0;rfl
theorem GDomain.one {F:Frz}{c:List Value}{x:GDomain}(h:cJ F c x):OneCs c:=by
 obtain ⟨v1,h0,h2⟩:=h;subst h0;haveI:=h2.oneC
 infer_instance
theorem GDomain.c0 {F:Frz}{c:List Value}{x:GDomain}(h:cJ F c x):c[0]?=some (.int .i64 x.Station):=by
 obtain ⟨v1,h0,h2⟩:=h;subst h0;rfl
theorem GDomain.c1 {F:Frz}{c:List Value}{x:GDomain}(h:cJ F c x):c[1]?=some (cH c 1)∧SlC F (cH c 1) 1 (x.Channels.map eI):=by
 obtain ⟨v1,h0,h2⟩:=h;subst h0;exact ⟨rfl,h2⟩
theorem eZ {F:Frz}{c:List Value}{x:GDomain}(h:cJ F c x):(c.drop 0).take 2=[.int .i64 x.Station,cH c 1]:=by
 obtain ⟨v1,h0,h2⟩:=h;subst h0;rfl
structure GPair where
 A:Int
 B:Int
 Offset:Int
 Low:Int
 High:Int
deriving DecidableEq,Inhabited
abbrev cY (x:GPair):List Value:=[.int .i64 x.A, .int .i64 x.B, .int .i64 x.Offset, .int .i64 x.Low, .int .i64 x.High]
theorem GPair.len (x:GPair):(cY x).length=5:=rfl
structure GLoad where
 To:Int
 From:Int
 Weight:Int
 Low:Int
 High:Int
deriving DecidableEq,Inhabited
abbrev c4 (x:GLoad):List Value:=[.int .i64 x.To, .int .i64 x.From, .int .i64 x.Weight, .int .i64 x.Low, .int .i64 x.High]
theorem GLoad.len (x:GLoad):(c4 x).length=5:=rfl
structure GCap where
 Station:Int
 Max:Int
 Low:Int
 High:Int
deriving DecidableEq,Inhabited
abbrev dk (x:GCap):List Value:=[.int .i64 x.Station, .int .i64 x.Max, .int .i64 x.Low, .int .i64 x.High]
theorem GCap.len (x:GCap):(dk x).length=4:=rfl
structure GRules where
 Pairs:List GPair
 Loads:List GLoad
 Caps:List GCap
deriving DecidableEq,Inhabited
def eh (F:Frz)(c:List Value)(x:GRules):Prop:=∃(v0:Value) (v1:Value) (v2:Value),c=[v0,v1,v2]∧SlC F v0 5 (x.Pairs.map cY)∧SlC F v1 5 (x.Loads.map c4)∧SlC F v2 4 (x.Caps.map dk)
theorem GRules.mono {F G:Frz}{c:List Value}{x:GRules}(hle:F.Le G)(h:eh F c x):eh G c x:=by
 obtain ⟨v0,v1,v2,h0,h1,h2,h3⟩:=h;exact ⟨v0,v1,v2,h0,h1.mono hle,h2.mono hle,h3.mono hle⟩
theorem GRules.len {F:Frz}{c:List Value}{x:GRules}(h:eh F c x):c.length=3:=by
 obtain ⟨v0,v1,v2,h0,h1,h2,h3⟩:=h;subst h0;rfl
theorem GRules.one {F:Frz}{c:List Value}{x:GRules}(h:eh F c x):OneCs c:=by
 obtain ⟨v0,v1,v2,h0,h1,h2,h3⟩:=h;subst h0;haveI:=h1.oneC;haveI:=h2.oneC;haveI:=h3.oneC
 infer_instance
theorem GRules.c0 {F:Frz}{c:List Value}{x:GRules}(h:eh F c x):c[0]?=some (cH c 0)∧SlC F (cH c 0) 5 (x.Pairs.map cY):=by
 obtain ⟨v0,v1,v2,h0,h1,h2,h3⟩:=h;subst h0;exact ⟨rfl,h1⟩
theorem GRules.c1 {F:Frz}{c:List Value}{x:GRules}(h:eh F c x):c[1]?=some (cH c 1)∧SlC F (cH c 1) 5 (x.Loads.map c4):=by
 obtain ⟨v0,v1,v2,h0,h1,h2,h3⟩:=h;subst h0;exact ⟨rfl,h2⟩
theorem GRules.c2 {F:Frz}{c:List Value}{x:GRules}(h:eh F c x):c[2]?=some (cH c 2)∧SlC F (cH c 2) 4 (x.Caps.map dk):=by
 obtain ⟨v0,v1,v2,h0,h1,h2,h3⟩:=h;subst h0;exact ⟨rfl,h3⟩
theorem GRules.form {F:Frz}{c:List Value}{x:GRules}(h:eh F c x):(c.drop 0).take 3=[cH c 0,cH c 1,cH c 2]:=by
 obtain ⟨v0,v1,v2,h0,h1,h2,h3⟩:=h;subst h0;rfl
structure GProblem where
 Domains:List GDomain
 Rules:GRules
deriving DecidableEq,Inhabited
def dR (F:Frz)(c:List Value)(x:GProblem):Prop:=∃(v0:Value) (cs0:List (List Value)) (v1:Value) (v2:Value) (v3:Value),c=[v0,v1,v2,v3]∧SlD cJ F v0 2 cs0 x.Domains∧SlC F v1 5 (x.Rules.Pairs.map cY)∧SlC F v2 5 (x.Rules.Loads.map c4)∧SlC F v3 4 (x.Rules.Caps.map dk)
theorem GProblem.mono {F G:Frz}{c:List Value}{x:GProblem}(hle:F.Le G)(h:dR F c x):dR G c x:=by
 obtain ⟨v0,cs0,v1,v2,v3,h0,h1,h2,h3,h4⟩:=h;exact ⟨v0,cs0,v1,v2,v3,h0,SlD.mono (rep:=cJ) (fun _ _ _ _=>GDomain.mono) h1 hle,h2.mono hle,h3.mono hle,h4.mono hle⟩
theorem GProblem.len {F:Frz}{c:List Value}{x:GProblem}(h:dR F c x):c.length=4:=by
 obtain ⟨v0,cs0,v1,v2,v3,h0,h1,h2,h3,h4⟩:=h;subst h0;rfl
theorem GProblem.one {F:Frz}{c:List Value}{x:GProblem}(h:dR F c x):OneCs c:=by
 obtain ⟨v0,cs0,v1,v2,v3,h0,h1,h2,h3,h4⟩:=h;subst h0;haveI:=h1.1.oneC;haveI:=h2.oneC;haveI:=h3.oneC;haveI:=h4.oneC
 infer_instance
theorem GProblem.c0 {F:Frz}{c:List Value}{x:GProblem}(h:dR F c x):c[0]?=some (cH c 0)∧∃cs,SlD cJ F (cH c 0) 2 cs x.Domains:=by
 obtain ⟨v0,cs0,v1,v2,v3,h0,h1,h2,h3,h4⟩:=h;subst h0;exact ⟨rfl,cs0,h1⟩
theorem GProblem.c1 {F:Frz}{c:List Value}{x:GProblem}(h:dR F c x):c[1]?=some (cH c 1)∧SlC F (cH c 1) 5 (x.Rules.Pairs.map cY):=by
 obtain ⟨v0,cs0,v1,v2,v3,h0,h1,h2,h3,h4⟩:=h;subst h0;exact ⟨rfl,h2⟩
theorem GProblem.c2 {F:Frz}{c:List Value}{x:GProblem}(h:dR F c x):c[2]?=some (cH c 2)∧SlC F (cH c 2) 5 (x.Rules.Loads.map c4):=by
 obtain ⟨v0,cs0,v1,v2,v3,h0,h1,h2,h3,h4⟩:=h;subst h0;exact ⟨rfl,h3⟩
theorem GProblem.c3 {F:Frz}{c:List Value}{x:GProblem}(h:dR F c x):c[3]?=some (cH c 3)∧SlC F (cH c 3) 4 (x.Rules.Caps.map dk):=by
 obtain ⟨v0,cs0,v1,v2,v3,h0,h1,h2,h3,h4⟩:=h;subst h0;exact ⟨rfl,h4⟩
theorem GProblem.form {F:Frz}{c:List Value}{x:GProblem}(h:dR F c x):(c.drop 0).take 4=[cH c 0,cH c 1,cH c 2,cH c 3]:=by
 obtain ⟨v0,cs0,v1,v2,v3,h0,h1,h2,h3,h4⟩:=h;subst h0;rfl
def ko (n:Int):Bool:=
 ((decide (0≤n))&&(decide (n≤511)))
theorem zbv (F0:Frz)(w:World)(hF0:F0.At w)(n:Int):Calls Tryz.prog 31 #[.int .i64 n] w fun e w'=>e= .returned (.bool (ko n))∧Below w.heap.size w w':=by
 obtain ⟨r,hk⟩:∃r,ko n=r:=⟨_,rfl⟩;rw [hk];unfold ko at hk;obtain ⟨S0,F1,rfl,hS0,hp0⟩:=fx hF0;refine dz Tryz.func31 rfl rfl rfl hp0 ?_;refine fB ?_;refine dc (ι:=Unit) (fun z=>[(2, .bool ((decide (0≤n))&&(decide (n≤511))))]) (fun z=>[.fr F1]) (fun z=>True) ?_ ?_
 ·refine q4l ?_;refine dB rfl rfl rfl (fun h1=>?_) (fun h1=>?_)
  ·have p1:=of_decide_eq_true h1;refine nb ?_;exact q4V
  ·have p1:=of_decide_eq_false h1;refine nb ?_;exact q4I
 ·rintro _ _;refine T.ret ?_;subst hk;exact eA
def zaO (l:List GChoice):Bool:=
 dV (fun (_:Unit)=>
  true)
 (fun k1=>
  di (fun (i_3:Nat) (next2:Unit→Bool) (_:Unit)=>
   (bif ((((!(ko ((cH l i_3).Station)))||(decide ((cH l i_3).Channel<2)))||(decide (51<(cH l i_3).Channel)))||((decide (0<(i_3:Int)))&&(decide ((cH l i_3).Station≤(cH l (((i_3:Int) - 1).toNat)).Station)))) then
    false
    else
    next2 ()))
  (fun (_:Unit)=>
   k1 ()) (l.length - 0) 0 ())
theorem zfs (F0:Frz)(w:World)(hF0:F0.At w)(l:List GChoice)(vl:Value)(hl:SlC F0 vl 2 (l.map cG)):Calls Tryz.prog 12 #[vl] w fun e w'=>e= .returned (.bool (zaO l))∧Below w.heap.size w w':=by
 obtain ⟨r,hk⟩:∃r,zaO l=r:=⟨_,rfl⟩;rw [hk];unfold zaO at hk;haveI:=hl.oneC;obtain ⟨S0,F1,rfl,hS0,hp0⟩:=fx hF0;refine dz Tryz.func12 rfl rfl rfl hp0 ?_;refine gX ?_;refine lD ?_;have hq:=eE hk;clear hk;obtain ⟨k1,hk1,hk⟩:=hq; (try dsimp only at hk);refine dc (ι:=Unit) (fun z=>[]) (fun z=>[.fr F1]) (fun z=>k1 ()=r) ?_ ?_
 ·have hq:=fJ hk;clear hk;obtain ⟨f2,kk2,hf2,hkk2,hk⟩:=hq;refine eY ?_;refine T.loop (ι:=Nat) (fun z=>[(0,vl),(3, .int .i64 (z:Int))]) (fun z=>[.fr F1]) (fun z=>di f2 kk2 (l.length - z) z ()=r) (fun z=>l.length - z) 0 ?_ ?_ ?_ ?_
  ·exact hk
  ·exact q4D
  ·exact eN
  ·rintro i_3 hk;refine im ?_;refine q2Z ?_;have hm6:l.length≤9223372036854775807:=(List.length_map _)▸hl.max;refine dJ ?_;refine T.cond rfl (fun h4=>?_) (fun h4=>?_)
   ·have p4:=of_decide_eq_true h4;rw [fK a6] at hk;generalize hn2:di f2 kk2 (l.length - (i_3+1)) (i_3+1)=next2 at hk;rw [←hf2] at hk; (try dsimp only at hk);refine ki ?_;refine dc (ι:=Unit) (fun z=>[(0,vl),(3, .int .i64 (i_3:Int)),(50, .bool ((((!(ko ((cH l i_3).Station)))||(decide ((cH l i_3).Channel<2)))||(decide (51<(cH l i_3).Channel)))||((decide (0<(i_3:Int)))&&(decide ((cH l i_3).Station≤(cH l (((i_3:Int) - 1).toNat)).Station)))))]) (fun z=>[.fr F1]) (fun z=>True) ?_ ?_
    ·refine dH (sN 0 5 (.eff 5 (sN 6 34 (.still 40 .done)))) _ a8 (List.Sublist.refl _) ?_;refine q1z ?_;refine cN rfl (dT 0 (i:=i_3) (j:=0) rfl rfl rfl hl a6) ?_;refine dt ?_;refine cQ rfl (Wt.none) rfl rfl (cL rfl rfl rfl (fun w hw=>zbv _ w (hw.fr (i:=0) rfl) ((cH l i_3).Station))) ?_;refine mb ?_;refine dw rfl rfl rfl rfl (fun h5=>?_) (fun h5=>?_)
     ·refine TS.run 33 rfl ?_;refine eX ?_;exact cO () trivial (.c (.c (.b (fW (fW (fW h5))).symm .nil))) (List.Sublist.refl _)
     ·refine q1z ?_;refine cN rfl (dT 0 (i:=i_3) (j:=1) rfl rfl rfl hl a6) ?_;refine fM ?_;refine dw rfl rfl rfl rfl (fun h6=>?_) (fun h6=>?_)
      ·have p6:=of_decide_eq_true h6;refine TS.run 25 rfl ?_;refine eX ?_;exact cO () trivial (.c (.c (.b (fW (fW (gU h5 h6))).symm .nil))) (List.Sublist.refl _)
      ·have p6:=of_decide_eq_false h6;refine q1z ?_;refine cN rfl (dT 0 (i:=i_3) (j:=1) rfl rfl rfl hl a6) ?_;refine fM ?_;refine dw rfl rfl rfl rfl (fun h7=>?_) (fun h7=>?_)
       ·have p7:=of_decide_eq_true h7;refine TS.run 17 rfl ?_;refine eX ?_;exact cO () trivial (.c (.c (.b (fW (gU (gU h5 h6) h7)).symm .nil))) (List.Sublist.refl _)
       ·have p7:=of_decide_eq_false h7;refine fM ?_;refine dw rfl rfl rfl rfl (fun h8=>?_) (fun h8=>?_)
        ·have p8:=of_decide_eq_true h8;refine q25 ?_;refine cN rfl (dT 0 (i:=((i_3:Int) - 1).toNat) (j:=0) rfl rfl rfl hl a6) ?_;refine q1z ?_;refine cN rfl (dT 0 (i:=i_3) (j:=0) rfl rfl rfl hl a6) ?_;refine fM ?_;refine eX ?_;exact cO () trivial (.c (.c (.b (Eq.trans (kI h8) (gH (gU (gU h5 h6) h7))) .nil))) (List.Sublist.refl _)
        ·have p8:=of_decide_eq_false h8;refine TS.run 14 rfl ?_;refine eX ?_;exact cO () trivial (.c (.c (.b (gU (gU (gU h5 h6) h7) (gh h8)).symm .nil))) (List.Sublist.refl _)
    ·rintro _ _;refine T.cond rfl (fun h9=>?_) (fun h9=>?_)
     ·replace hk:=dC hk h9;refine iX ?_;subst hk;exact eA
     ·have p9:=h9; (try simp only [cS] at p9);replace hk:=dD hk h9;refine gV ?_;rw [←hn2] at hk;exact K.next (i_3+1) hk a6 (.c (.c .nil)) (List.Sublist.refl _)
   ·have p4:=of_decide_eq_false h4;rw [fL a6,←hkk2] at hk; (try dsimp only at hk);refine ft ?_;exact kv
 ·rintro _ hk;rw [←hk1] at hk; (try dsimp only at hk);refine kn ?_;subst hk;exact eA
def zaV (a:List GChoice)(b:List GChoice):Bool:=
 (bif decide (¬(a.length:Int)=(b.length:Int)) then
  false
  else
  dV (fun (_:Unit)=>
   true)
  (fun k2=>
   di (fun (i_4:Nat) (next3:Unit→Bool) (_:Unit)=>
    (bif !(decide ((cH a i_4).Station=(cH b i_4).Station)&&decide ((cH a i_4).Channel=(cH b i_4).Channel)) then
     false
     else
     next3 ()))
   (fun (_:Unit)=>
    k2 ()) (a.length - 0) 0 ()))
theorem zc2 (F0:Frz)(w:World)(hF0:F0.At w)(a:List GChoice)(va:Value)(ha:SlC F0 va 2 (a.map cG))(b:List GChoice)(vb:Value)(hb:SlC F0 vb 2 (b.map cG)):Calls Tryz.prog 16 #[va,vb] w fun e w'=>e= .returned (.bool (zaV a b))∧Below w.heap.size w w':=by
 obtain ⟨r,hk⟩:∃r,zaV a b=r:=⟨_,rfl⟩;rw [hk];unfold zaV at hk;haveI:=ha.oneC;haveI:=hb.oneC;obtain ⟨S0,F1,rfl,hS0,hp0⟩:=fx hF0;refine dz Tryz.func16 rfl rfl rfl hp0 ?_;refine jE ?_;refine cK (dg rfl rfl ha (List.length_map _)) ?_;have hm7:a.length≤9223372036854775807:=(List.length_map _)▸ha.max;refine dn ?_;refine cK (dg rfl rfl hb (List.length_map _)) ?_;have hm9:b.length≤9223372036854775807:=(List.length_map _)▸hb.max;refine dJ ?_;refine T.cond rfl (fun h1=>?_) (fun h1=>?_)
 ·have p1:=of_decide_eq_true h1;replace hk:=dC hk h1;refine jc ?_;subst hk;exact eA
 ·have p1:=of_decide_eq_false h1;replace hk:=dD hk h1;refine ku ?_;refine dJ ?_;have hq:=eE hk;clear hk;obtain ⟨k2,hk2,hk⟩:=hq; (try dsimp only at hk);refine dc (ι:=Unit) (fun z=>[]) (fun z=>[.fr F1]) (fun z=>k2 ()=r) ?_ ?_
  ·have hq:=fJ hk;clear hk;obtain ⟨f3,kk3,hf3,hkk3,hk⟩:=hq;refine eY ?_;refine T.loop (ι:=Nat) (fun z=>[(0,va),(1,vb),(5, .int .i64 (z:Int))]) (fun z=>[.fr F1]) (fun z=>di f3 kk3 (a.length - z) z ()=r) (fun z=>a.length - z) 0 ?_ ?_ ?_ ?_
   ·exact hk
   ·exact mr
   ·exact eN
   ·rintro i_4 hk;refine im ?_;refine cK (dg rfl rfl ha (List.length_map _)) ?_;refine dJ ?_;refine T.cond rfl (fun h5=>?_) (fun h5=>?_)
    ·have p5:=of_decide_eq_true h5;rw [fK a6] at hk;generalize hn3:di f3 kk3 (a.length - (i_4+1)) (i_4+1)=next3 at hk;rw [←hf3] at hk; (try dsimp only at hk);refine ki ?_;refine q2h ?_;refine fj ?_;refine cN rfl (c7 (i:=i_4) rfl rfl rfl ha (List.length_map _) rfl a6) ?_;refine cN rfl (ei 0 (i:=i_4) rfl rfl rfl ha a6) ?_;refine fj ?_;refine cN rfl (c7 (i:=i_4) rfl rfl rfl hb (List.length_map _) rfl a6) ?_;refine cN rfl (ei 0 (i:=i_4) rfl rfl rfl hb a6) ?_;refine cN rfl (Yv.cy a8 rfl rfl rfl) ?_;refine eX ?_;refine K.seq ?_;refine T.cond rfl (fun h6=>?_) (fun h6=>?_)
     ·replace hk:=dC hk h6;refine iX ?_;subst hk;exact eA
     ·have p6:=h6; (try simp only [cS] at p6);replace hk:=dD hk h6;refine gV ?_;rw [←hn3] at hk;exact K.next (i_4+1) hk a6 (.c (.c (.c .nil))) (List.Sublist.refl _)
    ·have p5:=of_decide_eq_false h5;rw [fL a6,←hkk3] at hk; (try dsimp only at hk);refine ft ?_;exact kv
  ·rintro _ hk;rw [←hk2] at hk; (try dsimp only at hk);refine kn ?_;subst hk;exact eA
def jh (p:GProblem)(n:Int):Int:=
 dV (fun (_:Unit)=>
  (-1))
 (fun k1=>
  di (fun (i_3:Nat) (next2:Unit→Int) (_:Unit)=>
   (bif decide ((cH p.Domains i_3).Station=n) then
    (i_3:Int)
    else
    next2 ()))
  (fun (_:Unit)=>
   k1 ()) (p.Domains.length - 0) 0 ())
theorem zc0 (F0:Frz)(w:World)(hF0:F0.At w)(p:GProblem)(vp_0:Value)(cp_0:List (List Value))(hp_0:SlD cJ F0 vp_0 2 cp_0 p.Domains)(vp_1:Value)(hp_1:SlC F0 vp_1 5 (p.Rules.Pairs.map cY))(vp_2:Value)(hp_2:SlC F0 vp_2 5 (p.Rules.Loads.map c4))(vp_3:Value)(hp_3:SlC F0 vp_3 4 (p.Rules.Caps.map dk))(n:Int):Calls Tryz.prog 32 #[.agg [vp_0,vp_1,vp_2,vp_3].toArray, .int .i64 n] w fun e w'=>e= .returned (.int .i64 (jh p n))∧Below w.heap.size w w':=by
 obtain ⟨r,hk⟩:∃r,jh p n=r:=⟨_,rfl⟩;rw [hk];unfold jh at hk;haveI:=hp_0.1.oneC;haveI:=hp_1.oneC;haveI:=hp_2.oneC;haveI:=hp_3.oneC;obtain ⟨S0,F1,rfl,hS0,hp0⟩:=fx hF0;refine dz Tryz.func32 rfl rfl rfl hp0 ?_;refine iW ?_;rintro _ _ ⟨g2,rfl,rfl⟩;refine mj ?_;have hq:=eE hk;clear hk;obtain ⟨k1,hk1,hk⟩:=hq; (try dsimp only at hk);refine dc (ι:=Unit) (fun z=>[]) (fun z=>[.fr F1]) (fun z=>k1 ()=r) ?_ ?_
 ·have hq:=fJ hk;clear hk;obtain ⟨f2,kk2,hf2,hkk2,hk⟩:=hq;refine eY ?_;refine T.loop (ι:=Nat) (fun z=>[(1, .int .i64 n),(2, .pointer (some ⟨g2,0,none⟩)),(5, .int .i64 (z:Int))]) (fun z=>[.row g2 31 [vp_0,vp_1,vp_2,vp_3], .fr F1]) (fun z=>di f2 kk2 (p.Domains.length - z) z ()=r) (fun z=>p.Domains.length - z) 0 ?_ ?_ ?_ ?_
  ·exact hk
  ·exact mr
  ·exact eN
  ·rintro i_3 hk;refine q4b ?_;refine q20 ?_;have hm9:p.Domains.length≤9223372036854775807:=hp_0.2.1▸hp_0.1.max;refine dJ ?_;refine T.cond rfl (fun h4=>?_) (fun h4=>?_)
   ·have p4:=of_decide_eq_true h4;rw [fK a6] at hk;generalize hn2:di f2 kk2 (p.Domains.length - (i_3+1)) (i_3+1)=next2 at hk;rw [←hf2] at hk; (try dsimp only at hk);refine fU ?_;refine mD ?_;refine cK (c7 (i:=i_3) rfl rfl rfl hp_0.1 hp_0.2.1 rfl a6) ?_;refine cK (d8 rfl rfl hp_0.1 hp_0.2.1 a6) ?_;refine cK (dp 1 (i:=i_3) (j:=0) rfl rfl rfl hp_0.1 hp_0.2.1 a6 rfl (GDomain.c0 (hp_0.2.2 i_3 a6))) ?_;refine jg ?_;refine T.cond rfl (fun h5=>?_) (fun h5=>?_)
    ·have p5:=of_decide_eq_true h5;replace hk:=dC hk h5;refine ip ?_;refine mv ?_;subst hk;exact eA
    ·have p5:=of_decide_eq_false h5;replace hk:=dD hk h5;refine gV ?_;rw [←hn2] at hk;exact q4J
   ·have p4:=of_decide_eq_false h4;rw [fL a6,←hkk2] at hk; (try dsimp only at hk);refine q2b ?_;exact kv
 ·rintro _ hk;rw [←hk1] at hk; (try dsimp only at hk);refine kn ?_;subst hk;exact eA
def mM (l:List GChoice)(n:Int):Int:=
 dV (fun (_:Unit)=>
  0)
 (fun k1=>
  di (fun (i_3:Nat) (next2:Unit→Int) (_:Unit)=>
   (bif decide ((cH l i_3).Station=n) then
    ((cH l i_3).Channel)
    else
    next2 ()))
  (fun (_:Unit)=>
   k1 ()) (l.length - 0) 0 ())
theorem zkA (F0:Frz)(w:World)(hF0:F0.At w)(l:List GChoice)(vl:Value)(hl:SlC F0 vl 2 (l.map cG))(n:Int):Calls Tryz.prog 33 #[vl, .int .i64 n] w fun e w'=>e= .returned (.int .i64 (mM l n))∧Below w.heap.size w w':=by
 obtain ⟨r,hk⟩:∃r,mM l n=r:=⟨_,rfl⟩;rw [hk];unfold mM at hk;haveI:=hl.oneC;obtain ⟨S0,F1,rfl,hS0,hp0⟩:=fx hF0;refine dz Tryz.func33 rfl rfl rfl hp0 ?_;refine gX ?_;refine lD ?_;have hq:=eE hk;clear hk;obtain ⟨k1,hk1,hk⟩:=hq; (try dsimp only at hk);refine dc (ι:=Unit) (fun z=>[]) (fun z=>[.fr F1]) (fun z=>k1 ()=r) ?_ ?_
 ·have hq:=fJ hk;clear hk;obtain ⟨f2,kk2,hf2,hkk2,hk⟩:=hq;refine eY ?_;refine T.loop (ι:=Nat) (fun z=>[(0,vl),(1, .int .i64 n),(5, .int .i64 (z:Int))]) (fun z=>[.fr F1]) (fun z=>di f2 kk2 (l.length - z) z ()=r) (fun z=>l.length - z) 0 ?_ ?_ ?_ ?_
  ·exact hk
  ·exact mr
  ·exact eN
  ·rintro i_3 hk;refine im ?_;refine q2Z ?_;have hm8:l.length≤9223372036854775807:=(List.length_map _)▸hl.max;refine dJ ?_;refine T.cond rfl (fun h4=>?_) (fun h4=>?_)
   ·have p4:=of_decide_eq_true h4;rw [fK a6] at hk;generalize hn2:di f2 kk2 (l.length - (i_3+1)) (i_3+1)=next2 at hk;rw [←hf2] at hk; (try dsimp only at hk);refine my ?_;refine q2Y ?_;refine cK (d8 rfl rfl hl (List.length_map _) a6) ?_;refine cK (dT 0 (i:=i_3) (j:=0) rfl rfl rfl hl a6) ?_;refine jg ?_;refine T.cond rfl (fun h5=>?_) (fun h5=>?_)
    ·have p5:=of_decide_eq_true h5;replace hk:=dC hk h5;refine ip ?_;refine q2Y ?_;refine cK (d8 rfl rfl hl (List.length_map _) a6) ?_;refine cK (dT 0 (i:=i_3) (j:=1) rfl rfl rfl hl a6) ?_;refine dn ?_;refine mv ?_;subst hk;exact eA
    ·have p5:=of_decide_eq_false h5;replace hk:=dD hk h5;refine gV ?_;rw [←hn2] at hk;exact q4J
   ·have p4:=of_decide_eq_false h4;rw [fL a6,←hkk2] at hk; (try dsimp only at hk);refine ft ?_;exact kv
 ·rintro _ hk;rw [←hk1] at hk; (try dsimp only at hk);refine kn ?_;subst hk;exact eA
def zb5 (l:List Int)(n:Int):Bool:=
 dV (fun (_:Unit)=>
  false)
 (fun k1=>
  di (fun (i_3:Nat) (next2:Unit→Bool) (_:Unit)=>
   (bif decide ((cH l i_3)=n) then
    true
    else
    next2 ()))
  (fun (_:Unit)=>
   k1 ()) (l.length - 0) 0 ())
theorem zgA (F0:Frz)(w:World)(hF0:F0.At w)(l:List Int)(vl:Value)(hl:SlC F0 vl 1 (l.map eI))(n:Int):Calls Tryz.prog 34 #[vl, .int .i64 n] w fun e w'=>e= .returned (.bool (zb5 l n))∧Below w.heap.size w w':=by
 obtain ⟨r,hk⟩:∃r,zb5 l n=r:=⟨_,rfl⟩;rw [hk];unfold zb5 at hk;haveI:=hl.oneC;obtain ⟨S0,F1,rfl,hS0,hp0⟩:=fx hF0;refine dz Tryz.func34 rfl rfl rfl hp0 ?_;refine gX ?_;refine lD ?_;have hq:=eE hk;clear hk;obtain ⟨k1,hk1,hk⟩:=hq; (try dsimp only at hk);refine dc (ι:=Unit) (fun z=>[]) (fun z=>[.fr F1]) (fun z=>k1 ()=r) ?_ ?_
 ·have hq:=fJ hk;clear hk;obtain ⟨f2,kk2,hf2,hkk2,hk⟩:=hq;refine eY ?_;refine T.loop (ι:=Nat) (fun z=>[(0,vl),(1, .int .i64 n),(5, .int .i64 (z:Int))]) (fun z=>[.fr F1]) (fun z=>di f2 kk2 (l.length - z) z ()=r) (fun z=>l.length - z) 0 ?_ ?_ ?_ ?_
  ·exact hk
  ·exact mr
  ·exact eN
  ·rintro i_3 hk;refine im ?_;refine q2Z ?_;have hm8:l.length≤9223372036854775807:=(List.length_map _)▸hl.max;refine dJ ?_;refine T.cond rfl (fun h4=>?_) (fun h4=>?_)
   ·have p4:=of_decide_eq_true h4;rw [fK a6] at hk;generalize hn2:di f2 kk2 (l.length - (i_3+1)) (i_3+1)=next2 at hk;rw [←hf2] at hk; (try dsimp only at hk);refine my ?_;refine q2Y ?_;refine cK (dT 0 (i:=i_3) (j:=0) rfl rfl rfl hl a6) ?_;refine jg ?_;refine T.cond rfl (fun h5=>?_) (fun h5=>?_)
    ·have p5:=of_decide_eq_true h5;replace hk:=dC hk h5;refine iX ?_;subst hk;exact eA
    ·have p5:=of_decide_eq_false h5;replace hk:=dD hk h5;refine gV ?_;rw [←hn2] at hk;exact q4J
   ·have p4:=of_decide_eq_false h4;rw [fL a6,←hkk2] at hk; (try dsimp only at hk);refine ft ?_;exact kv
 ·rintro _ hk;rw [←hk1] at hk; (try dsimp only at hk);refine kn ?_;subst hk;exact eA
def mW (low:Int)(high:Int):Bool:=
 (((decide (2≤low))&&(decide (low≤high)))&&(decide (high≤51)))
theorem zee (F0:Frz)(w:World)(hF0:F0.At w)(low:Int)(high:Int):Calls Tryz.prog 62 #[.int .i64 low, .int .i64 high] w fun e w'=>e= .returned (.bool (mW low high))∧Below w.heap.size w w':=by
 obtain ⟨r,hk⟩:∃r,mW low high=r:=⟨_,rfl⟩;rw [hk];unfold mW at hk;obtain ⟨S0,F1,rfl,hS0,hp0⟩:=fx hF0;refine dz Tryz.func62 rfl rfl rfl hp0 ?_;refine fB ?_;refine dc (ι:=Unit) (fun z=>[(4, .bool (((decide (2≤low))&&(decide (low≤high)))&&(decide (high≤51))))]) (fun z=>[.fr F1]) (fun z=>True) ?_ ?_
 ·refine q4l ?_;refine dB rfl rfl rfl (fun h1=>?_) (fun h1=>?_)
  ·have p1:=of_decide_eq_true h1;refine TL.run 5 rfl ?_;refine dB rfl rfl rfl (fun h2=>?_) (fun h2=>?_)
   ·have p2:=of_decide_eq_true h2;refine nb ?_;exact cO () trivial (.b (kI (iE h1 h2)) .nil) (List.Sublist.refl _)
   ·have p2:=of_decide_eq_false h2;refine nb ?_;exact cO () trivial (.b (gh (iE h1 h2)).symm .nil) (List.Sublist.refl _)
  ·have p1:=of_decide_eq_false h1;refine TL.run 9 rfl ?_;refine eV ?_;exact cO () trivial (.b (gh (gh h1)).symm .nil) (List.Sublist.refl _)
 ·rintro _ _;refine T.ret ?_;subst hk;exact eA
def zbo (a:List Int)(b:List Int):Option Bool:=
 dV (fun (_:Unit)=>
  some false)
 (fun k1=>
  di (fun (i_3:Nat) (next2:Unit→Option Bool) (_:Unit)=>
   em (0≤(i_3:Int)∧(i_3:Int)<(b.length:Int)) <|
   (bif decide (¬(cH a i_3)=(cH b i_3)) then
    some (decide ((cH a i_3)<(cH b i_3)))
    else
    next2 ()))
  (fun (_:Unit)=>
   k1 ()) (a.length - 0) 0 ())
theorem zek (F0:Frz)(w:World)(hF0:F0.At w)(a:List Int)(va:Value)(ha:SlC F0 va 1 (a.map eI))(b:List Int)(vb:Value)(hb:SlC F0 vb 1 (b.map eI))(r:Bool)(hr:zbo a b=some r):Calls Tryz.prog 63 #[va,vb] w fun e w'=>e= .returned (.bool r)∧Below w.heap.size w w':=by
 have hk:=hr;unfold zbo at hk;haveI:=ha.oneC;haveI:=hb.oneC;obtain ⟨S0,F1,rfl,hS0,hp0⟩:=fx hF0;refine dz Tryz.func63 rfl rfl rfl hp0 ?_;refine gX ?_;refine lD ?_;have hq:=eE hk;clear hk;obtain ⟨k1,hk1,hk⟩:=hq; (try dsimp only at hk);refine dc (ι:=Unit) (fun z=>[]) (fun z=>[.fr F1]) (fun z=>k1 ()=some r) ?_ ?_
 ·have hq:=fJ hk;clear hk;obtain ⟨f2,kk2,hf2,hkk2,hk⟩:=hq;refine eY ?_;refine T.loop (ι:=Nat) (fun z=>[(0,va),(1,vb),(5, .int .i64 (z:Int))]) (fun z=>[.fr F1]) (fun z=>di f2 kk2 (a.length - z) z ()=some r) (fun z=>a.length - z) 0 ?_ ?_ ?_ ?_
  ·exact hk
  ·exact mr
  ·exact eN
  ·rintro i_3 hk;refine im ?_;refine cK (dg rfl rfl ha (List.length_map _)) ?_;have hm8:a.length≤9223372036854775807:=(List.length_map _)▸ha.max;refine dJ ?_;refine T.cond rfl (fun h4=>?_) (fun h4=>?_)
   ·have p4:=of_decide_eq_true h4;rw [fK a6] at hk;generalize hn2:di f2 kk2 (a.length - (i_3+1)) (i_3+1)=next2 at hk;rw [←hf2] at hk; (try dsimp only at hk);refine ki ?_;have hq:(0≤(i_3:Int)∧(i_3:Int)<(b.length:Int))∧_:=fD hk;clear hk;obtain ⟨g18,hk⟩:=hq; (try dsimp only at hk);refine q2h ?_;refine q14 ?_;refine kB ?_;refine T.cond rfl (fun h5=>?_) (fun h5=>?_)
    ·have p5:=of_decide_eq_true h5;replace hk:=dC hk h5;refine T.seq ?_;refine q3K ?_;refine q14 ?_;refine fj ?_;refine eX ?_;refine K.seq (T.ret (ek (dS (dS (ek (dS ?_))))));obtain rfl:=Option.some.inj hk;exact eA
    ·have p5:=of_decide_eq_false h5;replace hk:=dD hk h5;refine gV ?_;rw [←hn2] at hk;exact q4J
   ·have p4:=of_decide_eq_false h4;rw [fL a6,←hkk2] at hk; (try dsimp only at hk);refine ft ?_;exact kv
 ·rintro _ hk;rw [←hk1] at hk; (try dsimp only at hk);refine kn ?_;obtain rfl:=Option.some.inj hk;exact eA
def lF (x_:GPair):List Int:=
 [x_.A,x_.B,x_.Offset,x_.Low,x_.High]
theorem zeA (F0:Frz)(w:World)(hF0:F0.At w)(x_:GPair):Calls Tryz.prog 64 #[.agg [.int .i64 x_.A, .int .i64 x_.B, .int .i64 x_.Offset, .int .i64 x_.Low, .int .i64 x_.High].toArray] w fun e w'=>∃(y:Value) (G:Frz),(SlC G y 1 ((lF x_).map eI))∧e= .returned (y)∧Fx F0 w G w':=by
 obtain ⟨r,hk⟩:∃r,lF x_=r:=⟨_,rfl⟩;rw [hk];unfold lF at hk;obtain ⟨S0,F1,rfl,hS0,hp0⟩:=fx hF0;refine dz Tryz.func64 rfl rfl rfl hp0 ?_;refine iW ?_;rintro _ _ ⟨g1,rfl,rfl⟩;refine gM ?_;refine q21 ?_;refine eM ?_;refine eM ?_;refine lR ?_;rintro _ _ ⟨g13,rfl,rfl⟩;refine fI ?_;refine q3n ?_;rintro F2 ⟨le1_2,hz2⟩;refine gF ?_;have hf2:SlC F2.toFrz (.slice (some ⟨g13,0,none⟩) 5 5) 1 ([x_.A,x_.B,x_.Offset,x_.Low,x_.High].map eI):=(SlK.lit hz2 rfl (Nat.le_refl _) a7).toF (xs:=[x_.A,x_.B,x_.Offset,x_.Low,x_.High]) rfl (fun _=>rfl);subst hk;exact q5b
def lN (x_:GLoad):List Int:=
 [x_.To,x_.From,x_.Weight,x_.Low,x_.High]
theorem zeB (F0:Frz)(w:World)(hF0:F0.At w)(x_:GLoad):Calls Tryz.prog 65 #[.agg [.int .i64 x_.To, .int .i64 x_.From, .int .i64 x_.Weight, .int .i64 x_.Low, .int .i64 x_.High].toArray] w fun e w'=>∃(y:Value) (G:Frz),(SlC G y 1 ((lN x_).map eI))∧e= .returned (y)∧Fx F0 w G w':=by
 obtain ⟨r,hk⟩:∃r,lN x_=r:=⟨_,rfl⟩;rw [hk];unfold lN at hk;obtain ⟨S0,F1,rfl,hS0,hp0⟩:=fx hF0;refine dz Tryz.func65 rfl rfl rfl hp0 ?_;refine iW ?_;rintro _ _ ⟨g1,rfl,rfl⟩;refine gM ?_;refine q21 ?_;refine eM ?_;refine eM ?_;refine lR ?_;rintro _ _ ⟨g13,rfl,rfl⟩;refine fI ?_;refine q3n ?_;rintro F2 ⟨le1_2,hz2⟩;refine gF ?_;have hf2:SlC F2.toFrz (.slice (some ⟨g13,0,none⟩) 5 5) 1 ([x_.To,x_.From,x_.Weight,x_.Low,x_.High].map eI):=(SlK.lit hz2 rfl (Nat.le_refl _) a7).toF (xs:=[x_.To,x_.From,x_.Weight,x_.Low,x_.High]) rfl (fun _=>rfl);subst hk;exact q5b
def lL (x_:GCap):List Int:=
 [x_.Station,x_.Max,x_.Low,x_.High]
theorem ze9 (F0:Frz)(w:World)(hF0:F0.At w)(x_:GCap):Calls Tryz.prog 66 #[.agg [.int .i64 x_.Station, .int .i64 x_.Max, .int .i64 x_.Low, .int .i64 x_.High].toArray] w fun e w'=>∃(y:Value) (G:Frz),(SlC G y 1 ((lL x_).map eI))∧e= .returned (y)∧Fx F0 w G w':=by
 obtain ⟨r,hk⟩:∃r,lL x_=r:=⟨_,rfl⟩;rw [hk];unfold lL at hk;obtain ⟨S0,F1,rfl,hS0,hp0⟩:=fx hF0;refine dz Tryz.func66 rfl rfl rfl hp0 ?_;refine iW ?_;rintro _ _ ⟨g1,rfl,rfl⟩;refine gM ?_;refine q21 ?_;refine eM ?_;refine lR ?_;rintro _ _ ⟨g11,rfl,rfl⟩;refine fI ?_;refine q3n ?_;rintro F2 ⟨le1_2,hz2⟩;refine gF ?_;have hf2:SlC F2.toFrz (.slice (some ⟨g11,0,none⟩) 4 4) 1 ([x_.Station,x_.Max,x_.Low,x_.High].map eI):=(SlK.lit hz2 rfl (Nat.le_refl _) a7).toF (xs:=[x_.Station,x_.Max,x_.Low,x_.High]) rfl (fun _=>rfl);subst hk;exact cU rfl rfl (fun w' hw=>⟨(.slice (some ⟨g11,0,none⟩) 4 4),F2.toFrz,hf2,rfl,fQ hw (i:=1) rfl hS0 le1_2⟩)
def zcu (d:List GDomain):Option (List GChoice):=
 dV (fun (out_1:List GChoice)=>
  some out_1)
 (fun k2=>
  di (fun (i_5:Nat) (next4:List GChoice→Option (List GChoice)) (out_3:List GChoice)=>
   (bif decide ((((cH d i_5).Channels).length:Int)=1) then
    em (dv (out_3++[(GChoice.mk ((cH d i_5).Station) (cH ((cH d i_5).Channels) 0))]).length 16) <|
    next4 (out_3++[(GChoice.mk ((cH d i_5).Station) (cH ((cH d i_5).Channels) 0))])
    else
    next4 out_3))
  (fun (out_3:List GChoice)=>
   k2 out_3) (d.length - 0) 0 [])
theorem zhp (F0:Frz)(w:World)(hF0:F0.At w)(d:List GDomain)(vd:Value)(cd:List (List Value))(hd:SlD cJ F0 vd 2 cd d)(r:List GChoice)(hr:zcu d=some r):Calls Tryz.prog 42 #[vd] w fun e w'=>∃(y:Value) (G:Frz),(SlC G y 2 (r.map cG))∧e= .returned (y)∧Fx F0 w G w':=by
 have hk:=hr;unfold zcu at hk;haveI:=hd.1.oneC;obtain ⟨S0,F1,rfl,hS0,hp0⟩:=fx hF0;refine dz Tryz.func42 rfl rfl rfl hp0 ?_;refine mN ?_;refine lQ ?_;refine lD ?_;have hq:=eE hk;clear hk;obtain ⟨k2,hk2,hk⟩:=hq; (try dsimp only at hk);refine dc (ι:=List GChoice×Value) (fun z=>[(3,z.2)]) (fun z=>[.sl z.2 34 2 z.1.length (z.1.flatMap cG), .fr F1]) (fun z=>k2 z.1=some r∧OneC z.2) ?_ ?_
 ·have hq:=fJ hk;clear hk;obtain ⟨f4,kk4,hf4,hkk4,hk⟩:=hq;refine eY ?_;refine T.loop (ι:=Nat×List GChoice×Value) (fun z=>[(0,vd),(3,z.2.2),(4, .int .i64 (z.1:Int))]) (fun z=>[.sl z.2.2 34 2 z.2.1.length (z.2.1.flatMap cG), .fr F1]) (fun z=>di f4 kk4 (d.length - z.1) z.1 z.2.1=some r∧OneC z.2.2) (fun z=>d.length - z.1) (0,[],(.slice none 0 0)) ?_ ?_ ?_ ?_
  ·exact ⟨hk,inferInstance⟩
  ·exact mr
  ·exact eN
  ·rintro ⟨i_5,out_3,vout_3⟩ ⟨hk,oout_3⟩; (try dsimp only at *);refine im ?_;refine cK (dg rfl rfl hd.1 hd.2.1) ?_;have hm7:d.length≤9223372036854775807:=hd.2.1▸hd.1.max;refine dJ ?_;refine T.cond rfl (fun h6=>?_) (fun h6=>?_)
   ·have p6:=of_decide_eq_true h6;rw [fK a6] at hk;generalize hn4:di f4 kk4 (d.length - (i_5+1)) (i_5+1)=next4 at hk;rw [←hf4] at hk; (try dsimp only at hk);refine my ?_;refine cK (c7 (i:=i_5) rfl rfl rfl hd.1 hd.2.1 rfl a6) ?_;refine cK (d8 rfl rfl hd.1 hd.2.1 a6) ?_;refine cK (dp 1 (i:=i_5) (j:=1) rfl rfl rfl hd.1 hd.2.1 a6 rfl (GDomain.c1 (hd.2.2 i_5 a6)).1) ?_;have hd15_1:=(GDomain.c1 (hd.2.2 i_5 a6)).2;haveI:=hd15_1.oneC;refine cK (dg rfl rfl hd15_1 (List.length_map _)) ?_;have hm16:((cH d i_5).Channels).length≤9223372036854775807:=(List.length_map _)▸hd15_1.max;refine dJ ?_;refine T.cond rfl (fun h7=>?_) (fun h7=>?_)
    ·have p7:=of_decide_eq_true h7;replace hk:=dC hk h7;have hq:(dv (out_3++[(GChoice.mk ((cH d i_5).Station) (cH ((cH d i_5).Channels) 0))]).length 16)∧_:=fD hk;clear hk;obtain ⟨g33,hk⟩:=hq; (try dsimp only at hk);refine dH (sN 0 14 (.eff 14 (.eff 15 (.still 16 .done)))) [.fr F1] a8 Sx ?_;refine fM ?_;refine q4v ?_;refine cN rfl (dp 0 (i:=i_5) (j:=0) rfl rfl rfl hd.1 hd.2.1 a6 rfl (GDomain.c0 (hd.2.2 i_5 a6))) ?_;refine fj ?_;refine q4v ?_;refine cN rfl (dp 0 (i:=i_5) (j:=1) rfl rfl rfl hd.1 hd.2.1 a6 rfl (GDomain.c1 (hd.2.2 i_5 a6)).1) ?_;refine cN rfl (c7 (i:=0) rfl rfl rfl hd15_1 (List.length_map _) (show (0:Int)=((0:Nat):Int) from rfl) a6) ?_;refine cN rfl (dT 0 (i:=0) (j:=0) rfl rfl rfl hd15_1 a6) ?_;refine mF ?_;refine mw ?_;rintro _ _ ⟨g32,rfl,rfl⟩;refine jn ?_;refine dt ?_;refine cQ rfl (Wt.none) rfl rfl (ir 1 0 rfl rfl rfl rfl rfl rfl (m4 (ys:=[(GChoice.mk ((cH d i_5).Station) (cH ((cH d i_5).Channels) 0))])) (zc3 (enc:=cG) (xs:=out_3) (ys:=[(GChoice.mk ((cH d i_5).Station) (cH ((cH d i_5).Channels) 0))])) g33 a7) ?_;rintro v33 _ ⟨hv33,rfl⟩;refine jn ?_;refine jT ?_;refine fq (K.seq (T.region ?_));refine lM ?_;rw [←hn4] at hk;refine mf ?_;exact K.next ((i_5+1),(out_3++[(GChoice.mk ((cH d i_5).Station) (cH ((cH d i_5).Channels) 0))]),v33) ⟨hk,inferInstance⟩ (by dsimp only;omega) (.c (.c (.c .nil))) (List.Sublist.refl _)
    ·have p7:=of_decide_eq_false h7;replace hk:=dD hk h7;refine gV ?_;rw [←hn4] at hk;exact K.next ((i_5+1),out_3,vout_3) ⟨hk,inferInstance⟩ (by dsimp only;omega) (.c (.c (.c .nil))) (List.Sublist.refl _)
   ·have p6:=of_decide_eq_false h6;rw [fL a6,←hkk4] at hk; (try dsimp only at hk);refine ft ?_;exact cO (out_3,vout_3) ⟨hk,inferInstance⟩ (.c .nil) (List.Sublist.refl _)
 ·rintro ⟨out_1,vout_1⟩ ⟨hk,oout_1⟩; (try dsimp only at *);rw [←hk2] at hk; (try dsimp only at hk);refine q2A ?_;rintro F2 ⟨le1_2,hz2⟩;refine gF ?_;have hf2:=hz2.toF rfl GChoice.len;haveI:=hf2.oneC;obtain rfl:=Option.some.inj hk;exact q5c
def zbp (d:List GDomain)(s:Int)(c:Int):Option (List GDomain):=
 dV (fun (out_1:List GDomain)=>
  some out_1)
 (fun k2=>
  di (fun (i_5:Nat) (next4:List GDomain→Option (List GDomain)) (out_3:List GDomain)=>
   em (dv ([]++(cH d i_5).Channels).length 8) <|
   dV (fun (s9:Int×List Int)=>
    em (dv (out_3++[(GDomain.mk s9.1 s9.2)]).length 32) <|
    next4 (out_3++[(GDomain.mk s9.1 s9.2)]))
   (fun k9=>
    (bif decide ((cH d i_5).Station=s) then
     (bif (zb5 ((cH d i_5).Channels) c) then
      k9 ((cH d i_5).Station,[c])
      else
      k9 ((cH d i_5).Station,[]))
     else
     k9 ((cH d i_5).Station,([]++(cH d i_5).Channels)))))
  (fun (out_3:List GDomain)=>
   k2 out_3) (d.length - 0) 0 [])
theorem zfF (F0:Frz)(w:World)(hF0:F0.At w)(d:List GDomain)(vd:Value)(cd:List (List Value))(hd:SlD cJ F0 vd 2 cd d)(s:Int)(c:Int)(r:List GDomain)(hr:zbp d s c=some r):Calls Tryz.prog 73 #[vd, .int .i64 s, .int .i64 c] w fun e w'=>∃(y:Value×List (List Value)) (G:Frz),(SlD cJ G y.1 2 y.2 r)∧e= .returned (y.1)∧Fx F0 w G w':=by
 have hk:=hr;unfold zbp at hk;haveI:=hd.1.oneC;obtain ⟨S0,F1,rfl,hS0,hp0⟩:=fx hF0;refine dz Tryz.func73 rfl rfl rfl hp0 ?_;refine mN ?_;refine TL.slNil 59 2 ?_;refine lD ?_;have hq:=eE hk;clear hk;obtain ⟨k2,hk2,hk⟩:=hq; (try dsimp only at hk);refine dc (ι:=List GDomain×Value×List (List Value)×FzB w (fun _=>False) S0) (fun z=>[(7,z.2.1)]) (fun z=>[.sl z.2.1 59 2 z.1.length z.2.2.1.flatten, .fr z.2.2.2]) (fun z=>k2 z.1=some r∧OwnD cJ z.2.2.2.toFrz 2 z.2.2.1 z.1∧OneC z.2.1∧F1.toFrz.Le z.2.2.2.toFrz) ?_ ?_
 ·have hq:=fJ hk;clear hk;obtain ⟨f4,kk4,hf4,hkk4,hk⟩:=hq;refine eY ?_;refine T.loop (ι:=Nat×List GDomain×Value×List (List Value)×FzB w (fun _=>False) S0) (fun z=>[(0,vd),(1, .int .i64 s),(2, .int .i64 c),(7,z.2.2.1),(8, .int .i64 (z.1:Int))]) (fun z=>[.sl z.2.2.1 59 2 z.2.1.length z.2.2.2.1.flatten, .fr z.2.2.2.2]) (fun z=>di f4 kk4 (d.length - z.1) z.1 z.2.1=some r∧OwnD cJ z.2.2.2.2.toFrz 2 z.2.2.2.1 z.2.1∧OneC z.2.2.1∧F1.toFrz.Le z.2.2.2.2.toFrz) (fun z=>d.length - z.1) (0,[],(.slice none 0 0),[],F1) ?_ ?_ ?_ ?_
  ·exact ⟨hk,(OwnD.nil _ _ 2),inferInstance,(Frz.Le.refl _)⟩
  ·exact lq
  ·exact eN
  ·rintro ⟨i_5,out_3,vout_3,cout_3,F3⟩ ⟨hk,hout_3,oout_3,le1_3⟩; (try dsimp only at *);refine q3s ?_;have hm12:d.length≤9223372036854775807:=(SlD.mono (rep:=cJ) (fun _ _ _ _=>GDomain.mono) hd le1_3).2.1▸(SlD.mono (rep:=cJ) (fun _ _ _ _=>GDomain.mono) hd le1_3).1.max;refine dJ ?_;refine T.cond rfl (fun h6=>?_) (fun h6=>?_)
   ·have p6:=of_decide_eq_true h6;rw [fK a6] at hk;generalize hn4:di f4 kk4 (d.length - (i_5+1)) (i_5+1)=next4 at hk;rw [←hf4] at hk; (try dsimp only at hk);refine ki ?_;have hq:(dv ([]++(cH d i_5).Channels).length 8)∧_:=fD hk;clear hk;obtain ⟨g26,hk⟩:=hq; (try dsimp only at hk);refine dc (ι:=Nat×Value) (fun z=>[(0,vd),(1, .int .i64 s),(2, .int .i64 c),(7,vout_3),(8, .int .i64 (i_5:Int)),(9, .pointer (some ⟨z.1,0,none⟩))]) (fun z=>[.row z.1 59 [.int .i64 ((cH d i_5).Station),z.2], .sl z.2 3 1 ([]++(cH d i_5).Channels).length (([]++(cH d i_5).Channels).flatMap eI), .sl vout_3 59 2 out_3.length cout_3.flatten, .fr F3]) (fun z=>OneC z.2) ?_ ?_
    ·refine dH (.still 0 (.still 1 (.still 2 (.still 3 (.still 4 (.still 5 (.still 6 (.still 7 (.still 8 (.still 9 (.two 10 12 (.still 11 (.eff 12 (.eff 13 .done))) (.eff 10 (.still 11 (.eff 13 .done)))))))))))))) _ a8 (List.Sublist.refl _) ?_;refine q01 ?_;refine cN rfl (dp 1 (i:=i_5) (j:=0) rfl rfl rfl (SlD.mono (rep:=cJ) (fun _ _ _ _=>GDomain.mono) hd le1_3).1 (SlD.mono (rep:=cJ) (fun _ _ _ _=>GDomain.mono) hd le1_3).2.1 a6 rfl (GDomain.c0 ((SlD.mono (rep:=cJ) (fun _ _ _ _=>GDomain.mono) hd le1_3).2.2 i_5 a6))) ?_;refine q18 ?_;have hd25_1:=(GDomain.c1 ((SlD.mono (rep:=cJ) (fun _ _ _ _=>GDomain.mono) hd le1_3).2.2 i_5 a6)).2;haveI:=hd25_1.oneC;refine TS.two ?_ ?_
     ·refine TSo.slNil 3 1 ?_;refine cQ rfl (Wt.none) rfl rfl (ja 0 2 (zec (fun _=>inferInstance)) rfl rfl rfl rfl rfl hd25_1 (zev (xs:=([]:List Int))) (zdH (xs:=([]:List Int))) g26 a7) ?_;rintro v26 _ ⟨hv26,rfl⟩;refine jn ?_;refine mF ?_;refine q3k ?_;rintro _ _ ⟨g9,rfl,rfl⟩;refine jn ?_;refine q1I ?_;refine eX ?_;exact cO (g9,v26) hv26 (.c (.c (.c (.c (.c (.c .nil)))))) (List.Sublist.refl _)
     ·refine q3k ?_;rintro _ _ ⟨g9,rfl,rfl⟩;refine jn ?_;refine dt ?_;refine TSo.slNil 3 1 ?_;refine cQ rfl (Wt.none) rfl rfl (ja 0 3 (zec (fun _=>inferInstance)) rfl rfl rfl rfl rfl hd25_1 (zev (xs:=([]:List Int))) (zdH (xs:=([]:List Int))) g26 a7) ?_;rintro v26 _ ⟨hv26,rfl⟩;refine jn ?_;refine mF ?_;refine e9 rfl (Wt.none) rfl (dG 1) ?_;refine i6 ?_;refine eX ?_;refine K.pick [1,0,2,3] rfl a7 ?_;exact cO (g9,v26) hv26 (.c (.c (.c (.c (.c (.c .nil)))))) (List.Sublist.refl _)
    ·rintro ⟨g9,v26⟩ hv26; (try dsimp only at *);refine T.seq (dh ?_);refine eM ?_;refine jg ?_;have hq:=eE hk;clear hk;obtain ⟨k9,hk9,hk⟩:=hq; (try dsimp only at hk);refine dc (ι:=Int×List Int×Value×FzB w (fun _=>False) S0) (fun z=>[(0,vd),(1, .int .i64 s),(2, .int .i64 c),(7,vout_3),(8, .int .i64 (i_5:Int)),(9, .pointer (some ⟨g9,0,none⟩))]) (fun z=>[.row g9 59 [.int .i64 z.1,z.2.2.1], .sl vout_3 59 2 out_3.length cout_3.flatten, .fr z.2.2.2]) (fun z=>k9 (z.1,z.2.1)=some r∧SlC z.2.2.2.toFrz z.2.2.1 1 (z.2.1.map eI)∧F3.toFrz.Le z.2.2.2.toFrz) ?_ ?_
     ·refine T.cond rfl (fun h10=>?_) (fun h10=>?_)
      ·have p10:=of_decide_eq_true h10;replace hk:=dC hk h10;refine dh ?_;refine fv ?_;refine eJ (ec 0 rfl rfl rfl rfl b2) ?_;refine eW ?_;refine dy ?_;refine ed ?_;refine q1h ?_;have hd37_1:=(GDomain.c1 ((SlD.mono (rep:=cJ) (fun _ _ _ _=>GDomain.mono) hd le1_3).2.2 i_5 a6)).2;haveI:=hd37_1.oneC;refine dn ?_;refine cZ (cL rfl rfl rfl (fun w hw=>zgA _ w (hw.fr (i:=3) rfl) ((cH d i_5).Channels) (cH (cH cd i_5) 1) hd37_1 c)) ?_;refine eW ?_;refine cR ?_;refine T.cond rfl (fun h11=>?_) (fun h11=>?_)
       ·replace hk:=dC hk h11;refine iK ?_;refine lR ?_;rintro _ _ ⟨g41,rfl,rfl⟩;refine fv ?_;refine eJ (ec 1 rfl rfl rfl rfl b2) ?_;refine eW ?_;refine eV ?_;refine kh (fun w hw=>hw.freezeR (i:=4) (j:=0) a7 rfl rfl) ?_;rintro F5 ⟨le3_5,hz5⟩;refine gF ?_;have hf5:SlC F5.toFrz (.slice (some ⟨g41,0,none⟩) 1 1) 1 ([c].map eI):=(SlK.lit hz5 rfl (Nat.le_refl _) a7).toF (xs:=[c]) rfl (fun _=>rfl);refine K.pick [0,2,3] rfl a7 ?_;exact cO ((cH d i_5).Station,[c],(.slice (some ⟨g41,0,none⟩) 1 1),F5) ⟨hk,hf5,le3_5⟩ (.c (.c (.c (.c (.c (.c .nil)))))) (List.Sublist.refl _)
       ·replace hk:=dD hk h11;refine T.skip ?_;refine K.pick [0,2,3] rfl a7 ?_;exact cO ((cH d i_5).Station,[],(.slice none 0 0),F3) ⟨hk,(SlC.nil _ 1),(Frz.Le.refl _)⟩ (.c (.c (.c (.c (.c (.c .nil)))))) (List.Sublist.refl _)
      ·have p10:=of_decide_eq_false h10;replace hk:=dD hk h10;refine T.skip ?_;refine kh (fun w hw=>hw.freezeS (i:=3) (j:=1) a7 rfl rfl) ?_;rintro F6 ⟨le3_6,hz6⟩;refine gF ?_;have hf6:=hz6.toF rfl (fun _=>rfl);haveI:=hf6.oneC;exact cO ((cH d i_5).Station,([]++(cH d i_5).Channels),v26,F6) ⟨hk,hf6,le3_6⟩ (.c (.c (.c (.c (.c (.c .nil)))))) (List.Sublist.refl _)
     ·rintro ⟨c_7,c_8,vc_8,F4⟩ ⟨hk,hc_8,le3_4⟩; (try dsimp only at *);rw [←hk9] at hk; (try dsimp only at hk);have le1_4:=le1_3.trans le3_4;haveI:=hc_8.oneC;have hq:(dv (out_3++[(GDomain.mk c_7 c_8)]).length 32)∧_:=fD hk;clear hk;obtain ⟨g46,hk⟩:=hq; (try dsimp only at hk);refine iK ?_;refine iF ?_;refine lR ?_;rintro _ _ ⟨g45,rfl,rfl⟩;have hl45:OwnD cJ F4.toFrz 2 [[.int .i64 c_7,vc_8]] [(GDomain.mk c_7 c_8)]:=(df (OwnD.nil _ _ 2) ⟨_,rfl,hc_8⟩);refine cZ (ir 2 0 rfl rfl rfl rfl rfl rfl (m4 (ys:=[(GDomain.mk c_7 c_8)])) (zcY (cs:=cout_3) (ds:=[[.int .i64 c_7,vc_8]])) g46 a7) ?_;rintro v46 _ ⟨hv46,rfl⟩;have ho46:OwnD cJ F4.toFrz 2 (cout_3++[[.int .i64 c_7,vc_8]]) (out_3++[(GDomain.mk c_7 c_8)]):=(df (OwnD.mono (rep:=cJ) (fun _ _ _ _=>GDomain.mono) hout_3 le3_4) ⟨_,rfl,hc_8⟩);refine dn ?_;refine mp ?_;refine lM ?_;rw [←hn4] at hk;refine K.pick [2,3] rfl a7 ?_;exact K.next ((i_5+1),(out_3++[(GDomain.mk c_7 c_8)]),v46,(cout_3++[[.int .i64 c_7,vc_8]]),F4) ⟨hk,ho46,inferInstance,le1_4⟩ (by dsimp only;omega) (.c (.c (.c (.c (.c .nil))))) (List.Sublist.refl _)
   ·have p6:=of_decide_eq_false h6;rw [fL a6,←hkk4] at hk; (try dsimp only at hk);refine ft ?_;exact q5d
 ·rintro ⟨out_1,vout_1,cout_1,F2⟩ ⟨hk,hout_1,oout_1,le1_2⟩; (try dsimp only at *);rw [←hk2] at hk; (try dsimp only at hk);refine q2A ?_;rintro F7 ⟨le2_7,hz7⟩;refine gF ?_;have le1_7:=le1_2.trans le2_7;have hf7:=hz7.toD (OwnD.mono (rep:=cJ) (fun _ _ _ _=>GDomain.mono) hout_1 le2_7) rfl;haveI:=hf7.1.oneC;obtain rfl:=Option.some.inj hk;exact cU rfl rfl (fun w' hw=>⟨(vout_1,cout_1),F7.toFrz,hf7,rfl,fQ hw (i:=0) rfl hS0 le1_7⟩)
def mP (d:List GDomain)(s:Int)(c:Int):Option (List GDomain):=
 dV (fun (out_1:List GDomain)=>
  some out_1)
 (fun k2=>
  di (fun (i_5:Nat) (next4:List GDomain→Option (List GDomain)) (out_3:List GDomain)=>
   dV (fun (s9:Int×List Int)=>
    em (dv (out_3++[(GDomain.mk s9.1 s9.2)]).length 32) <|
    next4 (out_3++[(GDomain.mk s9.1 s9.2)]))
   (fun k9=>
    di (fun (k_13:Nat) (next12:(Int×List Int)→Option (List GDomain)) (s12:Int×List Int)=>
     (bif ((decide (¬(cH d i_5).Station=s))||(decide (¬(cH ((cH d i_5).Channels) k_13)=c))) then
      em (dv (s12.2++[(cH ((cH d i_5).Channels) k_13)]).length 8) <|
      next12 (s12.1,(s12.2++[(cH ((cH d i_5).Channels) k_13)]))
      else
      next12 (s12.1,s12.2)))
    (fun (s12:Int×List Int)=>
     k9 (s12.1,s12.2)) ((((cH d i_5).Channels).length) - 0) 0 ((cH d i_5).Station,[])))
  (fun (out_3:List GDomain)=>
   k2 out_3) (d.length - 0) 0 [])
theorem zh0 (F0:Frz)(w:World)(hF0:F0.At w)(d:List GDomain)(vd:Value)(cd:List (List Value))(hd:SlD cJ F0 vd 2 cd d)(s:Int)(c:Int)(r:List GDomain)(hr:mP d s c=some r):Calls Tryz.prog 108 #[vd, .int .i64 s, .int .i64 c] w fun e w'=>∃(y:Value×List (List Value)) (G:Frz),(SlD cJ G y.1 2 y.2 r)∧e= .returned (y.1)∧Fx F0 w G w':=by
 have hk:=hr;unfold mP at hk;haveI:=hd.1.oneC;obtain ⟨S0,F1,rfl,hS0,hp0⟩:=fx hF0;refine dz Tryz.func108 rfl rfl rfl hp0 ?_;refine mN ?_;refine TL.slNil 59 2 ?_;refine lD ?_;have hq:=eE hk;clear hk;obtain ⟨k2,hk2,hk⟩:=hq; (try dsimp only at hk);refine dc (ι:=List GDomain×Value×List (List Value)×FzB w (fun _=>False) S0) (fun z=>[(7,z.2.1)]) (fun z=>[.sl z.2.1 59 2 z.1.length z.2.2.1.flatten, .fr z.2.2.2]) (fun z=>k2 z.1=some r∧OwnD cJ z.2.2.2.toFrz 2 z.2.2.1 z.1∧OneC z.2.1∧F1.toFrz.Le z.2.2.2.toFrz) ?_ ?_
 ·have hq:=fJ hk;clear hk;obtain ⟨f4,kk4,hf4,hkk4,hk⟩:=hq;refine eY ?_;refine T.loop (ι:=Nat×List GDomain×Value×List (List Value)×FzB w (fun _=>False) S0) (fun z=>[(0,vd),(1, .int .i64 s),(2, .int .i64 c),(7,z.2.2.1),(8, .int .i64 (z.1:Int))]) (fun z=>[.sl z.2.2.1 59 2 z.2.1.length z.2.2.2.1.flatten, .fr z.2.2.2.2]) (fun z=>di f4 kk4 (d.length - z.1) z.1 z.2.1=some r∧OwnD cJ z.2.2.2.2.toFrz 2 z.2.2.2.1 z.2.1∧OneC z.2.2.1∧F1.toFrz.Le z.2.2.2.2.toFrz) (fun z=>d.length - z.1) (0,[],(.slice none 0 0),[],F1) ?_ ?_ ?_ ?_
  ·exact ⟨hk,(OwnD.nil _ _ 2),inferInstance,(Frz.Le.refl _)⟩
  ·exact lq
  ·exact eN
  ·rintro ⟨i_5,out_3,vout_3,cout_3,F3⟩ ⟨hk,hout_3,oout_3,le1_3⟩; (try dsimp only at *);refine q3s ?_;have hm13:d.length≤9223372036854775807:=(SlD.mono (rep:=cJ) (fun _ _ _ _=>GDomain.mono) hd le1_3).2.1▸(SlD.mono (rep:=cJ) (fun _ _ _ _=>GDomain.mono) hd le1_3).1.max;refine dJ ?_;refine T.cond rfl (fun h6=>?_) (fun h6=>?_)
   ·have p6:=of_decide_eq_true h6;rw [fK a6] at hk;generalize hn4:di f4 kk4 (d.length - (i_5+1)) (i_5+1)=next4 at hk;rw [←hf4] at hk; (try dsimp only at hk);refine my ?_;refine q0B ?_;refine cK (dp 1 (i:=i_5) (j:=0) rfl rfl rfl (SlD.mono (rep:=cJ) (fun _ _ _ _=>GDomain.mono) hd le1_3).1 (SlD.mono (rep:=cJ) (fun _ _ _ _=>GDomain.mono) hd le1_3).2.1 a6 rfl (GDomain.c0 ((SlD.mono (rep:=cJ) (fun _ _ _ _=>GDomain.mono) hd le1_3).2.2 i_5 a6))) ?_;refine je ?_;refine gR ?_;rintro _ _ ⟨g9,rfl,rfl⟩;refine TL.slNil 3 1 ?_;refine q3X ?_;refine TL.slNil 3 1 ?_;refine lD ?_;have hq:=eE hk;clear hk;obtain ⟨k9,hk9,hk⟩:=hq; (try dsimp only at hk);refine dc (ι:=Int×List Int×Value) (fun z=>[(0,vd),(1, .int .i64 s),(2, .int .i64 c),(7,vout_3),(8, .int .i64 (i_5:Int)),(9, .pointer (some ⟨g9,0,none⟩))]) (fun z=>[.sl z.2.2 3 1 z.2.1.length (z.2.1.flatMap eI), .row g9 59 [.int .i64 z.1,z.2.2], .sl vout_3 59 2 out_3.length cout_3.flatten, .fr F3]) (fun z=>k9 (z.1,z.2.1)=some r∧OneC z.2.2) ?_ ?_
    ·have hq:=fJ hk;clear hk;obtain ⟨f12,kk12,hf12,hkk12,hk⟩:=hq;refine eY ?_;refine T.pick [0,2,3,4] rfl a7 ?_;refine T.loop (ι:=Nat×Int×List Int×Value) (fun z=>[(0,vd),(1, .int .i64 s),(2, .int .i64 c),(7,vout_3),(8, .int .i64 (i_5:Int)),(9, .pointer (some ⟨g9,0,none⟩)),(10, .int .i64 (z.1:Int))]) (fun z=>[.sl z.2.2.2 3 1 z.2.2.1.length (z.2.2.1.flatMap eI), .row g9 59 [.int .i64 z.2.1,z.2.2.2], .sl vout_3 59 2 out_3.length cout_3.flatten, .fr F3]) (fun z=>di f12 kk12 ((((cH d i_5).Channels).length) - z.1) z.1 (z.2.1,z.2.2.1)=some r∧OneC z.2.2.2) (fun z=>(((cH d i_5).Channels).length) - z.1) (0,(cH d i_5).Station,[],(.slice none 0 0)) ?_ ?_ ?_ ?_
     ·exact ⟨hk,inferInstance⟩
     ·exact q4K
     ·exact eN
     ·rintro ⟨k_13,c_10,c_11,vc_11⟩ ⟨hk,oc_11⟩; (try dsimp only at *);refine T.seq (dh ?_);refine fH ?_;refine q1h ?_;have hd28_1:=(GDomain.c1 ((SlD.mono (rep:=cJ) (fun _ _ _ _=>GDomain.mono) hd le1_3).2.2 i_5 a6)).2;haveI:=hd28_1.oneC;refine cK (dg rfl rfl hd28_1 (List.length_map _)) ?_;have hm29:((cH d i_5).Channels).length≤9223372036854775807:=(List.length_map _)▸hd28_1.max;refine dJ ?_;refine T.cond rfl (fun h14=>?_) (fun h14=>?_)
      ·have p14:=of_decide_eq_true h14;rw [fK a6] at hk;generalize hn12:di f12 kk12 ((((cH d i_5).Channels).length) - (k_13+1)) (k_13+1)=next12 at hk;rw [←hf12] at hk; (try dsimp only at hk);refine ki ?_;refine dc (ι:=Unit) (fun z=>[(0,vd),(1, .int .i64 s),(2, .int .i64 c),(7,vout_3),(8, .int .i64 (i_5:Int)),(9, .pointer (some ⟨g9,0,none⟩)),(10, .int .i64 (k_13:Int)),(51, .bool ((decide (¬(cH d i_5).Station=s))||(decide (¬(cH ((cH d i_5).Channels) k_13)=c))))]) (fun z=>[.sl vc_11 3 1 c_11.length (c_11.flatMap eI), .row g9 59 [.int .i64 c_10,vc_11], .sl vout_3 59 2 out_3.length cout_3.flatten, .fr F3]) (fun z=>True) ?_ ?_
       ·refine iA ?_;refine q0B ?_;refine cK (dp 3 (i:=i_5) (j:=0) rfl rfl rfl (SlD.mono (rep:=cJ) (fun _ _ _ _=>GDomain.mono) hd le1_3).1 (SlD.mono (rep:=cJ) (fun _ _ _ _=>GDomain.mono) hd le1_3).2.1 a6 rfl (GDomain.c0 ((SlD.mono (rep:=cJ) (fun _ _ _ _=>GDomain.mono) hd le1_3).2.2 i_5 a6))) ?_;refine fH ?_;refine dB rfl rfl rfl (fun h15=>?_) (fun h15=>?_)
        ·have p15:=of_decide_eq_true h15;refine TL.run 11 rfl ?_;refine eV ?_;exact cO () trivial (.c (.c (.c (.c (.c (.c (.c (.b (fW h15).symm .nil)))))))) (List.Sublist.refl _)
        ·have p15:=of_decide_eq_false h15;refine ed ?_;refine q1h ?_;refine dn ?_;refine cK (c7 (i:=k_13) rfl rfl rfl hd28_1 (List.length_map _) rfl a6) ?_;refine cK (dT 3 (i:=k_13) (j:=0) rfl rfl rfl hd28_1 a6) ?_;refine fH ?_;refine eV ?_;exact cO () trivial (.c (.c (.c (.c (.c (.c (.c (.b (gH h15) .nil)))))))) (List.Sublist.refl _)
       ·rintro _ _;refine T.cond rfl (fun h16=>?_) (fun h16=>?_)
        ·replace hk:=dC hk h16;have hq:(dv (c_11++[(cH ((cH d i_5).Channels) k_13)]).length 8)∧_:=fD hk;clear hk;obtain ⟨g63,hk⟩:=hq; (try dsimp only at hk);refine dH (.still 0 (.still 2 (.still 3 (.still 4 (.still 5 (.still 6 (.still 7 (.still 8 (.still 9 (.two 1 10 (.eff 10 (.eff 11 (.still 12 (.eff 13 .done)))) (.eff 1 (.eff 11 (.still 12 (.eff 13 .done)))))))))))))) [.sl vout_3 59 2 out_3.length cout_3.flatten, .fr F3] a8 Sx ?_;refine gy ?_;refine q18 ?_;refine eL ?_;refine cN rfl (c7 (i:=k_13) rfl rfl rfl hd28_1 (List.length_map _) rfl a6) ?_;refine cN rfl (dT 1 (i:=k_13) (j:=0) rfl rfl rfl hd28_1 a6) ?_;refine TS.two ?_ ?_
         ·refine gg rfl (Wt.none) rfl rfl (cW 1) (fun w hw=>hw.sub Sx) ?_;refine dt ?_;refine mw ?_;rintro _ _ ⟨g62,rfl,rfl⟩;refine jn ?_;refine q2Q ?_;rintro v63 _ ⟨hv63,rfl⟩;refine q3z ?_;rw [←hn12] at hk;refine K.pick [1,2,3,4] rfl a7 ?_;exact q5e
         ·refine mw ?_;rintro _ _ ⟨g62,rfl,rfl⟩;refine jn ?_;refine dt ?_;refine gg rfl (Wt.none) rfl rfl (cW 2) (fun w hw=>hw.sub Sx) ?_;refine q2Q ?_;rintro v63 _ ⟨hv63,rfl⟩;refine q3z ?_;rw [←hn12] at hk;refine K.pick [1,2,3,4] rfl a7 ?_;exact q5e
        ·have p16:=h16; (try simp only [cS] at p16);replace hk:=dD hk h16;refine gV ?_;rw [←hn12] at hk;exact K.next ((k_13+1),c_10,c_11,vc_11) ⟨hk,inferInstance⟩ (by dsimp only;omega) (.c (.c (.c (.c (.c (.c (.c .nil))))))) (List.Sublist.refl _)
      ·have p14:=of_decide_eq_false h14;rw [fL a6,←hkk12] at hk; (try dsimp only at hk);refine ft ?_;exact cO (c_10,c_11,vc_11) ⟨hk,inferInstance⟩ (.c (.c (.c (.c (.c (.c .nil)))))) (List.Sublist.refl _)
    ·rintro ⟨c_7,c_8,vc_8⟩ ⟨hk,oc_8⟩; (try dsimp only at *);rw [←hk9] at hk; (try dsimp only at hk);refine jI (fun w hw=>hw.freezeS (i:=3) (j:=0) a7 rfl rfl) ?_;rintro F4 ⟨le3_4,hz4⟩;refine gF ?_;have le1_4:=le1_3.trans le3_4;have hf4:=hz4.toF rfl (fun _=>rfl);haveI:=hf4.oneC;have hq:(dv (out_3++[(GDomain.mk c_7 c_8)]).length 32)∧_:=fD hk;clear hk;obtain ⟨g68,hk⟩:=hq; (try dsimp only at hk);refine iK ?_;refine iF ?_;refine lR ?_;rintro _ _ ⟨g67,rfl,rfl⟩;have hl67:OwnD cJ F4.toFrz 2 [[.int .i64 c_7,vc_8]] [(GDomain.mk c_7 c_8)]:=(df (OwnD.nil _ _ 2) ⟨_,rfl,hf4⟩);refine cZ (ir 2 0 rfl rfl rfl rfl rfl rfl (m4 (ys:=[(GDomain.mk c_7 c_8)])) (zcY (cs:=cout_3) (ds:=[[.int .i64 c_7,vc_8]])) g68 a7) ?_;rintro v68 _ ⟨hv68,rfl⟩;have ho68:OwnD cJ F4.toFrz 2 (cout_3++[[.int .i64 c_7,vc_8]]) (out_3++[(GDomain.mk c_7 c_8)]):=(df (OwnD.mono (rep:=cJ) (fun _ _ _ _=>GDomain.mono) hout_3 le3_4) ⟨_,rfl,hf4⟩);refine dn ?_;refine mp ?_;refine lM ?_;rw [←hn4] at hk;refine K.pick [2,3] rfl a7 ?_;exact K.next ((i_5+1),(out_3++[(GDomain.mk c_7 c_8)]),v68,(cout_3++[[.int .i64 c_7,vc_8]]),F4) ⟨hk,ho68,inferInstance,le1_4⟩ (by dsimp only;omega) (.c (.c (.c (.c (.c .nil))))) (List.Sublist.refl _)
   ·have p6:=of_decide_eq_false h6;rw [fL a6,←hkk4] at hk; (try dsimp only at hk);refine ft ?_;exact q5d
 ·rintro ⟨out_1,vout_1,cout_1,F2⟩ ⟨hk,hout_1,oout_1,le1_2⟩; (try dsimp only at *);rw [←hk2] at hk; (try dsimp only at hk);refine q2A ?_;rintro F5 ⟨le2_5,hz5⟩;refine gF ?_;have le1_5:=le1_2.trans le2_5;have hf5:=hz5.toD (OwnD.mono (rep:=cJ) (fun _ _ _ _=>GDomain.mono) hout_1 le2_5) rfl;haveI:=hf5.1.oneC;obtain rfl:=Option.some.inj hk;exact cU rfl rfl (fun w' hw=>⟨(vout_1,cout_1),F5.toFrz,hf5,rfl,fQ hw (i:=0) rfl hS0 le1_5⟩)
def kY (low:Int)(c:Int)(high:Int):Bool:=
 ((decide (low≤c))&&(decide (c≤high)))
theorem zci (F0:Frz)(w:World)(hF0:F0.At w)(low:Int)(c:Int)(high:Int):Calls Tryz.prog 167 #[.int .i64 low, .int .i64 c, .int .i64 high] w fun e w'=>e= .returned (.bool (kY low c high))∧Below w.heap.size w w':=by
 obtain ⟨r,hk⟩:∃r,kY low c high=r:=⟨_,rfl⟩;rw [hk];unfold kY at hk;obtain ⟨S0,F1,rfl,hS0,hp0⟩:=fx hF0;refine dz Tryz.func167 rfl rfl rfl hp0 ?_;refine fB ?_;refine dc (ι:=Unit) (fun z=>[(6, .bool ((decide (low≤c))&&(decide (c≤high))))]) (fun z=>[.fr F1]) (fun z=>True) ?_ ?_
 ·refine fP ?_;refine TL.run 4 rfl ?_;refine dB rfl rfl rfl (fun h1=>?_) (fun h1=>?_)
  ·have p1:=of_decide_eq_true h1;refine q2W ?_;exact q4V
  ·have p1:=of_decide_eq_false h1;refine q2W ?_;exact q4I
 ·rintro _ _;refine T.ret ?_;subst hk;exact eA
def lw (d:List GDomain)(station:Int)(channel:Int):Bool:=
 dV (fun (_:Unit)=>
  true)
 (fun k1=>
  di (fun (i_3:Nat) (next2:Unit→Bool) (_:Unit)=>
   dV (fun (_:Unit)=>
    next2 ())
   (fun k5=>
    (bif decide (¬(cH d i_3).Station=station) then
     k5 ()
     else
     di (fun (k_8:Nat) (next7:Unit→Bool) (_:Unit)=>
      (bif decide (¬(cH ((cH d i_3).Channels) k_8)=channel) then
       false
       else
       next7 ()))
     (fun (_:Unit)=>
      k5 ()) ((((cH d i_3).Channels).length) - 0) 0 ())))
  (fun (_:Unit)=>
   k1 ()) (d.length - 0) 0 ())
theorem zcX (F0:Frz)(w:World)(hF0:F0.At w)(d:List GDomain)(vd:Value)(cd:List (List Value))(hd:SlD cJ F0 vd 2 cd d)(station:Int)(channel:Int):Calls Tryz.prog 152 #[vd, .int .i64 station, .int .i64 channel] w fun e w'=>e= .returned (.bool (lw d station channel))∧Below w.heap.size w w':=by
 obtain ⟨r,hk⟩:∃r,lw d station channel=r:=⟨_,rfl⟩;rw [hk];unfold lw at hk;haveI:=hd.1.oneC;obtain ⟨S0,F1,rfl,hS0,hp0⟩:=fx hF0;refine dz Tryz.func152 rfl rfl rfl hp0 ?_;refine gX ?_;refine lD ?_;have hq:=eE hk;clear hk;obtain ⟨k1,hk1,hk⟩:=hq; (try dsimp only at hk);refine dc (ι:=Unit) (fun z=>[]) (fun z=>[.fr F1]) (fun z=>k1 ()=r) ?_ ?_
 ·have hq:=fJ hk;clear hk;obtain ⟨f2,kk2,hf2,hkk2,hk⟩:=hq;refine eY ?_;refine T.loop (ι:=Nat) (fun z=>[(0,vd),(1, .int .i64 station),(2, .int .i64 channel),(7, .int .i64 (z:Int))]) (fun z=>[.fr F1]) (fun z=>di f2 kk2 (d.length - z) z ()=r) (fun z=>d.length - z) 0 ?_ ?_ ?_ ?_
  ·exact hk
  ·exact nk
  ·exact eN
  ·rintro i_3 hk;refine im ?_;refine cK (dg rfl rfl hd.1 hd.2.1) ?_;have hm11:d.length≤9223372036854775807:=hd.2.1▸hd.1.max;refine dJ ?_;refine T.cond rfl (fun h4=>?_) (fun h4=>?_)
   ·have p4:=of_decide_eq_true h4;rw [fK a6] at hk;generalize hn2:di f2 kk2 (d.length - (i_3+1)) (i_3+1)=next2 at hk;rw [←hf2] at hk; (try dsimp only at hk);refine jm ?_;have hq:=eE hk;clear hk;obtain ⟨k5,hk5,hk⟩:=hq; (try dsimp only at hk);refine dc (ι:=Unit) (fun z=>[(0,vd),(1, .int .i64 station),(2, .int .i64 channel),(7, .int .i64 (i_3:Int))]) (fun z=>[.fr F1]) (fun z=>k5 ()=r) ?_ ?_
    ·refine T.block (T.seq (dh ?_));refine ed ?_;refine cK (c7 (i:=i_3) rfl rfl rfl hd.1 hd.2.1 rfl a6) ?_;refine cK (d8 rfl rfl hd.1 hd.2.1 a6) ?_;refine cK (dp 0 (i:=i_3) (j:=0) rfl rfl rfl hd.1 hd.2.1 a6 rfl (GDomain.c0 (hd.2.2 i_3 a6))) ?_;refine jg ?_;refine T.cond rfl (fun h6=>?_) (fun h6=>?_)
     ·have p6:=of_decide_eq_true h6;replace hk:=dC hk h6;refine T.exit (ef (fT ?_));exact q40
     ·have p6:=of_decide_eq_false h6;replace hk:=dD hk h6;refine i2 ?_;refine dJ ?_;have hq:=fJ hk;clear hk;obtain ⟨f7,kk7,hf7,hkk7,hk⟩:=hq;refine eY ?_;refine T.loop (ι:=Nat) (fun z=>[(0,vd),(1, .int .i64 station),(2, .int .i64 channel),(7, .int .i64 (i_3:Int)),(8, .int .i64 (z:Int))]) (fun z=>[.fr F1]) (fun z=>di f7 kk7 ((((cH d i_3).Channels).length) - z) z ()=r) (fun z=>(((cH d i_3).Channels).length) - z) 0 ?_ ?_ ?_ ?_
      ·exact hk
      ·exact lq
      ·exact eN
      ·rintro k_8 hk;refine T.seq (dh ?_);refine fH ?_;refine q2J ?_;have hd27_1:=(GDomain.c1 (hd.2.2 i_3 a6)).2;haveI:=hd27_1.oneC;refine cK (dg rfl rfl hd27_1 (List.length_map _)) ?_;have hm28:((cH d i_3).Channels).length≤9223372036854775807:=(List.length_map _)▸hd27_1.max;refine dJ ?_;refine T.cond rfl (fun h9=>?_) (fun h9=>?_)
       ·have p9:=of_decide_eq_true h9;rw [fK a6] at hk;generalize hn7:di f7 kk7 ((((cH d i_3).Channels).length) - (k_8+1)) (k_8+1)=next7 at hk;rw [←hf7] at hk; (try dsimp only at hk);refine my ?_;refine q2J ?_;refine dn ?_;refine cK (c7 (i:=k_8) rfl rfl rfl hd27_1 (List.length_map _) rfl a6) ?_;refine cK (dT 0 (i:=k_8) (j:=0) rfl rfl rfl hd27_1 a6) ?_;refine jg ?_;refine T.cond rfl (fun h10=>?_) (fun h10=>?_)
        ·have p10:=of_decide_eq_true h10;replace hk:=dC hk h10;refine gX ?_;refine cR (T.ret (ek (dS (dS (ek (ek (dS (dS (ek (dS ?_))))))))));subst hk;exact eA
        ·have p10:=of_decide_eq_false h10;replace hk:=dD hk h10;refine gV ?_;rw [←hn7] at hk;exact K.next (k_8+1) hk a6 (.c (.c (.c (.c (.c .nil))))) (List.Sublist.refl _)
       ·have p9:=of_decide_eq_false h9;rw [fL a6,←hkk7] at hk; (try dsimp only at hk);refine q3M ?_;exact q40
    ·rintro _ hk;rw [←hk5] at hk; (try dsimp only at hk);refine iK ?_;refine kN ?_;rw [←hn2] at hk;exact q4W
   ·have p4:=of_decide_eq_false h4;rw [fL a6,←hkk2] at hk; (try dsimp only at hk);refine ft ?_;exact kv
 ·rintro _ hk;rw [←hk1] at hk; (try dsimp only at hk);refine kn ?_;subst hk;exact eA
def zbH (p:GProblem)(d:List GDomain)(s:Int)(c:Int):Bool:=
 dV (fun (_:Unit)=>
  false)
 (fun k1=>
  di (fun (i_3:Nat) (next2:Unit→Bool) (_:Unit)=>
   (bif (((decide ((cH p.Rules.Pairs i_3).A=s))&&(kY ((cH p.Rules.Pairs i_3).Low) c ((cH p.Rules.Pairs i_3).High)))&&(lw d ((cH p.Rules.Pairs i_3).B) (wI (c+((cH p.Rules.Pairs i_3).Offset))))) then
    true
    else
    (bif (((decide ((cH p.Rules.Pairs i_3).B=s))&&(kY ((cH p.Rules.Pairs i_3).Low) (wI (c - ((cH p.Rules.Pairs i_3).Offset))) ((cH p.Rules.Pairs i_3).High)))&&(lw d ((cH p.Rules.Pairs i_3).A) (wI (c - ((cH p.Rules.Pairs i_3).Offset))))) then
     true
     else
     next2 ())))
  (fun (_:Unit)=>
   k1 ()) (p.Rules.Pairs.length - 0) 0 ())
theorem zgJ (F0:Frz)(w:World)(hF0:F0.At w)(p:GProblem)(vp_0:Value)(cp_0:List (List Value))(hp_0:SlD cJ F0 vp_0 2 cp_0 p.Domains)(vp_1:Value)(hp_1:SlC F0 vp_1 5 (p.Rules.Pairs.map cY))(vp_2:Value)(hp_2:SlC F0 vp_2 5 (p.Rules.Loads.map c4))(vp_3:Value)(hp_3:SlC F0 vp_3 4 (p.Rules.Caps.map dk))(d:List GDomain)(vd:Value)(cd:List (List Value))(hd:SlD cJ F0 vd 2 cd d)(s:Int)(c:Int):Calls Tryz.prog 153 #[.agg [vp_0,vp_1,vp_2,vp_3].toArray,vd, .int .i64 s, .int .i64 c] w fun e w'=>e= .returned (.bool (zbH p d s c))∧Below w.heap.size w w':=by
 obtain ⟨r,hk⟩:∃r,zbH p d s c=r:=⟨_,rfl⟩;rw [hk];unfold zbH at hk;haveI:=hp_0.1.oneC;haveI:=hp_1.oneC;haveI:=hp_2.oneC;haveI:=hp_3.oneC;haveI:=hd.1.oneC;obtain ⟨S0,F1,rfl,hS0,hp0⟩:=fx hF0;refine dz Tryz.func153 rfl rfl rfl hp0 ?_;refine iW ?_;rintro _ _ ⟨g4,rfl,rfl⟩;refine mj ?_;have hq:=eE hk;clear hk;obtain ⟨k1,hk1,hk⟩:=hq; (try dsimp only at hk);refine dc (ι:=Unit) (fun z=>[]) (fun z=>[.fr F1]) (fun z=>k1 ()=r) ?_ ?_
 ·have hq:=fJ hk;clear hk;obtain ⟨f2,kk2,hf2,hkk2,hk⟩:=hq;refine eY ?_;refine T.loop (ι:=Nat) (fun z=>[(1,vd),(2, .int .i64 s),(3, .int .i64 c),(4, .pointer (some ⟨g4,0,none⟩)),(9, .int .i64 (z:Int))]) (fun z=>[.row g4 31 [vp_0,vp_1,vp_2,vp_3], .fr F1]) (fun z=>di f2 kk2 (p.Rules.Pairs.length - z) z ()=r) (fun z=>p.Rules.Pairs.length - z) 0 ?_ ?_ ?_ ?_
  ·exact hk
  ·exact lq
  ·exact eN
  ·rintro i_3 hk;refine q2c ?_;refine cK (dg rfl rfl hp_1 (List.length_map _)) ?_;have hm15:p.Rules.Pairs.length≤9223372036854775807:=(List.length_map _)▸hp_1.max;refine dJ ?_;refine T.cond rfl (fun h4=>?_) (fun h4=>?_)
   ·have p4:=of_decide_eq_true h4;rw [fK a6] at hk;generalize hn2:di f2 kk2 (p.Rules.Pairs.length - (i_3+1)) (i_3+1)=next2 at hk;rw [←hf2] at hk; (try dsimp only at hk);refine fU ?_;refine fv ?_;refine mD ?_;refine cK (c7 (i:=i_3) rfl rfl rfl hp_1 (List.length_map _) rfl a6) ?_;refine cK (ei 1 (i:=i_3) rfl rfl rfl hp_1 a6) ?_;refine gR ?_;rintro _ _ ⟨g10,rfl,rfl⟩;refine kd ?_;refine cR (T.seq (T.seq ?_));refine dc (ι:=Unit) (fun z=>[(1,vd),(2, .int .i64 s),(3, .int .i64 c),(4, .pointer (some ⟨g4,0,none⟩)),(9, .int .i64 (i_3:Int)),(10, .pointer (some ⟨g10,0,none⟩)),(46, .bool (((decide ((cH p.Rules.Pairs i_3).A=s))&&(kY ((cH p.Rules.Pairs i_3).Low) c ((cH p.Rules.Pairs i_3).High)))&&(lw d ((cH p.Rules.Pairs i_3).B) (wI (c+((cH p.Rules.Pairs i_3).Offset))))))]) (fun z=>[.row g10 69 [.int .i64 ((cH p.Rules.Pairs i_3).A), .int .i64 ((cH p.Rules.Pairs i_3).B), .int .i64 ((cH p.Rules.Pairs i_3).Offset), .int .i64 ((cH p.Rules.Pairs i_3).Low), .int .i64 ((cH p.Rules.Pairs i_3).High)], .row g4 31 [vp_0,vp_1,vp_2,vp_3], .fr F1]) (fun z=>True) ?_ ?_
    ·refine fP ?_;refine nh ?_;refine dB rfl rfl rfl (fun h5=>?_) (fun h5=>?_)
     ·have p5:=of_decide_eq_true h5;refine eM ?_;refine jQ ?_;refine cZ (cL rfl rfl rfl (fun w hw=>zci _ w (hw.fr (i:=2) rfl) ((cH p.Rules.Pairs i_3).Low) c ((cH p.Rules.Pairs i_3).High))) ?_;refine kK ?_;refine dB rfl rfl rfl (fun h6=>?_) (fun h6=>?_)
      ·refine jQ ?_;refine jQ ?_;refine dn ?_;refine cZ (cL rfl rfl rfl (fun w hw=>zcX _ w (hw.fr (i:=2) rfl) d vd cd hd ((cH p.Rules.Pairs i_3).B) (wI (c+((cH p.Rules.Pairs i_3).Offset))))) ?_;refine eW ?_;refine dn ?_;refine eV ?_;exact cO () trivial (.c (.c (.c (.c (.c (.c (.b (kI (iE h5 h6)) .nil))))))) (List.Sublist.refl _)
      ·refine TL.run 9 rfl ?_;refine eV ?_;exact cO () trivial (.c (.c (.c (.c (.c (.c (.b (gh (iE h5 h6)).symm .nil))))))) (List.Sublist.refl _)
     ·have p5:=of_decide_eq_false h5;refine TL.run 17 rfl ?_;refine eV ?_;exact cO () trivial (.c (.c (.c (.c (.c (.c (.b (gh (gh h5)).symm .nil))))))) (List.Sublist.refl _)
    ·rintro _ _;refine T.cond rfl (fun h7=>?_) (fun h7=>?_)
     ·have p7:=h7; (try simp only [cS] at p7);replace hk:=dC hk h7;refine gX ?_;refine q3L ?_;subst hk;exact eA
     ·replace hk:=dD hk h7;refine jm ?_;refine dc (ι:=Unit) (fun z=>[(1,vd),(2, .int .i64 s),(3, .int .i64 c),(4, .pointer (some ⟨g4,0,none⟩)),(9, .int .i64 (i_3:Int)),(71, .bool (((decide ((cH p.Rules.Pairs i_3).B=s))&&(kY ((cH p.Rules.Pairs i_3).Low) (wI (c - ((cH p.Rules.Pairs i_3).Offset))) ((cH p.Rules.Pairs i_3).High)))&&(lw d ((cH p.Rules.Pairs i_3).A) (wI (c - ((cH p.Rules.Pairs i_3).Offset))))))]) (fun z=>[.row g10 69 [.int .i64 ((cH p.Rules.Pairs i_3).A), .int .i64 ((cH p.Rules.Pairs i_3).B), .int .i64 ((cH p.Rules.Pairs i_3).Offset), .int .i64 ((cH p.Rules.Pairs i_3).Low), .int .i64 ((cH p.Rules.Pairs i_3).High)], .row g4 31 [vp_0,vp_1,vp_2,vp_3], .fr F1]) (fun z=>True) ?_ ?_
      ·refine fP ?_;refine nh ?_;refine dB rfl rfl rfl (fun h8=>?_) (fun h8=>?_)
       ·have p8:=of_decide_eq_true h8;refine eM ?_;refine jQ ?_;refine jQ ?_;refine cZ (cL rfl rfl rfl (fun w hw=>zci _ w (hw.fr (i:=2) rfl) ((cH p.Rules.Pairs i_3).Low) (wI (c - ((cH p.Rules.Pairs i_3).Offset))) ((cH p.Rules.Pairs i_3).High))) ?_;refine kK ?_;refine dB rfl rfl rfl (fun h9=>?_) (fun h9=>?_)
        ·refine jQ ?_;refine jQ ?_;refine dn ?_;refine cZ (cL rfl rfl rfl (fun w hw=>zcX _ w (hw.fr (i:=2) rfl) d vd cd hd ((cH p.Rules.Pairs i_3).A) (wI (c - ((cH p.Rules.Pairs i_3).Offset))))) ?_;refine eW ?_;refine dn ?_;refine eV ?_;exact cO () trivial (.c (.c (.c (.c (.c (.b (kI (iE h8 h9)) .nil)))))) (List.Sublist.refl _)
        ·refine TL.run 9 rfl ?_;refine eV ?_;exact cO () trivial (.c (.c (.c (.c (.c (.b (gh (iE h8 h9)).symm .nil)))))) (List.Sublist.refl _)
       ·have p8:=of_decide_eq_false h8;refine TL.run 20 rfl ?_;refine eV ?_;exact cO () trivial (.c (.c (.c (.c (.c (.b (gh (gh h8)).symm .nil)))))) (List.Sublist.refl _)
      ·rintro _ _;refine T.cond rfl (fun h10=>?_) (fun h10=>?_)
       ·have p10:=h10; (try simp only [cS] at p10);replace hk:=dC hk h10;refine iX ?_;subst hk;exact eA
       ·replace hk:=dD hk h10;refine gV ?_;rw [←hn2] at hk;refine mf ?_;exact q41
   ·have p4:=of_decide_eq_false h4;rw [fL a6,←hkk2] at hk; (try dsimp only at hk);refine q2b ?_;exact kv
 ·rintro _ hk;rw [←hk1] at hk; (try dsimp only at hk);refine kn ?_;subst hk;exact eA
def mQ (p:GProblem)(d:List GDomain)(to_:Int)(c:Int)(further:Int):Int:=
 dV (fun (n_1:Int)=>
  n_1)
 (fun k2=>
  di (fun (i_5:Nat) (next4:Int→Int) (n_3:Int)=>
   (bif (((decide ((cH p.Rules.Loads i_5).To=to_))&&(kY ((cH p.Rules.Loads i_5).Low) c ((cH p.Rules.Loads i_5).High)))&&((decide ((cH p.Rules.Loads i_5).From=further))||(lw d ((cH p.Rules.Loads i_5).From) c))) then
    next4 (wI (n_3+((cH p.Rules.Loads i_5).Weight)))
    else
    next4 n_3))
  (fun (n_3:Int)=>
   k2 n_3) (p.Rules.Loads.length - 0) 0 0)
theorem zgd (F0:Frz)(w:World)(hF0:F0.At w)(p:GProblem)(vp_0:Value)(cp_0:List (List Value))(hp_0:SlD cJ F0 vp_0 2 cp_0 p.Domains)(vp_1:Value)(hp_1:SlC F0 vp_1 5 (p.Rules.Pairs.map cY))(vp_2:Value)(hp_2:SlC F0 vp_2 5 (p.Rules.Loads.map c4))(vp_3:Value)(hp_3:SlC F0 vp_3 4 (p.Rules.Caps.map dk))(d:List GDomain)(vd:Value)(cd:List (List Value))(hd:SlD cJ F0 vd 2 cd d)(to_:Int)(c:Int)(further:Int):Calls Tryz.prog 155 #[.agg [vp_0,vp_1,vp_2,vp_3].toArray,vd, .int .i64 to_, .int .i64 c, .int .i64 further] w fun e w'=>e= .returned (.int .i64 (mQ p d to_ c further))∧Below w.heap.size w w':=by
 obtain ⟨r,hk⟩:∃r,mQ p d to_ c further=r:=⟨_,rfl⟩;rw [hk];unfold mQ at hk;haveI:=hp_0.1.oneC;haveI:=hp_1.oneC;haveI:=hp_2.oneC;haveI:=hp_3.oneC;haveI:=hd.1.oneC;obtain ⟨S0,F1,rfl,hS0,hp0⟩:=fx hF0;refine dz Tryz.func155 rfl rfl rfl hp0 ?_;refine iW ?_;rintro _ _ ⟨g5,rfl,rfl⟩;refine gM ?_;refine mj ?_;have hq:=eE hk;clear hk;obtain ⟨k2,hk2,hk⟩:=hq; (try dsimp only at hk);refine dc (ι:=Int) (fun z=>[(11, .int .i64 z)]) (fun z=>[.fr F1]) (fun z=>k2 z=r) ?_ ?_
 ·have hq:=fJ hk;clear hk;obtain ⟨f4,kk4,hf4,hkk4,hk⟩:=hq;refine eY ?_;refine T.loop (ι:=Nat×Int) (fun z=>[(1,vd),(2, .int .i64 to_),(3, .int .i64 c),(4, .int .i64 further),(5, .pointer (some ⟨g5,0,none⟩)),(11, .int .i64 z.2),(12, .int .i64 (z.1:Int))]) (fun z=>[.row g5 31 [vp_0,vp_1,vp_2,vp_3], .fr F1]) (fun z=>di f4 kk4 (p.Rules.Loads.length - z.1) z.1 z.2=r) (fun z=>p.Rules.Loads.length - z.1) (0,0) ?_ ?_ ?_ ?_
  ·exact hk
  ·exact q4K
  ·exact eN
  ·rintro ⟨i_5,n_3⟩ hk; (try dsimp only at *);refine q2c ?_;refine q4m ?_;have hm18:p.Rules.Loads.length≤9223372036854775807:=(List.length_map _)▸hp_2.max;refine dJ ?_;refine T.cond rfl (fun h6=>?_) (fun h6=>?_)
   ·have p6:=of_decide_eq_true h6;rw [fK a6] at hk;generalize hn4:di f4 kk4 (p.Rules.Loads.length - (i_5+1)) (i_5+1)=next4 at hk;rw [←hf4] at hk; (try dsimp only at hk);refine fU ?_;refine fv ?_;refine mD ?_;refine cK (c7 (i:=i_5) rfl rfl rfl hp_2 (List.length_map _) rfl a6) ?_;refine cK (ei 1 (i:=i_5) rfl rfl rfl hp_2 a6) ?_;refine gR ?_;rintro _ _ ⟨g13,rfl,rfl⟩;refine mB ?_;refine dc (ι:=Unit) (fun z=>[(1,vd),(2, .int .i64 to_),(3, .int .i64 c),(4, .int .i64 further),(5, .pointer (some ⟨g5,0,none⟩)),(11, .int .i64 n_3),(12, .int .i64 (i_5:Int)),(13, .pointer (some ⟨g13,0,none⟩)),(52, .bool (((decide ((cH p.Rules.Loads i_5).To=to_))&&(kY ((cH p.Rules.Loads i_5).Low) c ((cH p.Rules.Loads i_5).High)))&&((decide ((cH p.Rules.Loads i_5).From=further))||(lw d ((cH p.Rules.Loads i_5).From) c))))]) (fun z=>[.row g13 71 [.int .i64 ((cH p.Rules.Loads i_5).To), .int .i64 ((cH p.Rules.Loads i_5).From), .int .i64 ((cH p.Rules.Loads i_5).Weight), .int .i64 ((cH p.Rules.Loads i_5).Low), .int .i64 ((cH p.Rules.Loads i_5).High)], .row g5 31 [vp_0,vp_1,vp_2,vp_3], .fr F1]) (fun z=>True) ?_ ?_
    ·refine fP ?_;refine nh ?_;refine dB rfl rfl rfl (fun h7=>?_) (fun h7=>?_)
     ·have p7:=of_decide_eq_true h7;refine eM ?_;refine jQ ?_;refine cZ (cL rfl rfl rfl (fun w hw=>zci _ w (hw.fr (i:=2) rfl) ((cH p.Rules.Loads i_5).Low) c ((cH p.Rules.Loads i_5).High))) ?_;refine kK ?_;refine dB rfl rfl rfl (fun h8=>?_) (fun h8=>?_)
      ·refine nh ?_;refine dB rfl rfl rfl (fun h9=>?_) (fun h9=>?_)
       ·have p9:=of_decide_eq_true h9;refine TL.run 7 rfl ?_;refine eV ?_;exact cO () trivial (.c (.c (.c (.c (.c (.c (.c (.c (.b (iE (iE h7 h8) (fW h9)).symm .nil))))))))) (List.Sublist.refl _)
       ·have p9:=of_decide_eq_false h9;refine jQ ?_;refine dn ?_;refine cZ (cL rfl rfl rfl (fun w hw=>zcX _ w (hw.fr (i:=2) rfl) d vd cd hd ((cH p.Rules.Loads i_5).From) c)) ?_;refine kK ?_;refine eV ?_;exact cO () trivial (.c (.c (.c (.c (.c (.c (.c (.c (.b (Eq.trans (gH h9) (kI (iE h7 h8))) .nil))))))))) (List.Sublist.refl _)
      ·refine TL.run 12 rfl ?_;refine eV ?_;exact cO () trivial (.c (.c (.c (.c (.c (.c (.c (.c (.b (gh (iE h7 h8)).symm .nil))))))))) (List.Sublist.refl _)
     ·have p7:=of_decide_eq_false h7;refine TL.run 20 rfl ?_;refine eV ?_;exact cO () trivial (.c (.c (.c (.c (.c (.c (.c (.c (.b (gh (gh h7)).symm .nil))))))))) (List.Sublist.refl _)
    ·rintro _ _;refine T.cond rfl (fun h10=>?_) (fun h10=>?_)
     ·have p10:=h10; (try simp only [cS] at p10);replace hk:=dC hk h10;refine iK ?_;refine eM ?_;refine ed ?_;refine mp ?_;refine lM ?_;rw [←hn4] at hk;refine mf ?_;exact K.next ((i_5+1),wI (n_3+((cH p.Rules.Loads i_5).Weight))) hk (by dsimp only;omega) (.c (.c (.c (.c (.c (.c (.c .nil))))))) (List.Sublist.refl _)
     ·replace hk:=dD hk h10;refine gV ?_;rw [←hn4] at hk;refine mf ?_;exact K.next ((i_5+1),n_3) hk (by dsimp only;omega) (.c (.c (.c (.c (.c (.c (.c .nil))))))) (List.Sublist.refl _)
   ·have p6:=of_decide_eq_false h6;rw [fL a6,←hkk4] at hk; (try dsimp only at hk);refine q2b ?_;exact cO n_3 hk (.c .nil) (List.Sublist.refl _)
 ·rintro n_1 hk;rw [←hk2] at hk; (try dsimp only at hk);refine ip ?_;refine gk ?_;subst hk;exact eA
def zbG (p:GProblem)(station:Int)(c:Int)(loss:Int):Bool:=
 dV (fun (_:Unit)=>
  false)
 (fun k1=>
  di (fun (i_3:Nat) (next2:Unit→Bool) (_:Unit)=>
   (bif (((decide ((cH p.Rules.Caps i_3).Station=station))&&(kY ((cH p.Rules.Caps i_3).Low) c ((cH p.Rules.Caps i_3).High)))&&(decide ((cH p.Rules.Caps i_3).Max<loss))) then
    true
    else
    next2 ()))
  (fun (_:Unit)=>
   k1 ()) (p.Rules.Caps.length - 0) 0 ())
theorem zfE (F0:Frz)(w:World)(hF0:F0.At w)(p:GProblem)(vp_0:Value)(cp_0:List (List Value))(hp_0:SlD cJ F0 vp_0 2 cp_0 p.Domains)(vp_1:Value)(hp_1:SlC F0 vp_1 5 (p.Rules.Pairs.map cY))(vp_2:Value)(hp_2:SlC F0 vp_2 5 (p.Rules.Loads.map c4))(vp_3:Value)(hp_3:SlC F0 vp_3 4 (p.Rules.Caps.map dk))(station:Int)(c:Int)(loss:Int):Calls Tryz.prog 154 #[.agg [vp_0,vp_1,vp_2,vp_3].toArray, .int .i64 station, .int .i64 c, .int .i64 loss] w fun e w'=>e= .returned (.bool (zbG p station c loss))∧Below w.heap.size w w':=by
 obtain ⟨r,hk⟩:∃r,zbG p station c loss=r:=⟨_,rfl⟩;rw [hk];unfold zbG at hk;haveI:=hp_0.1.oneC;haveI:=hp_1.oneC;haveI:=hp_2.oneC;haveI:=hp_3.oneC;obtain ⟨S0,F1,rfl,hS0,hp0⟩:=fx hF0;refine dz Tryz.func154 rfl rfl rfl hp0 ?_;refine iW ?_;rintro _ _ ⟨g4,rfl,rfl⟩;refine mj ?_;have hq:=eE hk;clear hk;obtain ⟨k1,hk1,hk⟩:=hq; (try dsimp only at hk);refine dc (ι:=Unit) (fun z=>[]) (fun z=>[.fr F1]) (fun z=>k1 ()=r) ?_ ?_
 ·have hq:=fJ hk;clear hk;obtain ⟨f2,kk2,hf2,hkk2,hk⟩:=hq;refine eY ?_;refine T.loop (ι:=Nat) (fun z=>[(1, .int .i64 station),(2, .int .i64 c),(3, .int .i64 loss),(4, .pointer (some ⟨g4,0,none⟩)),(9, .int .i64 (z:Int))]) (fun z=>[.row g4 31 [vp_0,vp_1,vp_2,vp_3], .fr F1]) (fun z=>di f2 kk2 (p.Rules.Caps.length - z) z ()=r) (fun z=>p.Rules.Caps.length - z) 0 ?_ ?_ ?_ ?_
  ·exact hk
  ·exact lq
  ·exact eN
  ·rintro i_3 hk;refine q2c ?_;refine cK (dg rfl rfl hp_3 (List.length_map _)) ?_;have hm15:p.Rules.Caps.length≤9223372036854775807:=(List.length_map _)▸hp_3.max;refine dJ ?_;refine T.cond rfl (fun h4=>?_) (fun h4=>?_)
   ·have p4:=of_decide_eq_true h4;rw [fK a6] at hk;generalize hn2:di f2 kk2 (p.Rules.Caps.length - (i_3+1)) (i_3+1)=next2 at hk;rw [←hf2] at hk; (try dsimp only at hk);refine fU ?_;refine fv ?_;refine mD ?_;refine cK (c7 (i:=i_3) rfl rfl rfl hp_3 (List.length_map _) rfl a6) ?_;refine cK (ei 1 (i:=i_3) rfl rfl rfl hp_3 a6) ?_;refine gR ?_;rintro _ _ ⟨g10,rfl,rfl⟩;refine mB ?_;refine dc (ι:=Unit) (fun z=>[(1, .int .i64 station),(2, .int .i64 c),(3, .int .i64 loss),(4, .pointer (some ⟨g4,0,none⟩)),(9, .int .i64 (i_3:Int)),(42, .bool (((decide ((cH p.Rules.Caps i_3).Station=station))&&(kY ((cH p.Rules.Caps i_3).Low) c ((cH p.Rules.Caps i_3).High)))&&(decide ((cH p.Rules.Caps i_3).Max<loss))))]) (fun z=>[.row g10 73 [.int .i64 ((cH p.Rules.Caps i_3).Station), .int .i64 ((cH p.Rules.Caps i_3).Max), .int .i64 ((cH p.Rules.Caps i_3).Low), .int .i64 ((cH p.Rules.Caps i_3).High)], .row g4 31 [vp_0,vp_1,vp_2,vp_3], .fr F1]) (fun z=>True) ?_ ?_
    ·refine fP ?_;refine nh ?_;refine dB rfl rfl rfl (fun h5=>?_) (fun h5=>?_)
     ·have p5:=of_decide_eq_true h5;refine eM ?_;refine jQ ?_;refine cZ (cL rfl rfl rfl (fun w hw=>zci _ w (hw.fr (i:=2) rfl) ((cH p.Rules.Caps i_3).Low) c ((cH p.Rules.Caps i_3).High))) ?_;refine kK ?_;refine dB rfl rfl rfl (fun h6=>?_) (fun h6=>?_)
      ·refine jQ ?_;refine ed ?_;refine eV ?_;exact cO () trivial (.c (.c (.c (.c (.c (.b (kI (iE h5 h6)) .nil)))))) (List.Sublist.refl _)
      ·refine q2W ?_;exact cO () trivial (.c (.c (.c (.c (.c (.b (gh (iE h5 h6)).symm .nil)))))) (List.Sublist.refl _)
     ·have p5:=of_decide_eq_false h5;refine TL.run 13 rfl ?_;refine eV ?_;exact cO () trivial (.c (.c (.c (.c (.c (.b (gh (gh h5)).symm .nil)))))) (List.Sublist.refl _)
    ·rintro _ _;refine T.cond rfl (fun h7=>?_) (fun h7=>?_)
     ·have p7:=h7; (try simp only [cS] at p7);replace hk:=dC hk h7;refine iX ?_;subst hk;exact eA
     ·replace hk:=dD hk h7;refine gV ?_;rw [←hn2] at hk;refine mf ?_;exact q41
   ·have p4:=of_decide_eq_false h4;rw [fL a6,←hkk2] at hk; (try dsimp only at hk);refine q2b ?_;exact kv
 ·rintro _ hk;rw [←hk1] at hk; (try dsimp only at hk);refine kn ?_;subst hk;exact eA
def zbJ (p:GProblem)(d:List GDomain)(s:Int)(c:Int):Bool:=
 dV (fun (_:Unit)=>
  false)
 (fun k1=>
  di (fun (i_3:Nat) (next2:Unit→Bool) (_:Unit)=>
   (bif ((((decide ((cH p.Rules.Loads i_3).From=s))&&(kY ((cH p.Rules.Loads i_3).Low) c ((cH p.Rules.Loads i_3).High)))&&(lw d ((cH p.Rules.Loads i_3).To) c))&&(zbG p ((cH p.Rules.Loads i_3).To) c (mQ p d ((cH p.Rules.Loads i_3).To) c s))) then
    true
    else
    next2 ()))
  (fun (_:Unit)=>
   k1 ()) (p.Rules.Loads.length - 0) 0 ())
theorem zgD (F0:Frz)(w:World)(hF0:F0.At w)(p:GProblem)(vp_0:Value)(cp_0:List (List Value))(hp_0:SlD cJ F0 vp_0 2 cp_0 p.Domains)(vp_1:Value)(hp_1:SlC F0 vp_1 5 (p.Rules.Pairs.map cY))(vp_2:Value)(hp_2:SlC F0 vp_2 5 (p.Rules.Loads.map c4))(vp_3:Value)(hp_3:SlC F0 vp_3 4 (p.Rules.Caps.map dk))(d:List GDomain)(vd:Value)(cd:List (List Value))(hd:SlD cJ F0 vd 2 cd d)(s:Int)(c:Int):Calls Tryz.prog 156 #[.agg [vp_0,vp_1,vp_2,vp_3].toArray,vd, .int .i64 s, .int .i64 c] w fun e w'=>e= .returned (.bool (zbJ p d s c))∧Below w.heap.size w w':=by
 obtain ⟨r,hk⟩:∃r,zbJ p d s c=r:=⟨_,rfl⟩;rw [hk];unfold zbJ at hk;haveI:=hp_0.1.oneC;haveI:=hp_1.oneC;haveI:=hp_2.oneC;haveI:=hp_3.oneC;haveI:=hd.1.oneC;obtain ⟨S0,F1,rfl,hS0,hp0⟩:=fx hF0;refine dz Tryz.func156 rfl rfl rfl hp0 ?_;refine iW ?_;rintro _ _ ⟨g4,rfl,rfl⟩;refine mj ?_;have hq:=eE hk;clear hk;obtain ⟨k1,hk1,hk⟩:=hq; (try dsimp only at hk);refine dc (ι:=Unit) (fun z=>[]) (fun z=>[.fr F1]) (fun z=>k1 ()=r) ?_ ?_
 ·have hq:=fJ hk;clear hk;obtain ⟨f2,kk2,hf2,hkk2,hk⟩:=hq;refine eY ?_;refine T.loop (ι:=Nat) (fun z=>[(1,vd),(2, .int .i64 s),(3, .int .i64 c),(4, .pointer (some ⟨g4,0,none⟩)),(9, .int .i64 (z:Int))]) (fun z=>[.row g4 31 [vp_0,vp_1,vp_2,vp_3], .fr F1]) (fun z=>di f2 kk2 (p.Rules.Loads.length - z) z ()=r) (fun z=>p.Rules.Loads.length - z) 0 ?_ ?_ ?_ ?_
  ·exact hk
  ·exact lq
  ·exact eN
  ·rintro i_3 hk;refine q2c ?_;refine q4m ?_;have hm15:p.Rules.Loads.length≤9223372036854775807:=(List.length_map _)▸hp_2.max;refine dJ ?_;refine T.cond rfl (fun h4=>?_) (fun h4=>?_)
   ·have p4:=of_decide_eq_true h4;rw [fK a6] at hk;generalize hn2:di f2 kk2 (p.Rules.Loads.length - (i_3+1)) (i_3+1)=next2 at hk;rw [←hf2] at hk; (try dsimp only at hk);refine fU ?_;refine fv ?_;refine mD ?_;refine cK (c7 (i:=i_3) rfl rfl rfl hp_2 (List.length_map _) rfl a6) ?_;refine cK (ei 1 (i:=i_3) rfl rfl rfl hp_2 a6) ?_;refine gR ?_;rintro _ _ ⟨g10,rfl,rfl⟩;refine mB ?_;refine dc (ι:=Unit) (fun z=>[(1,vd),(2, .int .i64 s),(3, .int .i64 c),(4, .pointer (some ⟨g4,0,none⟩)),(9, .int .i64 (i_3:Int)),(57, .bool ((((decide ((cH p.Rules.Loads i_3).From=s))&&(kY ((cH p.Rules.Loads i_3).Low) c ((cH p.Rules.Loads i_3).High)))&&(lw d ((cH p.Rules.Loads i_3).To) c))&&(zbG p ((cH p.Rules.Loads i_3).To) c (mQ p d ((cH p.Rules.Loads i_3).To) c s))))]) (fun z=>[.row g10 71 [.int .i64 ((cH p.Rules.Loads i_3).To), .int .i64 ((cH p.Rules.Loads i_3).From), .int .i64 ((cH p.Rules.Loads i_3).Weight), .int .i64 ((cH p.Rules.Loads i_3).Low), .int .i64 ((cH p.Rules.Loads i_3).High)], .row g4 31 [vp_0,vp_1,vp_2,vp_3], .fr F1]) (fun z=>True) ?_ ?_
    ·refine dH (sN 0 10 (.eff 10 (sN 11 6 (.eff 17 (sN 18 12 (.eff 30 (.eff 31 (.still 32 .done)))))))) _ a8 (List.Sublist.refl _) ?_;refine fg ?_;refine fM ?_;refine dw rfl rfl rfl rfl (fun h5=>?_) (fun h5=>?_)
     ·have p5:=of_decide_eq_true h5;refine fg ?_;refine eL ?_;refine mo ?_;refine cQ rfl (Wt.some) rfl rfl (cL rfl rfl rfl (fun w hw=>zci _ w (hw.fr (i:=2) rfl) ((cH p.Rules.Loads i_3).Low) c ((cH p.Rules.Loads i_3).High))) ?_;refine mb ?_;refine dw rfl rfl rfl rfl (fun h6=>?_) (fun h6=>?_)
      ·refine eL ?_;refine fg ?_;refine eL ?_;refine dt ?_;refine cQ rfl (Wt.some) rfl rfl (cL rfl rfl rfl (fun w hw=>zcX _ w (hw.fr (i:=2) rfl) d vd cd hd ((cH p.Rules.Loads i_3).To) c)) ?_;refine mb ?_;refine dw rfl rfl rfl rfl (fun h7=>?_) (fun h7=>?_)
       ·refine cN rfl (fi 1) ?_;refine fg ?_;refine eL ?_;refine cN rfl (fi 1) ?_;refine eL ?_;refine fg ?_;refine fj ?_;refine dt ?_;refine cQ rfl (Wt.some) rfl rfl (cL rfl rfl rfl (fun w hw=>zgd _ w (hw.fr (i:=2) rfl) p vp_0 cp_0 hp_0 vp_1 hp_1 vp_2 hp_2 vp_3 hp_3 d vd cd hd ((cH p.Rules.Loads i_3).To) c s)) ?_;refine i6 ?_;refine dt ?_;refine cQ rfl (Wt.some) rfl rfl (cL rfl rfl rfl (fun w hw=>zfE _ w (hw.fr (i:=2) rfl) p vp_0 cp_0 hp_0 vp_1 hp_1 vp_2 hp_2 vp_3 hp_3 ((cH p.Rules.Loads i_3).To) c (mQ p d ((cH p.Rules.Loads i_3).To) c s))) ?_;refine i6 ?_;refine jT ?_;exact cO () trivial (.c (.c (.c (.c (.c (.b (kI (iE (iE h5 h6) h7)) .nil)))))) (List.Sublist.refl _)
       ·refine TS.run 10 rfl ?_;refine ie ?_;refine ie ?_;refine jT ?_;exact cO () trivial (.c (.c (.c (.c (.c (.b (gh (iE (iE h5 h6) h7)).symm .nil)))))) (List.Sublist.refl _)
      ·refine TS.run 4 rfl ?_;refine ie ?_;refine TS.run 12 rfl ?_;refine ie ?_;refine ie ?_;refine jT ?_;exact cO () trivial (.c (.c (.c (.c (.c (.b (gh (gh (iE h5 h6))).symm .nil)))))) (List.Sublist.refl _)
     ·have p5:=of_decide_eq_false h5;refine TS.run 5 rfl ?_;refine ie ?_;refine TS.run 6 rfl ?_;refine ie ?_;refine TS.run 12 rfl ?_;refine ie ?_;refine ie ?_;refine jT ?_;exact cO () trivial (.c (.c (.c (.c (.c (.b (gh (gh (gh h5))).symm .nil)))))) (List.Sublist.refl _)
    ·rintro _ _;refine T.cond rfl (fun h8=>?_) (fun h8=>?_)
     ·have p8:=h8; (try simp only [cS] at p8);replace hk:=dC hk h8;refine iX ?_;subst hk;exact eA
     ·replace hk:=dD hk h8;refine gV ?_;rw [←hn2] at hk;refine mf ?_;exact q41
   ·have p4:=of_decide_eq_false h4;rw [fL a6,←hkk2] at hk; (try dsimp only at hk);refine q2b ?_;exact kv
 ·rintro _ hk;rw [←hk1] at hk; (try dsimp only at hk);refine kn ?_;subst hk;exact eA
def zbc (p:GProblem)(d:List GDomain)(s:Int)(c:Int):Bool:=
 (((zbH p d s c)||(zbG p s c (mQ p d s c (-1))))||(zbJ p d s c))
theorem zgc (F0:Frz)(w:World)(hF0:F0.At w)(p:GProblem)(vp_0:Value)(cp_0:List (List Value))(hp_0:SlD cJ F0 vp_0 2 cp_0 p.Domains)(vp_1:Value)(hp_1:SlC F0 vp_1 5 (p.Rules.Pairs.map cY))(vp_2:Value)(hp_2:SlC F0 vp_2 5 (p.Rules.Loads.map c4))(vp_3:Value)(hp_3:SlC F0 vp_3 4 (p.Rules.Caps.map dk))(d:List GDomain)(vd:Value)(cd:List (List Value))(hd:SlD cJ F0 vd 2 cd d)(s:Int)(c:Int):Calls Tryz.prog 131 #[.agg [vp_0,vp_1,vp_2,vp_3].toArray,vd, .int .i64 s, .int .i64 c] w fun e w'=>e= .returned (.bool (zbc p d s c))∧Below w.heap.size w w':=by
 obtain ⟨r,hk⟩:∃r,zbc p d s c=r:=⟨_,rfl⟩;rw [hk];unfold zbc at hk;haveI:=hp_0.1.oneC;haveI:=hp_1.oneC;haveI:=hp_2.oneC;haveI:=hp_3.oneC;haveI:=hd.1.oneC;obtain ⟨S0,F1,rfl,hS0,hp0⟩:=fx hF0;refine dz Tryz.func131 rfl rfl rfl hp0 ?_;refine iW ?_;rintro _ _ ⟨g4,rfl,rfl⟩;refine ks ?_;refine dc (ι:=Unit) (fun z=>[(8, .bool (((zbH p d s c)||(zbG p s c (mQ p d s c (-1))))||(zbJ p d s c)))]) (fun z=>[.row g4 31 [vp_0,vp_1,vp_2,vp_3], .fr F1]) (fun z=>True) ?_ ?_
 ·refine dH (sN 0 4 (.eff 4 (sN 5 8 (.eff 13 (.eff 14 (sN 15 6 (.eff 21 (.still 22 (.still 23 .done))))))))) _ a8 (List.Sublist.refl _) ?_;refine iU ?_;refine fM ?_;refine dt ?_;refine cQ rfl (Wt.none) rfl rfl (cL rfl rfl rfl (fun w hw=>zgJ _ w (hw.fr (i:=1) rfl) p vp_0 cp_0 hp_0 vp_1 hp_1 vp_2 hp_2 vp_3 hp_3 d vd cd hd s c)) ?_;refine i6 ?_;refine eL ?_;refine dw rfl rfl rfl rfl (fun h1=>?_) (fun h1=>?_)
  ·refine TS.run 7 rfl ?_;refine ie ?_;refine ie ?_;refine TS.run 6 rfl ?_;refine ie ?_;refine fj ?_;refine eX ?_;exact cO () trivial (.b (fW (fW h1)).symm .nil) (List.Sublist.refl _)
  ·refine iU ?_;refine fj ?_;refine iU ?_;refine fM ?_;refine dt ?_;refine cQ rfl (Wt.some) rfl rfl (cL rfl rfl rfl (fun w hw=>zgd _ w (hw.fr (i:=1) rfl) p vp_0 cp_0 hp_0 vp_1 hp_1 vp_2 hp_2 vp_3 hp_3 d vd cd hd s c (-1))) ?_;refine i6 ?_;refine dt ?_;refine cQ rfl (Wt.some) rfl rfl (cL rfl rfl rfl (fun w hw=>zfE _ w (hw.fr (i:=1) rfl) p vp_0 cp_0 hp_0 vp_1 hp_1 vp_2 hp_2 vp_3 hp_3 s c (mQ p d s c (-1)))) ?_;refine mb ?_;refine dw rfl rfl rfl rfl (fun h2=>?_) (fun h2=>?_)
   ·refine TS.run 4 rfl ?_;refine ie ?_;refine fj ?_;refine eX ?_;exact cO () trivial (.b (fW (gU h1 h2)).symm .nil) (List.Sublist.refl _)
   ·refine iU ?_;refine fM ?_;refine dt ?_;refine cQ rfl (Wt.some) rfl rfl (cL rfl rfl rfl (fun w hw=>zgD _ w (hw.fr (i:=1) rfl) p vp_0 cp_0 hp_0 vp_1 hp_1 vp_2 hp_2 vp_3 hp_3 d vd cd hd s c)) ?_;refine mb ?_;refine eX ?_;exact cO () trivial (.b (gH (gU h1 h2)) .nil) (List.Sublist.refl _)
 ·rintro _ _;refine T.ret ?_;subst hk;exact eA
theorem zoD {l:List Int}{n:Int}:zb5 l n=l.any fun k=>decide (k=n):=by
 unfold zb5;refine j4 ?_;rw [zef (fun i=>decide (cH l i=n)) (fun i next _=>?_),zdJ (q:=fun k=>decide (k=n)),Bool.or_false]
 cases decide (cH l i=n) <;> rfl
def iR (d:List GDomain)(s c:Int):Bool:=d.all fun x=>(decide (¬x.Station=s)||x.Channels.all fun k=>decide (k=c))
theorem zjZ {d:List GDomain}{s c:Int}:lw d s c=iR d s c:=by
 unfold lw iR;refine j4 ?_;rw [zda (fun i=>(decide (¬(cH d i).Station=s)||(cH d i).Channels.all fun k=>decide (k=c))) (fun i next _=>?_),zh6 (l:=d) (q:=fun x=>(decide (¬x.Station=s)||x.Channels.all fun k=>decide (k=c))),Bool.and_true];rw [zda (fun k=>decide (cH (cH d i).Channels k=c)) (fun k nx _=>?_),zh6 (q:=fun k=>decide (k=c))]
 ·cases decide (¬(cH d i).Station=s) <;> rfl
 ·by_cases h:cH (cH d i).Channels k=c <;> simp [h]
theorem zfY {a b c:Int}:kY a b c=decide (a≤b∧b≤c):=by
 unfold kY;by_cases h1:a≤b <;> by_cases h2:b≤c <;> simp [h1,h2]
def zhF (d:List GDomain)(s c:Int)(x:GPair):Bool:=(decide (x.A=s)&&decide (x.Low≤c∧c≤x.High)&&iR d x.B (wI (c+x.Offset)))||(decide (x.B=s)&&decide (x.Low≤wI (c - x.Offset)∧wI (c - x.Offset)≤x.High)&&iR d x.A (wI (c - x.Offset)))
theorem zmZ {p:GProblem}{d:List GDomain}{s c:Int}:zbH p d s c=p.Rules.Pairs.any (zhF d s c):=by
 unfold zbH;simp only [dV,Nat.sub_zero,zjZ,zfY];rw [zef (fun i=>zhF d s c (cH p.Rules.Pairs i)) (fun i next _=>?_),zdJ (q:=zhF d s c),Bool.or_false];unfold zhF;generalize (decide ((cH p.Rules.Pairs i).A=s)&&decide ((cH p.Rules.Pairs i).Low≤c∧c≤(cH p.Rules.Pairs i).High)&&iR d (cH p.Rules.Pairs i).B (wI (c+(cH p.Rules.Pairs i).Offset)))=a
 cases a
 ·rw [cond_false,Bool.false_or];generalize (decide ((cH p.Rules.Pairs i).B=s)&&decide ((cH p.Rules.Pairs i).Low≤wI (c - (cH p.Rules.Pairs i).Offset)∧wI (c - (cH p.Rules.Pairs i).Offset)≤(cH p.Rules.Pairs i).High)&&iR d (cH p.Rules.Pairs i).A (wI (c - (cH p.Rules.Pairs i).Offset)))=b
  cases b <;> rfl
 ·rfl
def loadC (d:List GDomain)(t c f:Int)(x:GLoad):Bool:=decide (x.To=t)&&decide (x.Low≤c∧c≤x.High)&&(decide (x.From=f)||iR d x.From c)
def iQ (p:GProblem)(d:List GDomain)(t c f:Int):Int:=p.Rules.Loads.foldl (fun n x=>bif loadC d t c f x then wI (n+x.Weight) else n) 0
theorem zow {p:GProblem}{d:List GDomain}{t c f:Int}:mQ p d t c f=iQ p d t c f:=by
 unfold mQ iQ;simp only [dV,Nat.sub_zero,zjZ,zfY];rw [zky (fun i n=>bif loadC d t c f (cH p.Rules.Loads i) then wI (n+(cH p.Rules.Loads i).Weight) else n) (fun i next n _=>?_),zdQ (g:=fun n x=>bif loadC d t c f x then wI (n+x.Weight) else n)];unfold loadC;generalize (decide ((cH p.Rules.Loads i).To=t)&&decide ((cH p.Rules.Loads i).Low≤c∧c≤(cH p.Rules.Loads i).High)&&(decide ((cH p.Rules.Loads i).From=f)||iR d (cH p.Rules.Loads i).From c))=a
 cases a <;> rfl
def mE (p:GProblem)(s c l:Int):Bool:=p.Rules.Caps.any fun x=>decide (x.Station=s)&&decide (x.Low≤c∧c≤x.High)&&decide (x.Max<l)
theorem zna {p:GProblem}{s c l:Int}:zbG p s c l=mE p s c l:=by
 unfold zbG mE;simp only [dV,Nat.sub_zero,zfY];rw [zef (fun i=>decide ((cH p.Rules.Caps i).Station=s)&&decide ((cH p.Rules.Caps i).Low≤c∧c≤(cH p.Rules.Caps i).High)&&decide ((cH p.Rules.Caps i).Max<l)) (fun i next _=>?_),zdJ (l:=p.Rules.Caps) (q:=fun x=>decide (x.Station=s)&&decide (x.Low≤c∧c≤x.High)&&decide (x.Max<l)),Bool.or_false];generalize (decide ((cH p.Rules.Caps i).Station=s)&&decide ((cH p.Rules.Caps i).Low≤c∧c≤(cH p.Rules.Caps i).High)&&decide ((cH p.Rules.Caps i).Max<l))=a
 cases a <;> rfl
def loadR (p:GProblem)(d:List GDomain)(s c:Int)(x:GLoad):Bool:=decide (x.From=s)&&decide (x.Low≤c∧c≤x.High)&&iR d x.To c&&mE p x.To c (iQ p d x.To c s)
theorem zms {p:GProblem}{d:List GDomain}{s c:Int}:zbJ p d s c=p.Rules.Loads.any (loadR p d s c):=by
 unfold zbJ;simp only [dV,Nat.sub_zero,zjZ,zfY,zna,zow];rw [zef (fun i=>loadR p d s c (cH p.Rules.Loads i)) (fun i next _=>?_),zdJ (q:=loadR p d s c),Bool.or_false];unfold loadR;generalize (decide ((cH p.Rules.Loads i).From=s)&&decide ((cH p.Rules.Loads i).Low≤c∧c≤(cH p.Rules.Loads i).High)&&iR d (cH p.Rules.Loads i).To c&&mE p (cH p.Rules.Loads i).To c (iQ p d (cH p.Rules.Loads i).To c s))=a
 cases a <;> rfl
def jj (p:GProblem)(d:List GDomain)(s c:Int):Bool:=p.Rules.Pairs.any (zhF d s c)||mE p s c (iQ p d s c (-1))||p.Rules.Loads.any (loadR p d s c)
theorem zhY {p:GProblem}{d:List GDomain}{s c:Int}:zbc p d s c=jj p d s c:=by
 unfold zbc jj;rw [zmZ,zna,zow,zms]
def i8 (s c:Int)(x:GDomain):GDomain:=⟨x.Station,x.Channels.filter fun k=>decide (¬x.Station=s)||decide (¬k=c)⟩
theorem zkP {d:List GDomain}{s c:Int}(hd:d.length≤100000)(hc:∀x∈d,x.Channels.length≤100000):mP d s c=some (d.map (i8 s c)):=by
 unfold mP;refine j4 ?_;refine (zde (fun i out=>out.length=i) (fun i out=>out++[i8 s c (cH d i)]) rfl (fun i out _ h=>by simp [h]) (fun i next out hi hl=>?_)).1.trans ?_
 ·have hci:=hc (cH d i) (by rw [d5 hi];exact List.getElem_mem _);refine (zde (fun k (t:Int×List Int)=>t.2.length≤k) (fun k t=>(t.1,bif (decide (¬(cH d i).Station=s)||decide (¬cH (cH d i).Channels k=c)) then t.2++[cH (cH d i).Channels k] else t.2)) (by exact Nat.le_refl 0) (fun k t _ h=>?_) (fun k nx t hk ht=>?_)).1.trans ?_
  ·(try dsimp only)
   cases (decide (¬(cH d i).Station=s)||decide (¬cH (cH d i).Channels k=c)) <;> simp <;> omega
  ·(try dsimp only)
   cases (decide (¬(cH d i).Station=s)||decide (¬cH (cH d i).Channels k=c))
   ·rfl
   ·exact fA (by simp only [dv,List.length_append,List.length_singleton];omega)
  ·rw [zl8 (g:=fun t k=>bif (decide (¬(cH d i).Station=s)||decide (¬cH (cH d i).Channels k=c)) then t++[cH (cH d i).Channels k] else t),zdQ (l:=(cH d i).Channels) (g:=fun t k=>bif (decide (¬(cH d i).Station=s)||decide (¬k=c)) then t++[k] else t),zko (g:=fun k=>k)];rw [fA (by simp only [dv,List.length_append,List.length_singleton];omega)];simp [i8]
 ·rw [zdQ (l:=d) (g:=fun out x=>out++[i8 s c x]),zg7];rfl
def iV (s c:Int)(x:GDomain):GDomain:=⟨x.Station,bif decide (x.Station=s) then (bif x.Channels.any (fun k=>decide (k=c)) then [c] else []) else x.Channels⟩
theorem zlz {d:List GDomain}{s c:Int}(hd:d.length≤100000)(hc:∀x∈d,x.Channels.length≤100000):zbp d s c=some (d.map (iV s c)):=by
 unfold zbp;simp only [dV,Nat.sub_zero,zoD];refine (zde (fun i out=>out.length=i) (fun i out=>out++[iV s c (cH d i)]) rfl (fun i out _ h=>by simp [h]) (fun i next out hi hl=>?_)).1.trans ?_
 ·have hci:=hc (cH d i) (by rw [d5 hi];exact List.getElem_mem _);rw [fA (by simp only [dv,List.nil_append];omega)]; (have hr:∀y:GDomain,dv (out++[y]).length 32:=fun y=>by simp only [dv,List.length_append,List.length_singleton];omega);simp only [fA (hr _),iV]
  cases decide ((cH d i).Station=s) <;> cases ((cH d i).Channels.any fun k=>decide (k=c)) <;> rfl
 ·rw [zdQ (l:=d) (g:=fun out x=>out++[iV s c x]),zg7];rfl
end Go.Proofs.YtgoeeefoinkepaaGreatDoor
