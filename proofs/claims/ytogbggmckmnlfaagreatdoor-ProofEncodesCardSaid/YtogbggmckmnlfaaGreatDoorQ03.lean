/- Ya Yd Cb Cc A: shortened and put together by squeeze.py. -/
import Derived.Test.YtogbggmckmnlfaaGreatDoorQ02
set_option maxRecDepth 100000
set_option maxHeartbeats 4000000
set_option linter.unusedVariables false
set_option linter.unusedSectionVars false
set_option linter.unusedSimpArgs false
namespace Go.Proofs.YtogbggmckmnlfaaGreatDoor
open Go.RowKit
structure GDomain where
 Station:Int
 Channels:List Int
deriving DecidableEq,Inhabited
def cT (F:Frz)(c:List Value)(x:GDomain):Prop:=∃(v1:Value),c=[.int .i64 x.Station,v1]∧SlC F v1 1 (x.Channels.map eI)
theorem GDomain.mono {F G:Frz}{c:List Value}{x:GDomain}(hle:F.Le G)(h:cT F c x):cT G c x:=by
 obtain ⟨v1,h0,h2⟩:=h;exact ⟨v1,h0,h2.mono hle⟩
theorem GDomain.len {F:Frz}{c:List Value}{x:GDomain}(h:cT F c x):c.length=2:=by
 obtain ⟨v1,h0,h2⟩:=h;subst h0;rfl
theorem GDomain.one {F:Frz}{c:List Value}{x:GDomain}(h:cT F c x):OneCs c:=by
 obtain ⟨v1,h0,h2⟩:=h;subst h0;haveI:=h2.oneC
 infer_instance
theorem GDomain.c0 {F:Frz}{c:List Value}{x:GDomain}(h:cT F c x):c[0]?=some (.int .i64 x.Station):=by
 obtain ⟨v1,h0,h2⟩:=h;subst h0;rfl
theorem GDomain.c1 {F:Frz}{c:List Value}{x:GDomain}(h:cT F c x):c[1]?=some (cQ c 1)∧SlC F (cQ c 1) 1 (x.Channels.map eI):=by
 obtain ⟨v1,h0,h2⟩:=h;subst h0;exact ⟨rfl,h2⟩
theorem iI {F:Frz}{c:List Value}{x:GDomain}(h:cT F c x):(c.drop 0).take 2=[.int .i64 x.Station,cQ c 1]:=by
 obtain ⟨v1,h0,h2⟩:=h;subst h0;rfl
structure GPair where
 A:Int
 B:Int
 Offset:Int
 Low:Int
 High:Int
deriving DecidableEq,Inhabited
abbrev dh (x:GPair):List Value:=[.int .i64 x.A, .int .i64 x.B, .int .i64 x.Offset, .int .i64 x.Low, .int .i64 x.High]
theorem GPair.len (x:GPair):(dh x).length=5:=rfl
structure GLoad where
 To:Int
 From:Int
 Weight:Int
 Low:Int
 High:Int
deriving DecidableEq,Inhabited
abbrev dl (x:GLoad):List Value:=[.int .i64 x.To, .int .i64 x.From, .int .i64 x.Weight, .int .i64 x.Low, .int .i64 x.High]
theorem GLoad.len (x:GLoad):(dl x).length=5:=rfl
structure GCap where
 Station:Int
 Max:Int
 Low:Int
 High:Int
deriving DecidableEq,Inhabited
abbrev dv (x:GCap):List Value:=[.int .i64 x.Station, .int .i64 x.Max, .int .i64 x.Low, .int .i64 x.High]
theorem GCap.len (x:GCap):(dv x).length=4:=rfl
structure GRules where
 Pairs:List GPair
 Loads:List GLoad
 Caps:List GCap
deriving DecidableEq,Inhabited
def eG (F:Frz)(c:List Value)(x:GRules):Prop:=∃(v0:Value) (v1:Value) (v2:Value),c=[v0,v1,v2]∧SlC F v0 5 (x.Pairs.map dh)∧SlC F v1 5 (x.Loads.map dl)∧SlC F v2 4 (x.Caps.map dv)
theorem GRules.mono {F G:Frz}{c:List Value}{x:GRules}(hle:F.Le G)(h:eG F c x):eG G c x:=by
 obtain ⟨v0,v1,v2,h0,h1,h2,h3⟩:=h;exact ⟨v0,v1,v2,h0,h1.mono hle,h2.mono hle,h3.mono hle⟩
theorem GRules.len {F:Frz}{c:List Value}{x:GRules}(h:eG F c x):c.length=3:=by
 obtain ⟨v0,v1,v2,h0,h1,h2,h3⟩:=h;subst h0;rfl
theorem GRules.one {F:Frz}{c:List Value}{x:GRules}(h:eG F c x):OneCs c:=by
 obtain ⟨v0,v1,v2,h0,h1,h2,h3⟩:=h;subst h0;haveI:=h1.oneC;haveI:=h2.oneC;haveI:=h3.oneC
 infer_instance
theorem GRules.c0 {F:Frz}{c:List Value}{x:GRules}(h:eG F c x):c[0]?=some (cQ c 0)∧SlC F (cQ c 0) 5 (x.Pairs.map dh):=by
 obtain ⟨v0,v1,v2,h0,h1,h2,h3⟩:=h;subst h0;exact ⟨rfl,h1⟩
theorem GRules.c1 {F:Frz}{c:List Value}{x:GRules}(h:eG F c x):c[1]?=some (cQ c 1)∧SlC F (cQ c 1) 5 (x.Loads.map dl):=by
 obtain ⟨v0,v1,v2,h0,h1,h2,h3⟩:=h;subst h0;exact ⟨rfl,h2⟩
theorem GRules.c2 {F:Frz}{c:List Value}{x:GRules}(h:eG F c x):c[2]?=some (cQ c 2)∧SlC F (cQ c 2) 4 (x.Caps.map dv):=by
 obtain ⟨v0,v1,v2,h0,h1,h2,h3⟩:=h;subst h0;exact ⟨rfl,h3⟩
theorem GRules.form {F:Frz}{c:List Value}{x:GRules}(h:eG F c x):(c.drop 0).take 3=[cQ c 0,cQ c 1,cQ c 2]:=by
 obtain ⟨v0,v1,v2,h0,h1,h2,h3⟩:=h;subst h0;rfl
structure GProblem where
 Domains:List GDomain
 Rules:GRules
deriving DecidableEq,Inhabited
def ed (F:Frz)(c:List Value)(x:GProblem):Prop:=∃(v0:Value) (cs0:List (List Value)) (v1:Value) (v2:Value) (v3:Value),c=[v0,v1,v2,v3]∧SlD cT F v0 2 cs0 x.Domains∧SlC F v1 5 (x.Rules.Pairs.map dh)∧SlC F v2 5 (x.Rules.Loads.map dl)∧SlC F v3 4 (x.Rules.Caps.map dv)
theorem GProblem.mono {F G:Frz}{c:List Value}{x:GProblem}(hle:F.Le G)(h:ed F c x):ed G c x:=by
 obtain ⟨v0,cs0,v1,v2,v3,h0,h1,h2,h3,h4⟩:=h;exact ⟨v0,cs0,v1,v2,v3,h0,SlD.mono (rep:=cT) (fun _ _ _ _=>GDomain.mono) h1 hle,h2.mono hle,h3.mono hle,h4.mono hle⟩
theorem GProblem.len {F:Frz}{c:List Value}{x:GProblem}(h:ed F c x):c.length=4:=by
 obtain ⟨v0,cs0,v1,v2,v3,h0,h1,h2,h3,h4⟩:=h;subst h0;rfl
theorem GProblem.one {F:Frz}{c:List Value}{x:GProblem}(h:ed F c x):OneCs c:=by
 obtain ⟨v0,cs0,v1,v2,v3,h0,h1,h2,h3,h4⟩:=h;subst h0;haveI:=h1.1.oneC;haveI:=h2.oneC;haveI:=h3.oneC;haveI:=h4.oneC
 infer_instance
theorem GProblem.c0 {F:Frz}{c:List Value}{x:GProblem}(h:ed F c x):c[0]?=some (cQ c 0)∧∃cs,SlD cT F (cQ c 0) 2 cs x.Domains:=by
 obtain ⟨v0,cs0,v1,v2,v3,h0,h1,h2,h3,h4⟩:=h;subst h0;exact ⟨rfl,cs0,h1⟩
theorem GProblem.c1 {F:Frz}{c:List Value}{x:GProblem}(h:ed F c x):c[1]?=some (cQ c 1)∧SlC F (cQ c 1) 5 (x.Rules.Pairs.map dh):=by
 obtain ⟨v0,cs0,v1,v2,v3,h0,h1,h2,h3,h4⟩:=h;subst h0;exact ⟨rfl,h2⟩
theorem GProblem.c2 {F:Frz}{c:List Value}{x:GProblem}(h:ed F c x):c[2]?=some (cQ c 2)∧SlC F (cQ c 2) 5 (x.Rules.Loads.map dl):=by
 obtain ⟨v0,cs0,v1,v2,v3,h0,h1,h2,h3,h4⟩:=h;subst h0;exact ⟨rfl,h3⟩
theorem GProblem.c3 {F:Frz}{c:List Value}{x:GProblem}(h:ed F c x):c[3]?=some (cQ c 3)∧SlC F (cQ c 3) 4 (x.Rules.Caps.map dv):=by
 obtain ⟨v0,cs0,v1,v2,v3,h0,h1,h2,h3,h4⟩:=h;subst h0;exact ⟨rfl,h4⟩
theorem GProblem.form {F:Frz}{c:List Value}{x:GProblem}(h:ed F c x):(c.drop 0).take 4=[cQ c 0,cQ c 1,cQ c 2,cQ c 3]:=by
 obtain ⟨v0,cs0,v1,v2,v3,h0,h1,h2,h3,h4⟩:=h;subst h0;rfl
structure GChoice where
 Station:Int
 Channel:Int
deriving DecidableEq,Inhabited
abbrev cW (x:GChoice):List Value:=[.int .i64 x.Station, .int .i64 x.Channel]
theorem GChoice.len (x:GChoice):(cW x).length=2:=rfl
def iE (l:List Int)(n:Int):Bool:=
 dN (fun (_:Unit)=>
  false)
 (fun k1=>
  di (fun (i_3:Nat) (next2:Unit→Bool) (_:Unit)=>
   (bif decide ((cQ l i_3)=n) then
    true
    else
    next2 ()))
  (fun (_:Unit)=>
   k1 ()) (l.length - 0) 0 ())
theorem zjg (F0:Frz)(w:World)(hF0:F0.At w)(l:List Int)(vl:Value)(hl:SlC F0 vl 1 (l.map eI))(n:Int):Calls Tryz.prog 21 #[vl, .int .i64 n] w fun e w'=>e= .returned (.bool (iE l n))∧Below w.heap.size w w':=by
 obtain ⟨r,hk⟩:∃r,iE l n=r:=⟨_,rfl⟩;rw [hk];unfold iE at hk;haveI:=hl.oneC;obtain ⟨S0,F1,rfl,hS0,hp0⟩:=fE hF0;refine dy Tryz.func21 rfl rfl rfl hp0 ?_;refine gh ?_;refine iM ?_;refine dL ?_;have hq:=eN hk;clear hk;obtain ⟨k1,hk1,hk⟩:=hq; (try dsimp only at hk);refine dk (ι:=Unit) (fun z=>[]) (fun z=>[.fr F1]) (fun z=>k1 ()=r) ?_ ?_
 ·have hq:=fS hk;clear hk;obtain ⟨f2,kk2,hf2,hkk2,hk⟩:=hq;refine fJ ?_;refine T.loop (ι:=Nat) (fun z=>[(0,vl),(1, .int .i64 n),(5, .int .i64 (z:Int))]) (fun z=>[.fr F1]) (fun z=>di f2 kk2 (l.length - z) z ()=r) (fun z=>l.length - z) 0 ?_ ?_ ?_ ?_
  ·exact hk
  ·exact q37
  ·exact fx
  ·rintro i_3 hk;refine jS ?_;refine q2b ?_;have hm8:l.length≤9223372036854775807:=(List.length_map _)▸hl.max;refine dL ?_;refine T.cond rfl (fun h4=>?_) (fun h4=>?_)
   ·have p4:=of_decide_eq_true h4;rw [fT a5] at hk;generalize hn2:di f2 kk2 (l.length - (i_3+1)) (i_3+1)=next2 at hk;rw [←hf2] at hk; (try dsimp only at hk);refine fH ?_;refine ez ?_;refine q3B ?_;refine kz ?_;refine T.cond rfl (fun h5=>?_) (fun h5=>?_)
    ·have p5:=of_decide_eq_true h5;replace hk:=dC hk h5;refine jv ?_;subst hk;exact eY
    ·have p5:=of_decide_eq_false h5;replace hk:=dD hk h5;refine li ?_;rw [←hn2] at hk;exact q4u
   ·have p4:=of_decide_eq_false h4;rw [fR a5,←hkk2] at hk; (try dsimp only at hk);refine fi ?_;exact lD
 ·rintro _ hk;rw [←hk1] at hk; (try dsimp only at hk);refine lC ?_;subst hk;exact eY
def zbo (n:Int):Bool:=
 ((decide (0≤n))&&(decide (n≤511)))
theorem zeh (F0:Frz)(w:World)(hF0:F0.At w)(n:Int):Calls Tryz.prog 56 #[.int .i64 n] w fun e w'=>e= .returned (.bool (zbo n))∧Below w.heap.size w w':=by
 obtain ⟨r,hk⟩:∃r,zbo n=r:=⟨_,rfl⟩;rw [hk];unfold zbo at hk;obtain ⟨S0,F1,rfl,hS0,hp0⟩:=fE hF0;refine dy Tryz.func56 rfl rfl rfl hp0 ?_;refine eR ?_;refine dk (ι:=Unit) (fun z=>[(2, .bool ((decide (0≤n))&&(decide (n≤511))))]) (fun z=>[.fr F1]) (fun z=>True) ?_ ?_
 ·refine lU ?_;refine dO rfl rfl rfl (fun h1=>?_) (fun h1=>?_)
  ·have p1:=of_decide_eq_true h1;refine lY ?_;exact q4f
  ·have p1:=of_decide_eq_false h1;refine lY ?_;exact q4g
 ·rintro _ _;refine T.ret ?_;subst hk;exact eY
def zbg (l:List GChoice):Bool:=
 dN (fun (_:Unit)=>
  true)
 (fun k1=>
  di (fun (i_3:Nat) (next2:Unit→Bool) (_:Unit)=>
   (bif ((((!(zbo ((cQ l i_3).Station)))||(decide ((cQ l i_3).Channel<2)))||(decide (51<(cQ l i_3).Channel)))||((decide (0<(i_3:Int)))&&(decide ((cQ l i_3).Station≤(cQ l (((i_3:Int) - 1).toNat)).Station)))) then
    false
    else
    next2 ()))
  (fun (_:Unit)=>
   k1 ()) (l.length - 0) 0 ())
theorem zfw (F0:Frz)(w:World)(hF0:F0.At w)(l:List GChoice)(vl:Value)(hl:SlC F0 vl 2 (l.map cW)):Calls Tryz.prog 45 #[vl] w fun e w'=>e= .returned (.bool (zbg l))∧Below w.heap.size w w':=by
 obtain ⟨r,hk⟩:∃r,zbg l=r:=⟨_,rfl⟩;rw [hk];unfold zbg at hk;haveI:=hl.oneC;obtain ⟨S0,F1,rfl,hS0,hp0⟩:=fE hF0;refine dy Tryz.func45 rfl rfl rfl hp0 ?_;refine gh ?_;refine iM ?_;refine dL ?_;have hq:=eN hk;clear hk;obtain ⟨k1,hk1,hk⟩:=hq; (try dsimp only at hk);refine dk (ι:=Unit) (fun z=>[]) (fun z=>[.fr F1]) (fun z=>k1 ()=r) ?_ ?_
 ·have hq:=fS hk;clear hk;obtain ⟨f2,kk2,hf2,hkk2,hk⟩:=hq;refine fJ ?_;refine T.loop (ι:=Nat) (fun z=>[(0,vl),(3, .int .i64 (z:Int))]) (fun z=>[.fr F1]) (fun z=>di f2 kk2 (l.length - z) z ()=r) (fun z=>l.length - z) 0 ?_ ?_ ?_ ?_
  ·exact hk
  ·exact (.c (.c .nil))
  ·exact fx
  ·rintro i_3 hk;refine jS ?_;refine q2b ?_;have hm6:l.length≤9223372036854775807:=(List.length_map _)▸hl.max;refine dL ?_;refine T.cond rfl (fun h4=>?_) (fun h4=>?_)
   ·have p4:=of_decide_eq_true h4;rw [fT a5] at hk;generalize hn2:di f2 kk2 (l.length - (i_3+1)) (i_3+1)=next2 at hk;rw [←hf2] at hk; (try dsimp only at hk);refine kq ?_;refine dk (ι:=Unit) (fun z=>[(0,vl),(3, .int .i64 (i_3:Int)),(50, .bool ((((!(zbo ((cQ l i_3).Station)))||(decide ((cQ l i_3).Channel<2)))||(decide (51<(cQ l i_3).Channel)))||((decide (0<(i_3:Int)))&&(decide ((cQ l i_3).Station≤(cQ l (((i_3:Int) - 1).toNat)).Station)))))]) (fun z=>[.fr F1]) (fun z=>True) ?_ ?_
    ·refine d8 (sN 0 5 (.eff 5 (sN 6 34 (.still 40 .done)))) _ a7 (List.Sublist.refl _) ?_;refine q1o ?_;refine q2d ?_;refine q2k ?_;refine dQ ?_;refine dx rfl (Wt.none) rfl rfl (cS rfl rfl rfl (fun w hw=>zeh _ w (hw.fr (i:=0) rfl) ((cQ l i_3).Station))) ?_;refine lT ?_;refine gJ ?_;refine fC rfl rfl rfl rfl (fun h5=>?_) (fun h5=>?_)
     ·refine TS.run 33 rfl ?_;refine ir ?_;exact c4 () trivial (.c (.c (.b (jA (jA (jA h5))).symm .nil))) (List.Sublist.refl _)
     ·refine q1o ?_;refine q2d ?_;refine cZ rfl (ft 0 (i:=i_3) (j:=1) rfl rfl rfl hl a5) ?_;refine kj ?_;refine fC rfl rfl rfl rfl (fun h6=>?_) (fun h6=>?_)
      ·have p6:=of_decide_eq_true h6;refine TS.run 25 rfl ?_;refine ir ?_;exact c4 () trivial (.c (.c (.b (jA (jA (mN h5 h6))).symm .nil))) (List.Sublist.refl _)
      ·have p6:=of_decide_eq_false h6;refine q1o ?_;refine q2d ?_;refine cZ rfl (ft 0 (i:=i_3) (j:=1) rfl rfl rfl hl a5) ?_;refine kj ?_;refine fC rfl rfl rfl rfl (fun h7=>?_) (fun h7=>?_)
       ·have p7:=of_decide_eq_true h7;refine TS.run 17 rfl ?_;refine ir ?_;exact c4 () trivial (.c (.c (.b (jA (mN (mN h5 h6) h7)).symm .nil))) (List.Sublist.refl _)
       ·have p7:=of_decide_eq_false h7;refine kj ?_;refine fC rfl rfl rfl rfl (fun h8=>?_) (fun h8=>?_)
        ·have p8:=of_decide_eq_true h8;refine gJ ?_;refine q1X ?_;refine q2d ?_;refine q2Q ?_;refine q2d ?_;refine q2k ?_;refine kj ?_;refine ir ?_;exact c4 () trivial (.c (.c (.b (Eq.trans (mH h8) (iC (mN (mN h5 h6) h7))) .nil))) (List.Sublist.refl _)
        ·have p8:=of_decide_eq_false h8;refine TS.run 14 rfl ?_;refine ir ?_;exact c4 () trivial (.c (.c (.b (mN (mN (mN h5 h6) h7) (mE h8)).symm .nil))) (List.Sublist.refl _)
    ·rintro _ _;refine T.cond rfl (fun h9=>?_) (fun h9=>?_)
     ·replace hk:=dC hk h9;refine jv ?_;subst hk;exact eY
     ·have p9:=h9; (try simp only [c7] at p9);replace hk:=dD hk h9;refine li ?_;rw [←hn2] at hk;exact K.next (i_3+1) hk a5 (.c (.c .nil)) (List.Sublist.refl _)
   ·have p4:=of_decide_eq_false h4;rw [fR a5,←hkk2] at hk; (try dsimp only at hk);refine fi ?_;exact lD
 ·rintro _ hk;rw [←hk1] at hk; (try dsimp only at hk);refine lC ?_;subst hk;exact eY
def zbD (a:List Int)(b:List Int):Bool:=
 (bif decide (¬(a.length:Int)=(b.length:Int)) then
  false
  else
  dN (fun (_:Unit)=>
   true)
  (fun k2=>
   di (fun (i_4:Nat) (next3:Unit→Bool) (_:Unit)=>
    (bif decide (¬(cQ a i_4)=(cQ b i_4)) then
     false
     else
     next3 ()))
   (fun (_:Unit)=>
    k2 ()) (a.length - 0) 0 ()))
theorem zfZ (F0:Frz)(w:World)(hF0:F0.At w)(a:List Int)(va:Value)(ha:SlC F0 va 1 (a.map eI))(b:List Int)(vb:Value)(hb:SlC F0 vb 1 (b.map eI)):Calls Tryz.prog 52 #[va,vb] w fun e w'=>e= .returned (.bool (zbD a b))∧Below w.heap.size w w':=by
 obtain ⟨r,hk⟩:∃r,zbD a b=r:=⟨_,rfl⟩;rw [hk];unfold zbD at hk;haveI:=ha.oneC;haveI:=hb.oneC;obtain ⟨S0,F1,rfl,hS0,hp0⟩:=fE hF0;refine dy Tryz.func52 rfl rfl rfl hp0 ?_;refine i5 ?_;refine q3Y ?_;have hm7:a.length≤9223372036854775807:=(List.length_map _)▸ha.max;refine q2A ?_;have hm9:b.length≤9223372036854775807:=(List.length_map _)▸hb.max;refine dL ?_;refine T.cond rfl (fun h1=>?_) (fun h1=>?_)
 ·have p1:=of_decide_eq_true h1;replace hk:=dC hk h1;refine hD ?_;subst hk;exact eY
 ·have p1:=of_decide_eq_false h1;replace hk:=dD hk h1;refine ke ?_;refine dL ?_;have hq:=eN hk;clear hk;obtain ⟨k2,hk2,hk⟩:=hq; (try dsimp only at hk);refine dk (ι:=Unit) (fun z=>[]) (fun z=>[.fr F1]) (fun z=>k2 ()=r) ?_ ?_
  ·have hq:=fS hk;clear hk;obtain ⟨f3,kk3,hf3,hkk3,hk⟩:=hq;refine fJ ?_;refine T.loop (ι:=Nat) (fun z=>[(0,va),(1,vb),(5, .int .i64 (z:Int))]) (fun z=>[.fr F1]) (fun z=>di f3 kk3 (a.length - z) z ()=r) (fun z=>a.length - z) 0 ?_ ?_ ?_ ?_
   ·exact hk
   ·exact q37
   ·exact fx
   ·rintro i_4 hk;refine jS ?_;refine q3Y ?_;refine dL ?_;refine T.cond rfl (fun h5=>?_) (fun h5=>?_)
    ·have p5:=of_decide_eq_true h5;rw [fT a5] at hk;generalize hn3:di f3 kk3 (a.length - (i_4+1)) (i_4+1)=next3 at hk;rw [←hf3] at hk; (try dsimp only at hk);refine kq ?_;refine q14 ?_;refine gJ ?_;refine cZ rfl (dH (i:=i_4) rfl rfl rfl ha (List.length_map _) rfl a5) ?_;refine cZ rfl (ft 0 (i:=i_4) (j:=0) rfl rfl rfl ha a5) ?_;refine gJ ?_;refine cZ rfl (dH (i:=i_4) rfl rfl rfl hb (List.length_map _) rfl a5) ?_;refine cZ rfl (ft 0 (i:=i_4) (j:=0) rfl rfl rfl hb a5) ?_;refine kQ ?_;refine T.cond rfl (fun h6=>?_) (fun h6=>?_)
     ·have p6:=of_decide_eq_true h6;replace hk:=dC hk h6;refine jv ?_;subst hk;exact eY
     ·have p6:=of_decide_eq_false h6;replace hk:=dD hk h6;refine li ?_;rw [←hn3] at hk;exact q4v
    ·have p5:=of_decide_eq_false h5;rw [fR a5,←hkk3] at hk; (try dsimp only at hk);refine fi ?_;exact lD
  ·rintro _ hk;rw [←hk2] at hk; (try dsimp only at hk);refine lC ?_;subst hk;exact eY
def zbC (a:List GChoice)(b:List GChoice):Bool:=
 (bif decide (¬(a.length:Int)=(b.length:Int)) then
  false
  else
  dN (fun (_:Unit)=>
   true)
  (fun k2=>
   di (fun (i_4:Nat) (next3:Unit→Bool) (_:Unit)=>
    (bif !(decide ((cQ a i_4).Station=(cQ b i_4).Station)&&decide ((cQ a i_4).Channel=(cQ b i_4).Channel)) then
     false
     else
     next3 ()))
   (fun (_:Unit)=>
    k2 ()) (a.length - 0) 0 ()))
theorem zfW (F0:Frz)(w:World)(hF0:F0.At w)(a:List GChoice)(va:Value)(ha:SlC F0 va 2 (a.map cW))(b:List GChoice)(vb:Value)(hb:SlC F0 vb 2 (b.map cW)):Calls Tryz.prog 84 #[va,vb] w fun e w'=>e= .returned (.bool (zbC a b))∧Below w.heap.size w w':=by
 obtain ⟨r,hk⟩:∃r,zbC a b=r:=⟨_,rfl⟩;rw [hk];unfold zbC at hk;haveI:=ha.oneC;haveI:=hb.oneC;obtain ⟨S0,F1,rfl,hS0,hp0⟩:=fE hF0;refine dy Tryz.func84 rfl rfl rfl hp0 ?_;refine i5 ?_;refine q3Y ?_;have hm7:a.length≤9223372036854775807:=(List.length_map _)▸ha.max;refine q2A ?_;have hm9:b.length≤9223372036854775807:=(List.length_map _)▸hb.max;refine dL ?_;refine T.cond rfl (fun h1=>?_) (fun h1=>?_)
 ·have p1:=of_decide_eq_true h1;replace hk:=dC hk h1;refine hD ?_;subst hk;exact eY
 ·have p1:=of_decide_eq_false h1;replace hk:=dD hk h1;refine ke ?_;refine dL ?_;have hq:=eN hk;clear hk;obtain ⟨k2,hk2,hk⟩:=hq; (try dsimp only at hk);refine dk (ι:=Unit) (fun z=>[]) (fun z=>[.fr F1]) (fun z=>k2 ()=r) ?_ ?_
  ·have hq:=fS hk;clear hk;obtain ⟨f3,kk3,hf3,hkk3,hk⟩:=hq;refine fJ ?_;refine T.loop (ι:=Nat) (fun z=>[(0,va),(1,vb),(5, .int .i64 (z:Int))]) (fun z=>[.fr F1]) (fun z=>di f3 kk3 (a.length - z) z ()=r) (fun z=>a.length - z) 0 ?_ ?_ ?_ ?_
   ·exact hk
   ·exact q37
   ·exact fx
   ·rintro i_4 hk;refine jS ?_;refine q3Y ?_;refine dL ?_;refine T.cond rfl (fun h5=>?_) (fun h5=>?_)
    ·have p5:=of_decide_eq_true h5;rw [fT a5] at hk;generalize hn3:di f3 kk3 (a.length - (i_4+1)) (i_4+1)=next3 at hk;rw [←hf3] at hk; (try dsimp only at hk);refine kq ?_;refine q14 ?_;refine gJ ?_;refine cZ rfl (dH (i:=i_4) rfl rfl rfl ha (List.length_map _) rfl a5) ?_;refine cZ rfl (fV 0 (i:=i_4) rfl rfl rfl ha a5) ?_;refine gJ ?_;refine cZ rfl (dH (i:=i_4) rfl rfl rfl hb (List.length_map _) rfl a5) ?_;refine cZ rfl (fV 0 (i:=i_4) rfl rfl rfl hb a5) ?_;refine cZ rfl (Yv.cF a7 rfl rfl rfl) ?_;refine ir ?_;refine K.seq ?_;refine T.cond rfl (fun h6=>?_) (fun h6=>?_)
     ·replace hk:=dC hk h6;refine jv ?_;subst hk;exact eY
     ·have p6:=h6; (try simp only [c7] at p6);replace hk:=dD hk h6;refine li ?_;rw [←hn3] at hk;exact q4v
    ·have p5:=of_decide_eq_false h5;rw [fR a5,←hkk3] at hk; (try dsimp only at hk);refine fi ?_;exact lD
  ·rintro _ hk;rw [←hk2] at hk; (try dsimp only at hk);refine lC ?_;subst hk;exact eY
def zdu (d:List GDomain)(s:Int)(c:Int):Option (List GDomain):=
 dN (fun (out_1:List GDomain)=>
  some out_1)
 (fun k2=>
  di (fun (i_5:Nat) (next4:List GDomain→Option (List GDomain)) (out_3:List GDomain)=>
   dU (dd ([]++(cQ d i_5).Channels).length 8) <|
   dN (fun (s9:Int×List Int)=>
    dU (dd (out_3++[(GDomain.mk s9.1 s9.2)]).length 32) <|
    next4 (out_3++[(GDomain.mk s9.1 s9.2)]))
   (fun k9=>
    (bif decide ((cQ d i_5).Station=s) then
     (bif (iE ((cQ d i_5).Channels) c) then
      k9 ((cQ d i_5).Station,[c])
      else
      k9 ((cQ d i_5).Station,[]))
     else
     k9 ((cQ d i_5).Station,([]++(cQ d i_5).Channels)))))
  (fun (out_3:List GDomain)=>
   k2 out_3) (d.length - 0) 0 [])
def zcn (d:List GDomain)(s:Int)(c:Int):Option (List GDomain):=
 dN (fun (out_1:List GDomain)=>
  some out_1)
 (fun k2=>
  di (fun (i_5:Nat) (next4:List GDomain→Option (List GDomain)) (out_3:List GDomain)=>
   dN (fun (s9:Int×List Int)=>
    dU (dd (out_3++[(GDomain.mk s9.1 s9.2)]).length 32) <|
    next4 (out_3++[(GDomain.mk s9.1 s9.2)]))
   (fun k9=>
    di (fun (k_13:Nat) (next12:(Int×List Int)→Option (List GDomain)) (s12:Int×List Int)=>
     (bif ((decide (¬(cQ d i_5).Station=s))||(decide (¬(cQ ((cQ d i_5).Channels) k_13)=c))) then
      dU (dd (s12.2++[(cQ ((cQ d i_5).Channels) k_13)]).length 8) <|
      next12 (s12.1,(s12.2++[(cQ ((cQ d i_5).Channels) k_13)]))
      else
      next12 (s12.1,s12.2)))
    (fun (s12:Int×List Int)=>
     k9 (s12.1,s12.2)) ((((cQ d i_5).Channels).length) - 0) 0 ((cQ d i_5).Station,[])))
  (fun (out_3:List GDomain)=>
   k2 out_3) (d.length - 0) 0 [])
def zbL (low:Int)(c:Int)(high:Int):Bool:=
 ((decide (low≤c))&&(decide (c≤high)))
def zco (d:List GDomain)(station:Int)(channel:Int):Bool:=
 dN (fun (_:Unit)=>
  true)
 (fun k1=>
  di (fun (i_3:Nat) (next2:Unit→Bool) (_:Unit)=>
   dN (fun (_:Unit)=>
    next2 ())
   (fun k5=>
    (bif decide (¬(cQ d i_3).Station=station) then
     k5 ()
     else
     di (fun (k_8:Nat) (next7:Unit→Bool) (_:Unit)=>
      (bif decide (¬(cQ ((cQ d i_3).Channels) k_8)=channel) then
       false
       else
       next7 ()))
     (fun (_:Unit)=>
      k5 ()) ((((cQ d i_3).Channels).length) - 0) 0 ())))
  (fun (_:Unit)=>
   k1 ()) (d.length - 0) 0 ())
def zdA (p:GProblem)(d:List GDomain)(s:Int)(c:Int):Bool:=
 dN (fun (_:Unit)=>
  false)
 (fun k1=>
  di (fun (i_3:Nat) (next2:Unit→Bool) (_:Unit)=>
   (bif (((decide ((cQ p.Rules.Pairs i_3).A=s))&&(zbL ((cQ p.Rules.Pairs i_3).Low) c ((cQ p.Rules.Pairs i_3).High)))&&(zco d ((cQ p.Rules.Pairs i_3).B) (wI (c+((cQ p.Rules.Pairs i_3).Offset))))) then
    true
    else
    (bif (((decide ((cQ p.Rules.Pairs i_3).B=s))&&(zbL ((cQ p.Rules.Pairs i_3).Low) (wI (c - ((cQ p.Rules.Pairs i_3).Offset))) ((cQ p.Rules.Pairs i_3).High)))&&(zco d ((cQ p.Rules.Pairs i_3).A) (wI (c - ((cQ p.Rules.Pairs i_3).Offset))))) then
     true
     else
     next2 ())))
  (fun (_:Unit)=>
   k1 ()) (p.Rules.Pairs.length - 0) 0 ())
def zdV (p:GProblem)(d:List GDomain)(to_:Int)(c:Int)(further:Int):Int:=
 dN (fun (n_1:Int)=>
  n_1)
 (fun k2=>
  di (fun (i_5:Nat) (next4:Int→Int) (n_3:Int)=>
   (bif (((decide ((cQ p.Rules.Loads i_5).To=to_))&&(zbL ((cQ p.Rules.Loads i_5).Low) c ((cQ p.Rules.Loads i_5).High)))&&((decide ((cQ p.Rules.Loads i_5).From=further))||(zco d ((cQ p.Rules.Loads i_5).From) c))) then
    next4 (wI (n_3+((cQ p.Rules.Loads i_5).Weight)))
    else
    next4 n_3))
  (fun (n_3:Int)=>
   k2 n_3) (p.Rules.Loads.length - 0) 0 0)
def zds (p:GProblem)(station:Int)(c:Int)(loss:Int):Bool:=
 dN (fun (_:Unit)=>
  false)
 (fun k1=>
  di (fun (i_3:Nat) (next2:Unit→Bool) (_:Unit)=>
   (bif (((decide ((cQ p.Rules.Caps i_3).Station=station))&&(zbL ((cQ p.Rules.Caps i_3).Low) c ((cQ p.Rules.Caps i_3).High)))&&(decide ((cQ p.Rules.Caps i_3).Max<loss))) then
    true
    else
    next2 ()))
  (fun (_:Unit)=>
   k1 ()) (p.Rules.Caps.length - 0) 0 ())
def zdx (p:GProblem)(d:List GDomain)(s:Int)(c:Int):Bool:=
 dN (fun (_:Unit)=>
  false)
 (fun k1=>
  di (fun (i_3:Nat) (next2:Unit→Bool) (_:Unit)=>
   (bif ((((decide ((cQ p.Rules.Loads i_3).From=s))&&(zbL ((cQ p.Rules.Loads i_3).Low) c ((cQ p.Rules.Loads i_3).High)))&&(zco d ((cQ p.Rules.Loads i_3).To) c))&&(zds p ((cQ p.Rules.Loads i_3).To) c (zdV p d ((cQ p.Rules.Loads i_3).To) c s))) then
    true
    else
    next2 ()))
  (fun (_:Unit)=>
   k1 ()) (p.Rules.Loads.length - 0) 0 ())
def zdk (p:GProblem)(d:List GDomain)(s:Int)(c:Int):Bool:=
 (((zdA p d s c)||(zds p s c (zdV p d s c (-1))))||(zdx p d s c))
theorem has_x {l:List Int}{n:Int}:iE l n=l.any fun k=>decide (k=n):=by
 unfold iE;simp only [dN,Nat.sub_zero];rw [zep (fun i=>decide (cQ l i=n)) (fun i next _=>?_),zdG (q:=fun k=>decide (k=n)),Bool.or_false]
 cases decide (cQ l i=n) <;> rfl
def jI (d:List GDomain)(s c:Int):Bool:=d.all fun x=>(decide (¬x.Station=s)||x.Channels.all fun k=>decide (k=c))
theorem zk0 {d:List GDomain}{s c:Int}:zco d s c=jI d s c:=by
 unfold zco jI;simp only [dN,Nat.sub_zero];rw [zcT (fun i=>(decide (¬(cQ d i).Station=s)||(cQ d i).Channels.all fun k=>decide (k=c))) (fun i next _=>?_),zdO (l:=d) (q:=fun x=>(decide (¬x.Station=s)||x.Channels.all fun k=>decide (k=c))),Bool.and_true];rw [zcT (fun k=>decide (cQ (cQ d i).Channels k=c)) (fun k nx _=>?_),zdO (q:=fun k=>decide (k=c))]
 ·cases decide (¬(cQ d i).Station=s) <;> rfl
 ·by_cases h:cQ (cQ d i).Channels k=c <;> simp [h]
theorem zga {a b c:Int}:zbL a b c=decide (a≤b∧b≤c):=by
 unfold zbL;by_cases h1:a≤b <;> by_cases h2:b≤c <;> simp [h1,h2]
def zhu (d:List GDomain)(s c:Int)(x:GPair):Bool:=(decide (x.A=s)&&decide (x.Low≤c∧c≤x.High)&&jI d x.B (wI (c+x.Offset)))||(decide (x.B=s)&&decide (x.Low≤wI (c - x.Offset)∧wI (c - x.Offset)≤x.High)&&jI d x.A (wI (c - x.Offset)))
theorem zly {p:GProblem}{d:List GDomain}{s c:Int}:zdA p d s c=p.Rules.Pairs.any (zhu d s c):=by
 unfold zdA;simp only [dN,Nat.sub_zero,zk0,zga];rw [zep (fun i=>zhu d s c (cQ p.Rules.Pairs i)) (fun i next _=>?_),zdG (q:=zhu d s c),Bool.or_false];unfold zhu;generalize (decide ((cQ p.Rules.Pairs i).A=s)&&decide ((cQ p.Rules.Pairs i).Low≤c∧c≤(cQ p.Rules.Pairs i).High)&&jI d (cQ p.Rules.Pairs i).B (wI (c+(cQ p.Rules.Pairs i).Offset)))=a
 cases a
 ·rw [cond_false,Bool.false_or];generalize (decide ((cQ p.Rules.Pairs i).B=s)&&decide ((cQ p.Rules.Pairs i).Low≤wI (c - (cQ p.Rules.Pairs i).Offset)∧wI (c - (cQ p.Rules.Pairs i).Offset)≤(cQ p.Rules.Pairs i).High)&&jI d (cQ p.Rules.Pairs i).A (wI (c - (cQ p.Rules.Pairs i).Offset)))=b
  cases b <;> rfl
 ·rfl
def loadC (d:List GDomain)(t c f:Int)(x:GLoad):Bool:=decide (x.To=t)&&decide (x.Low≤c∧c≤x.High)&&(decide (x.From=f)||jI d x.From c)
def iF (p:GProblem)(d:List GDomain)(t c f:Int):Int:=p.Rules.Loads.foldl (fun n x=>bif loadC d t c f x then wI (n+x.Weight) else n) 0
theorem zol {p:GProblem}{d:List GDomain}{t c f:Int}:zdV p d t c f=iF p d t c f:=by
 unfold zdV iF;simp only [dN,Nat.sub_zero,zk0,zga];rw [zj8 (fun i n=>bif loadC d t c f (cQ p.Rules.Loads i) then wI (n+(cQ p.Rules.Loads i).Weight) else n) (fun i next n _=>?_),zdX (g:=fun n x=>bif loadC d t c f x then wI (n+x.Weight) else n)];unfold loadC;generalize (decide ((cQ p.Rules.Loads i).To=t)&&decide ((cQ p.Rules.Loads i).Low≤c∧c≤(cQ p.Rules.Loads i).High)&&(decide ((cQ p.Rules.Loads i).From=f)||jI d (cQ p.Rules.Loads i).From c))=a
 cases a <;> rfl
def mt (p:GProblem)(s c l:Int):Bool:=p.Rules.Caps.any fun x=>decide (x.Station=s)&&decide (x.Low≤c∧c≤x.High)&&decide (x.Max<l)
theorem zmG {p:GProblem}{s c l:Int}:zds p s c l=mt p s c l:=by
 unfold zds mt;simp only [dN,Nat.sub_zero,zga];rw [zep (fun i=>decide ((cQ p.Rules.Caps i).Station=s)&&decide ((cQ p.Rules.Caps i).Low≤c∧c≤(cQ p.Rules.Caps i).High)&&decide ((cQ p.Rules.Caps i).Max<l)) (fun i next _=>?_),zdG (l:=p.Rules.Caps) (q:=fun x=>decide (x.Station=s)&&decide (x.Low≤c∧c≤x.High)&&decide (x.Max<l)),Bool.or_false];generalize (decide ((cQ p.Rules.Caps i).Station=s)&&decide ((cQ p.Rules.Caps i).Low≤c∧c≤(cQ p.Rules.Caps i).High)&&decide ((cQ p.Rules.Caps i).Max<l))=a
 cases a <;> rfl
def loadR (p:GProblem)(d:List GDomain)(s c:Int)(x:GLoad):Bool:=decide (x.From=s)&&decide (x.Low≤c∧c≤x.High)&&jI d x.To c&&mt p x.To c (iF p d x.To c s)
theorem zlN {p:GProblem}{d:List GDomain}{s c:Int}:zdx p d s c=p.Rules.Loads.any (loadR p d s c):=by
 unfold zdx;simp only [dN,Nat.sub_zero,zk0,zga,zmG,zol];rw [zep (fun i=>loadR p d s c (cQ p.Rules.Loads i)) (fun i next _=>?_),zdG (q:=loadR p d s c),Bool.or_false];unfold loadR;generalize (decide ((cQ p.Rules.Loads i).From=s)&&decide ((cQ p.Rules.Loads i).Low≤c∧c≤(cQ p.Rules.Loads i).High)&&jI d (cQ p.Rules.Loads i).To c&&mt p (cQ p.Rules.Loads i).To c (iF p d (cQ p.Rules.Loads i).To c s))=a
 cases a <;> rfl
def i9 (p:GProblem)(d:List GDomain)(s c:Int):Bool:=p.Rules.Pairs.any (zhu d s c)||mt p s c (iF p d s c (-1))||p.Rules.Loads.any (loadR p d s c)
theorem zlp {p:GProblem}{d:List GDomain}{s c:Int}:zdk p d s c=i9 p d s c:=by
 unfold zdk i9;rw [zly,zmG,zol,zlN]
def jZ (s c:Int)(x:GDomain):GDomain:=⟨x.Station,x.Channels.filter fun k=>decide (¬x.Station=s)||decide (¬k=c)⟩
theorem zmz {d:List GDomain}{s c:Int}(hd:d.length≤100000)(hc:∀x∈d,x.Channels.length≤100000):zcn d s c=some (d.map (jZ s c)):=by
 unfold zcn;simp only [dN,Nat.sub_zero];refine (zdc (fun i out=>out.length=i) (fun i out=>out++[jZ s c (cQ d i)]) rfl (fun i out _ h=>by simp [h]) (fun i next out hi hl=>?_)).1.trans ?_
 ·have hci:=hc (cQ d i) (by rw [eh hi];exact List.getElem_mem _);refine (zdc (fun k (t:Int×List Int)=>t.2.length≤k) (fun k t=>(t.1,bif (decide (¬(cQ d i).Station=s)||decide (¬cQ (cQ d i).Channels k=c)) then t.2++[cQ (cQ d i).Channels k] else t.2)) (by exact Nat.le_refl 0) (fun k t _ h=>?_) (fun k nx t hk ht=>?_)).1.trans ?_
  ·(try dsimp only)
   cases (decide (¬(cQ d i).Station=s)||decide (¬cQ (cQ d i).Channels k=c)) <;> simp <;> omega
  ·(try dsimp only)
   cases (decide (¬(cQ d i).Station=s)||decide (¬cQ (cQ d i).Channels k=c))
   ·rfl
   ·exact fL (by simp only [dd,List.length_append,List.length_singleton];omega)
  ·rw [zlk (g:=fun t k=>bif (decide (¬(cQ d i).Station=s)||decide (¬cQ (cQ d i).Channels k=c)) then t++[cQ (cQ d i).Channels k] else t),zdX (l:=(cQ d i).Channels) (g:=fun t k=>bif (decide (¬(cQ d i).Station=s)||decide (¬k=c)) then t++[k] else t),zj3 (g:=fun k=>k)];rw [fL (by simp only [dd,List.length_append,List.length_singleton];omega)];simp [jZ]
 ·rw [zdX (l:=d) (g:=fun out x=>out++[jZ s c x]),zhp];rfl
def i6 (s c:Int)(x:GDomain):GDomain:=⟨x.Station,bif decide (x.Station=s) then (bif x.Channels.any (fun k=>decide (k=c)) then [c] else []) else x.Channels⟩
theorem zoh {d:List GDomain}{s c:Int}(hd:d.length≤100000)(hc:∀x∈d,x.Channels.length≤100000):zdu d s c=some (d.map (i6 s c)):=by
 unfold zdu;simp only [dN,Nat.sub_zero,has_x];refine (zdc (fun i out=>out.length=i) (fun i out=>out++[i6 s c (cQ d i)]) rfl (fun i out _ h=>by simp [h]) (fun i next out hi hl=>?_)).1.trans ?_
 ·have hci:=hc (cQ d i) (by rw [eh hi];exact List.getElem_mem _);rw [fL (by simp only [dd,List.nil_append];omega)]; (have hr:∀y:GDomain,dd (out++[y]).length 32:=fun y=>by simp only [dd,List.length_append,List.length_singleton];omega);simp only [fL (hr _),i6]
  cases decide ((cQ d i).Station=s) <;> cases ((cQ d i).Channels.any fun k=>decide (k=c)) <;> rfl
 ·rw [zdX (l:=d) (g:=fun out x=>out++[i6 s c x]),zhp];rfl
def zbh (fuel:Nat)(p:GProblem)(d:List GDomain):Option (List GDomain×Bool):=
 dN (fun (d_1:List GDomain)=>
  dN (fun (_:Unit)=>
   some (d_1,true))
  (fun k20=>
   di (fun (i_22:Nat) (next21:Unit→Option (List GDomain×Bool)) (_:Unit)=>
    (bif decide ((((cQ d_1 i_22).Channels).length:Int)=0) then
     some ([],false)
     else
     next21 ()))
   (fun (_:Unit)=>
    k20 ()) (d_1.length - 0) 0 ()))
 (fun k2=>
  iV (fun (next5:(List GDomain×Bool)→Option (List GDomain×Bool)) (s5:List GDomain×Bool)=>
   (bif s5.2 then
    iV (fun (next11:(List GDomain×Bool×Int)→Option (List GDomain×Bool)) (s11:List GDomain×Bool×Int)=>
     (bif decide (s11.2.2<(s11.1.length:Int)) then
      dU (0≤s11.2.2∧s11.2.2<(s11.1.length:Int)) <|
      mU (fun (k_17:Nat) (next16:(List GDomain×Bool)→Option (List GDomain×Bool)) (s16:List GDomain×Bool)=>
       dU (0≤s11.2.2∧s11.2.2<(s16.1.length:Int)) <|
       dU (0≤(k_17:Int)∧(k_17:Int)<(((cQ s16.1 s11.2.2.toNat).Channels).length:Int)) <|
       (bif (zdk p s16.1 ((cQ s16.1 s11.2.2.toNat).Station) (cQ ((cQ s16.1 s11.2.2.toNat).Channels) k_17)) then
        (zcn s16.1 ((cQ s16.1 s11.2.2.toNat).Station) (cQ ((cQ s16.1 s11.2.2.toNat).Channels) k_17)).bind fun r51=>
        next16 (r51,true)
        else
        next16 (s16.1,s16.2)))
      (fun (s16:List GDomain×Bool)=>
       next11 (s16.1,s16.2,(s11.2.2+1))) (((cQ s11.1 s11.2.2.toNat).Channels).length) (s11.1,s11.2.1)
      else
      next5 (s11.1,s11.2.1))) fuel (s5.1,false,0)
    else
    k2 s5.1)) fuel (d,true))
theorem fX {α:Type}[Inhabited α]{xs:List α}{k:Nat}(h:k<xs.length):cQ xs k∈xs:=by rw [eh h];exact List.getElem_mem _
theorem i7 {α:Type}[Inhabited α]{xs:List α}{x:α}(h:x∈xs):∃k,k<xs.length∧cQ xs k=x:=by
 obtain ⟨k,hk,rfl⟩:=List.mem_iff_getElem.1 h;exact ⟨k,hk,eh hk⟩
theorem kl {α β:Type}[Inhabited α][Inhabited β]{f:α→β}{xs:List α}{i:Nat}(h:i<xs.length):cQ (xs.map f) i=f (cQ xs i):=zcN h
theorem ze3 {α:Type}[Inhabited α]{a b:List α}(hl:a.length=b.length)(h:∀i,i<a.length→cQ a i=cQ b i):a=b:=by
 apply List.ext_getElem hl;intro i h1 h2;have:=h i h1
 rwa [eh h1,eh h2] at this
def SubD (a b:List GDomain):Prop:=a.length=b.length∧∀i,i<b.length→(cQ a i).Station=(cQ b i).Station∧∀c∈(cQ a i).Channels,c∈(cQ b i).Channels
theorem SubD.refl (a:List GDomain):SubD a a:=⟨rfl,fun _ _=>⟨rfl,fun _ h=>h⟩⟩
theorem SubD.trans {a b c:List GDomain}(h:SubD a b)(k:SubD b c):SubD a c:=⟨h.1.trans k.1,fun i hi=>⟨((h.2 i (by rw [k.1];exact hi)).1).trans (k.2 i hi).1,fun x hx=>(k.2 i hi).2 x ((h.2 i (by rw [k.1];exact hi)).2 x hx)⟩⟩
def WtP (p:GProblem):Prop:=p.Rules.Loads.length≤1024∧∀x∈p.Rules.Loads,0≤x.Weight∧x.Weight≤1073741824
section
variable {p:GProblem}{a b d:List GDomain}
theorem zh0 {s c:Int}:jI d s c=true↔∀x∈d,x.Station=s→∀k∈x.Channels,k=c:=by
 unfold jI;simp only [List.all_eq_true,Bool.or_eq_true,decide_eq_true_eq];constructor
 ·intro h x hx hs k hk;rcases h x hx with h1|h1
  ·exact absurd hs h1
  ·exact h1 k hk
 ·intro h x hx;by_cases hs:x.Station=s
  ·exact .inr (h x hx hs)
  ·exact .inl hs
theorem zdS (h:SubD a b){s c:Int}(ho:jI b s c=true):jI a s c=true:=by
 rw [zh0] at ho ⊢;intro x hx hs k hk;obtain ⟨i,hi,rfl⟩:=i7 hx;have h2:=h.2 i (by rw [←h.1];exact hi);exact ho (cQ b i) (fX (by rw [←h.1];exact hi)) (by rw [←h2.1];exact hs) k (h2.2 k hk)
theorem zfQ {t c f : Int} (h : SubD a b) : ∀ (l : List GLoad), (∀ x ∈ l, 0 ≤ x.Weight ∧ x.Weight ≤ 1073741824) → ∀ n n' : Int, 0 ≤ n → n ≤ n' → n' + 1073741824 * (l.length : Int) ≤ 4611686018427387904 →
    l.foldl (fun n x => bif loadC b t c f x then wI (n + x.Weight) else n) n ≤ l.foldl (fun n x => bif loadC a t c f x then wI (n + x.Weight) else n) n'
  | [], _, n, n', _, hn, _ => hn
  | x :: r, hw, n, n', h0, hn, hb => by
    have h1 := hw x a8; simp only [List.length_cons] at hb; rw [List.foldl_cons, List.foldl_cons]; have e1 : wI (n + x.Weight) = n + x.Weight := ln a5; have e2 : wI (n' + x.Weight) = n' + x.Weight := ln a5; rw [e1, e2]
    have hc : loadC b t c f x = true → loadC a t c f x = true := by
      unfold loadC;simp only [Bool.and_eq_true, Bool.or_eq_true]; rintro ⟨h3, h4⟩; exact ⟨h3, h4.imp id (zdS h)⟩
    refine zfQ h r (fun y hy => hw y (by simp [hy])) _ _ ?_ ?_ ?_
    · cases loadC b t c f x <;> simp <;> omega
    · cases hb' : loadC b t c f x
      · cases loadC a t c f x <;> simp <;> omega
      · rw [hc hb']; simp; omega
    · cases loadC a t c f x <;> simp <;> omega
theorem zh8 (hp:WtP p)(h:SubD a b){t c f:Int}:iF p b t c f≤iF p a t c f:=by
 unfold iF;have:=hp.1;exact zfQ h _ hp.2 0 0 a5 a5 a5
theorem zg2 {s c l l':Int}(hl:l≤l')(h:mt p s c l=true):mt p s c l'=true:=by
 unfold mt at h ⊢;rw [List.any_eq_true] at h ⊢;obtain ⟨x,hx,h⟩:=h;refine ⟨x,hx,?_⟩;simp only [Bool.and_eq_true,decide_eq_true_eq] at h ⊢;exact ⟨h.1,by omega⟩
theorem zgq (hp:WtP p)(h:SubD a b){s c:Int}(hr:i9 p b s c=true):i9 p a s c=true:=by
 unfold i9 at hr ⊢;simp only [Bool.or_eq_true,List.any_eq_true] at hr ⊢;rcases hr with (⟨x,hx,hr⟩|hr)|⟨x,hx,hr⟩
 ·refine .inl (.inl ⟨x,hx,?_⟩);unfold zhu at hr ⊢;simp only [Bool.or_eq_true,Bool.and_eq_true] at hr ⊢;exact hr.imp (fun q=>⟨q.1,zdS h q.2⟩) (fun q=>⟨q.1,zdS h q.2⟩)
 ·exact .inl (.inr (zg2 (zh8 hp h) hr))
 ·refine .inr ⟨x,hx,?_⟩;unfold loadR at hr ⊢;simp only [Bool.and_eq_true] at hr ⊢;exact ⟨⟨hr.1.1,zdS h hr.1.2⟩,zg2 (zh8 hp h) hr.2⟩
structure ClosedD (p:GProblem) (d:List GDomain):Prop where
 ne:∀x∈d,x.Channels≠[]
 calm:∀x∈d,∀c∈x.Channels,i9 p d x.Station c=false
def OrdD (a b:List GDomain):Prop:=∀i,i<b.length→(cQ a i).Channels.Sublist (cQ b i).Channels
def PropD (p:GProblem)(d:List GDomain)(r:List GDomain×Bool):Prop:=
 (r.2=true∧ClosedD p r.1∧(SubD r.1 d∧OrdD r.1 d)∧∀S,ClosedD p S→SubD S d→SubD S r.1)∨(r=([],false)∧∀S,ClosedD p S→¬SubD S d)
def zlO (R:List GDomain→Int→Int→Bool)(d:List GDomain):Prop:=∀x∈d,∀c∈x.Channels,R d x.Station c=false
def MonoR (R:List GDomain→Int→Int→Bool):Prop:=∀a b s c,SubD a b→R b s c=true→R a s c=true
theorem zj4 {R:List GDomain→Int→Int→Bool}(hp:MonoR R){S:List GDomain}(hS:zlO R S)(h:SubD S d){s c:Int}(hr:R d s c=true):SubD S (d.map (jZ s c)):=by
 refine ⟨by rw [h.1,List.length_map],fun i hi=>?_⟩;rw [List.length_map] at hi;rw [kl hi];have h2:=h.2 i hi;refine ⟨h2.1,fun k hk=>?_⟩;unfold jZ;rw [List.mem_filter];refine ⟨h2.2 k hk,?_⟩;simp only [Bool.or_eq_true,decide_eq_true_eq];by_cases hs:(cQ d i).Station=s
 ·refine .inr fun hkc=>?_;subst hkc;have hm:=fX (show i<S.length by rw [h.1];exact hi);have:=hS _ hm k hk;rw [h2.1,hs,hp _ _ _ _ h hr] at this
  cases this
 ·exact .inl hs
theorem drop_sub {s c:Int}:SubD (d.map (jZ s c)) d:=by
 refine ⟨List.length_map _,fun i hi=>?_⟩;rw [kl hi];exact ⟨rfl,fun k hk=>(List.mem_filter.1 hk).1⟩
def fP (d:List GDomain):Nat:=(d.map fun x=>x.Channels.length).sum
theorem zlb:∀(d:List GDomain) (f:GDomain→GDomain),(∀x∈d,(f x).Channels.length≤x.Channels.length)→fP (d.map f)≤fP d
 | [],_,_=>Nat.le_refl _
 |x :: r,f,h=>by
  have:=zlb r f (fun y hy=>h y (by simp [hy]));have h1:=h x a8;simp only [fP,List.map_cons,List.sum_cons] at this ⊢;omega
theorem zkf:∀(d:List GDomain) (f:GDomain→GDomain),(∀x∈d,(f x).Channels.length≤x.Channels.length)→(∃x∈d,(f x).Channels.length<x.Channels.length)→fP (d.map f)<fP d
 |x :: r,f,h,he=>by
  have h1:=h x a8;obtain ⟨y,hy,hlt⟩:=he;rcases List.mem_cons.1 hy with rfl|hy
  ·have:=zlb r f (fun z hz=>h z (by simp [hz]));simp only [fP,List.map_cons,List.sum_cons] at this ⊢;omega
  ·have:=zkf r f (fun z hz=>h z (by simp [hz])) ⟨y,hy,hlt⟩;simp only [fP,List.map_cons,List.sum_cons] at this ⊢;omega
theorem zg3 {α:Type}{q:α→Bool}:∀ {l:List α} {x:α},x∈l→q x=false→(l.filter q).length<l.length
 |y :: r,x,hx,hq=>by
  rcases List.mem_cons.1 hx with rfl|hx
  ·rw [List.filter_cons,hq];have:=List.length_filter_le q r;simp;omega
  ·have:=zg3 hx hq;rw [List.filter_cons];split <;> simp only [List.length_cons] <;> omega
theorem znf {s c:Int}{i:Nat}(hi:i<d.length)(hs:(cQ d i).Station=s)(hc:c∈(cQ d i).Channels):fP (d.map (jZ s c))<fP d:=
 zkf d _ (fun x _=>List.length_filter_le _ _) ⟨cQ d i,fX hi,zg3 hc (by simp [hs])⟩
structure Bd (d:List GDomain):Prop where
 len:d.length≤100000
 ch:∀x∈d,x.Channels.length≤100000∧x.Channels.Nodup
theorem Bd.drop (h:Bd d){s c:Int}:Bd (d.map (jZ s c)):=by
 refine ⟨by rw [List.length_map];exact h.len,fun x hx=>?_⟩;obtain ⟨y,hy,rfl⟩:=List.mem_map.1 hx;exact ⟨Nat.le_trans (List.length_filter_le _ _) (h.ch y hy).1,(h.ch y hy).2.filter _⟩
theorem zj0 {s c:Int}{i k:Nat}(hb:Bd d)(hi:i<d.length)(hk:k<(cQ d i).Channels.length)(hc:cQ (cQ d i).Channels k=c):k≤(cQ (d.map (jZ s c)) i).Channels.length:=by
 rw [kl hi];unfold jZ;have hn:=(hb.ch _ (fX hi)).2;have e:(cQ d i).Channels=(cQ d i).Channels.take k++(cQ d i).Channels.drop k:=(List.take_append_drop k _).symm
 have hf:((cQ d i).Channels.take k).filter (fun q=>decide (¬(cQ d i).Station=s)||decide (¬q=c))=(cQ d i).Channels.take k:=by
  rw [List.filter_eq_self];intro q hq;simp only [Bool.or_eq_true,decide_eq_true_eq];refine .inr fun hqc=>?_;obtain ⟨j,hj,rfl⟩:=List.mem_iff_getElem.1 hq;simp only [List.length_take] at hj;rw [List.getElem_take] at hqc;rw [eh hk] at hc;have:=(List.getElem_inj (h₀:=by omega) (h₁:=hk) hn).1 (hqc.trans hc.symm);omega
 show k≤((cQ d i).Channels.filter _).length
 rw [e,List.filter_append,hf,List.length_append,List.length_take];omega
structure InvR (R:List GDomain→Int→Int→Bool) (d0 d:List GDomain):Prop where
 bd:Bd d
 sub:SubD d d0
 ord:OrdD d d0
 sup:∀S,zlO R S→SubD S d0→SubD S d
theorem InvR.step {R:List GDomain→Int→Int→Bool}{d0:List GDomain}(hp:MonoR R)(h:InvR R d0 d){s c:Int}(hr:R d s c=true):InvR R d0 (d.map (jZ s c)):=
 ⟨h.bd.drop,drop_sub.trans h.sub,fun i hi=>by
  rw [kl (by rw [h.sub.1];exact hi)]
  exact (List.filter_sublist).trans (h.ord i hi),fun S hS hs=>zj4 hp hS (h.sup S hS hs) hr⟩
theorem zm4 {R : List GDomain → Int → Int → Bool} {ρ : Type} {fuel : Nat} {d0 : List GDomain} {k2 : List GDomain → Option ρ} (post : Option ρ → Prop) (hp : MonoR R) (hb : Bd d0) (hf1 : d0.length < fuel) (hf2 : fP d0 + 1 < fuel) (hend : ∀ d, InvR R d0 d → zlO R d → post (k2 d)) :
    post (iV (fun (next5 : (List GDomain × Bool) → Option ρ) (s5 : List GDomain × Bool) =>
      (bif s5.2 then
        iV (fun (next11 : (List GDomain × Bool × Int) → Option ρ) (s11 : List GDomain × Bool × Int) =>
          (bif decide (s11.2.2 < (s11.1.length : Int)) then
            dU (0 ≤ s11.2.2 ∧ s11.2.2 < (s11.1.length : Int)) <|
            mU (fun (k_17 : Nat) (next16 : (List GDomain × Bool) → Option ρ) (s16 : List GDomain × Bool) =>
              dU (0 ≤ s11.2.2 ∧ s11.2.2 < (s16.1.length : Int)) <|
              dU (0 ≤ (k_17 : Int) ∧ (k_17 : Int) < (((cQ s16.1 s11.2.2.toNat).Channels).length : Int)) <|
              (bif (R s16.1 ((cQ s16.1 s11.2.2.toNat).Station) (cQ ((cQ s16.1 s11.2.2.toNat).Channels) k_17)) then
                (zcn s16.1 ((cQ s16.1 s11.2.2.toNat).Station) (cQ ((cQ s16.1 s11.2.2.toNat).Channels) k_17)).bind fun r51 =>
                next16 (r51, true)
                else
                next16 (s16.1, s16.2)))
            (fun (s16 : List GDomain × Bool) =>
              next11 (s16.1, s16.2, (s11.2.2 + 1))) (((cQ s11.1 s11.2.2.toNat).Channels).length) (s11.1, s11.2.1)
            else
            next5 (s11.1, s11.2.1))) fuel (s5.1, false, 0)
        else
        k2 s5.1)) fuel (d0, true)) := by
  refine zcA (σ := List GDomain × Bool) (I := fun s => InvR R d0 s.1 ∧ (s.2 = false → zlO R s.1)) (μ := fun s => fP s.1 + (bif s.2 then 1 else 0)) (post := post) ⟨⟨hb, .refl _, fun _ _ => List.Sublist.refl _, fun S _ h => h⟩, fun h => by cases h⟩ hf2 ?_; rintro ⟨d, again⟩ next ⟨hI, hA⟩ hn; dsimp only at hI hA hn ⊢
  cases again with
  | false =>
    rw [cond_false]; exact hend d hI (hA rfl)
  | true =>
    rw [cond_true]
    -- one sweep over the stations
    refine zcA (σ := List GDomain × Bool × Int) (I := fun s => InvR R d0 s.1 ∧ 0 ≤ s.2.2 ∧ s.2.2 ≤ s.1.length ∧ s.1.length = d.length ∧ (s.2.1 = false → s.1 = d ∧ ∀ j : Nat, (j : Int) < s.2.2 → ∀ c ∈ (cQ d j).Channels, R d (cQ d j).Station c = false) ∧ (s.2.1 = true → fP s.1 < fP d)) (μ := fun s => (s.1.length - s.2.2).toNat) (post := post) ⟨hI, by simp, by simp, rfl, fun _ => ⟨rfl, fun j hj => absurd hj a8⟩, fun h => by cases h⟩ (by simp only [Int.sub_zero, Int.toNat_natCast]; rw [hI.sub.1]; exact hf1) ?_; rintro ⟨d1, ag, i⟩ next1 ⟨hI1, h0, h1, hl, hF, hT⟩ hn1; dsimp only at hI1 h0 h1 hl hF hT hn1 ⊢; by_cases hi : i < (d1.length : Int)
    · rw [decide_eq_true hi, cond_true, fL ⟨h0, hi⟩]; (have hin : i.toNat < d1.length := by omega); refine zlu (σ := List GDomain × Bool) (I := fun m s => InvR R d0 s.1 ∧ s.1.length = d.length ∧ m ≤ (cQ s.1 i.toNat).Channels.length ∧ (s.2 = false → s.1 = d ∧ (∀ j : Nat, (j : Int) < i → ∀ c ∈ (cQ d j).Channels, R d (cQ d j).Station c = false) ∧ ∀ k, m ≤ k → k < (cQ d i.toNat).Channels.length → R d (cQ d i.toNat).Station (cQ (cQ d i.toNat).Channels k) = false) ∧ (s.2 = true → fP s.1 < fP d)) (post := post) ?_ ?_ ?_
      · dsimp only; refine ⟨hI1, hl, Nat.le_refl _, fun h => ?_, hT⟩; obtain ⟨h2, h3⟩ := hF h; subst h2; exact ⟨rfl, h3, fun k h4 h5 => absurd h5 a5⟩
      · rintro ⟨d2, ag2⟩ ⟨g1, g2, _, g4, g5⟩; dsimp only at g1 g2 g4 g5 ⊢; refine hn1 _ ⟨g1, by dsimp only; omega, by dsimp only; omega, g2, fun h => ?_, g5⟩ (by dsimp only; omega); dsimp only at h; obtain ⟨h2, h3, h4⟩ := g4 h; refine ⟨h2, fun j hj c hc => ?_⟩; dsimp only at hj; by_cases hji : (j : Int) < i
        · exact h3 j hji c hc
        · (obtain rfl : j = i.toNat := by omega); obtain ⟨k, hk, rfl⟩ := i7 hc; exact h4 k (Nat.zero_le _) hk
      · rintro k ⟨d2, ag2⟩ nx hk ⟨g1, g2, g3, g4, g5⟩ hnx; dsimp only at g1 g2 g3 g4 g5 hnx ⊢; (have hid : i.toNat < d2.length := by omega); rw [fL ⟨h0, by omega⟩, fL ⟨by omega, by omega⟩]
        cases hr : R d2 (cQ d2 i.toNat).Station (cQ (cQ d2 i.toNat).Channels k) with
        | true =>
          rw [cond_true, zmz g1.bd.len (fun x hx => (g1.bd.ch x hx).1), Option.bind_some]; refine hnx _ ⟨g1.step hp hr, by dsimp only; rw [List.length_map]; exact g2, zj0 g1.bd hid a5 rfl, (fun h => by cases h), fun _ => ?_⟩;dsimp only; have h6 := znf hid rfl (fX (show k < (cQ d2 i.toNat).Channels.length by omega))
          cases ag2 with
          | true => have := g5 rfl; omega
          | false => obtain ⟨h7, _⟩ := g4 rfl; subst h7; exact h6
        | false =>
          rw [cond_false]; refine hnx _ ⟨g1, g2, by dsimp only; omega, fun h => ?_, g5⟩; dsimp only at h ⊢; obtain ⟨h7, h8, h9⟩ := g4 h; refine ⟨h7, h8, fun q h10 h11 => ?_⟩; rcases Nat.lt_or_ge k q with h12 | h12
          · exact h9 q h12 h11
          · (obtain rfl : q = k := by omega); subst h7; exact hr
    · rw [decide_eq_false hi, cond_false]; (have hil : i = d1.length := by omega); refine hn (d1, ag) ⟨hI1, fun h => ?_⟩ ?_
      · dsimp only at h ⊢; obtain ⟨h2, h3⟩ := hF h; subst h2; intro x hx c hc; obtain ⟨j, hj, rfl⟩ := i7 hx; exact h3 j a5 c hc
      · dsimp only
        cases ag with
        | true => have := hT rfl;simp only [cond_true]; omega
        | false => obtain ⟨h2, _⟩ := hF rfl; subst h2;simp only [cond_true, cond_false]; omega
theorem MonoR.rem (hp:WtP p):MonoR (i9 p):=fun _ _ _ _ h hr=>zgq hp h hr
theorem ziR {fuel : Nat} {d0 : List GDomain} (hp : WtP p) (hb : Bd d0) (hf1 : d0.length < fuel) (hf2 : fP d0 + 1 < fuel) : ∃ r, zbh fuel p d0 = some r ∧ PropD p d0 r := by
  unfold zbh;simp only [dN, Nat.sub_zero, zlp]; refine zm4 (R := i9 p) (k2 := fun d => di (fun (i : Nat) (next : Unit → Option (List GDomain × Bool)) (_ : Unit) => bif decide ((((cQ d i).Channels).length : Int) = 0) then some ([], false) else next ()) (fun (_ : Unit) => some (d, true)) d.length 0 ()) (fun o => ∃ r, o = some r ∧ PropD p d0 r) (.rem hp) hb hf1 hf2 fun d hI hA => ?_
  -- the end: is a domain empty?
  refine zkX (σ := Unit) (I := fun i _ => ∀ j, j < i → (cQ d j).Channels ≠ []) (post := fun o => ∃ r, o = some r ∧ PropD p d0 r) (fun j hj => absurd hj (Nat.not_lt_zero j)) ?_ ?_
  · intro _ h; refine ⟨_, rfl, .inl ⟨rfl, ⟨fun x hx => ?_, hA⟩, ⟨hI.sub, hI.ord⟩, fun S hS => hI.sup S hS.calm⟩⟩; obtain ⟨i, hi, rfl⟩ := i7 hx; exact h i hi
  · intro i _ nx hi h hnx; by_cases he : (cQ d i).Channels = []
    · rw [he]; refine ⟨_, rfl, .inr ⟨rfl, fun S hS hs => ?_⟩⟩; have h2 := hI.sup S hS.calm hs; have h3 := (h2.2 i hi).2; rw [he] at h3; have hm := fX (show i < S.length by rw [h2.1]; exact hi); apply hS.ne _ hm
      cases hc : (cQ S i).Channels with
      | nil => rfl
      | cons c r => exact absurd (h3 c (by rw [hc]; simp)) a8
    · have : ¬ ((cQ d i).Channels.length : Int) = 0 := fun h0 => he (List.eq_nil_of_length_eq_zero a5); rw [decide_eq_false this, cond_false]; refine hnx () (fun j hj => ?_); rcases Nat.lt_or_ge j i with h1 | h1
      · exact h j h1
      · rw [show j = i by omega]; exact he
end
def inB (n a b:Int):Bool:=decide (a≤n)&&decide (n≤b)
def iG (lo hi:Int):Bool:=decide (2≤lo)&&(decide (lo≤hi)&&decide (hi≤51))
def Ie (z:Int):List Value:=[.int .i64 z]
abbrev zgv (w:World)(v:Value)(l:List Int):Prop:=SlOf w v Ie 1 l
structure Dx where
 st:Int
 v:Value
 chs:List Int
instance:Inhabited Dx:=⟨⟨0, .slice none 0 0,[]⟩⟩
def Dx.cells (d:Dx):List Value:=[.int .i64 d.st,d.v]
structure Pr where
 a:Int
 b:Int
 off:Int
 lo:Int
 hi:Int
deriving DecidableEq,Inhabited
def Pr.cells (x:Pr):List Value:=[.int .i64 x.a, .int .i64 x.b, .int .i64 x.off, .int .i64 x.lo, .int .i64 x.hi]
structure Ld where
 to:Int
 fr:Int
 wt:Int
 lo:Int
 hi:Int
deriving DecidableEq,Inhabited
def Ld.cells (x:Ld):List Value:=[.int .i64 x.to, .int .i64 x.fr, .int .i64 x.wt, .int .i64 x.lo, .int .i64 x.hi]
structure Cp where
 st:Int
 mx:Int
 lo:Int
 hi:Int
deriving DecidableEq,Inhabited
def Cp.cells (x:Cp):List Value:=[.int .i64 x.st, .int .i64 x.mx, .int .i64 x.lo, .int .i64 x.hi]
structure Ch where
 st:Int
 ch:Int
deriving DecidableEq,Inhabited
def Ch.cells (x:Ch):List Value:=[.int .i64 x.st, .int .i64 x.ch]
abbrev PrsAt (w:World)(v:Value)(l:List Pr):Prop:=SlOf w v Pr.cells 5 l
abbrev LdsAt (w:World)(v:Value)(l:List Ld):Prop:=SlOf w v Ld.cells 5 l
abbrev CpsAt (w:World)(v:Value)(l:List Cp):Prop:=SlOf w v Cp.cells 4 l
structure DomsAt (w:World) (v:Value) (l:List Dx):Prop where
 sl:SlOf w v Dx.cells 2 l
 each:∀d∈l,zgv w d.v d.chs
theorem SlOf.one {α:Type}{w:World}{v:Value}{enc:α→List Value}{size:Nat}{xs:List α}(h:SlOf w v enc size xs):OneC v:=by
 obtain ⟨A,cap,rfl,_⟩:=h;exact inferInstance
theorem i0 {α:Type}[Inhabited α]{xs:List α}{k:Nat}(h:k<xs.length):cQ xs k∈xs:=by rw [eh h];exact List.getElem_mem _
theorem DomsAt.at {w:World}{v:Value}{l:List Dx}(h:DomsAt w v l){k:Nat}(hk:k<l.length):zgv w (cQ l k).v (cQ l k).chs:=h.each _ (i0 hk)
theorem DomsAt.kept {B w:World}{hs:HS}{v:Value}{l:List Dx}(hw:Hp B (fun _=>False) hs w)(h:DomsAt B v l):DomsAt w v l:=⟨h.sl.kept hw,fun d hd=>(h.each d hd).kept hw⟩
structure Pb where
 ds:List Dx
 ps:List Pr
 ls:List Ld
 cs:List Cp
structure RulesAt (w:World) (vp vl vc:Value) (P:Pb):Prop where
 ps:PrsAt w vp P.ps
 ls:LdsAt w vl P.ls
 cs:CpsAt w vc P.cs
 hps:P.ps.length≤9223372036854775807
 hls:P.ls.length≤9223372036854775807
 hcs:P.cs.length≤9223372036854775807
structure ProbAt (w:World) (vd vp vl vc:Value) (P:Pb):Prop where
 ds:DomsAt w vd P.ds
 ru:RulesAt w vp vl vc P
 hds:P.ds.length≤9223372036854775807
 hch:∀d∈P.ds,d.chs.length≤9223372036854775807
theorem RulesAt.kept {B w:World}{hs:HS}{vp vl vc:Value}{P:Pb}(hw:Hp B (fun _=>False) hs w)(h:RulesAt B vp vl vc P):RulesAt w vp vl vc P:=⟨h.ps.kept hw,h.ls.kept hw,h.cs.kept hw,h.hps,h.hls,h.hcs⟩
theorem ProbAt.kept {B w:World}{hs:HS}{vd vp vl vc:Value}{P:Pb}(hw:Hp B (fun _=>False) hs w)(h:ProbAt B vd vp vl vc P):ProbAt w vd vp vl vc P:=⟨h.ds.kept hw,h.ru.kept hw,h.hds,h.hch⟩
def ej (a b:Int):Int:=if a<b then -1 else if b<a then 1 else 0
def f9 {α:Type}[Inhabited α](c:α→α→Int)(xs:List α):Bool:=(List.range xs.length).all fun k=>decide (k=0)|| !decide (0≤c (cQ xs (k - 1)) (cQ xs k))
def fZ {α:Type}[Inhabited α](q:α→Bool)(xs:List α):Bool:=(List.range xs.length).all fun k=>q (cQ xs k)
def orL:List Int→Int
 | []=>0
 |x :: r=>if x=0 then orL r else x
theorem zjA {l:List Int}{k:Nat}(h:k<l.length):orL (l.drop k)=if cQ l k=0 then orL (l.drop (k+1)) else cQ l k:=by
 rw [List.drop_eq_getElem_cons h,eh h];rfl
theorem zde (n a b:Int)(w:World):Calls Tryz.prog 80 #[.int .i64 n, .int .i64 a, .int .i64 b] w fun e w'=>e= .returned (.bool (inB n a b))∧Below w.heap.size w w':=by
 refine dy (M:=fun _=>False) (hs:=[]) Tryz.func80 rfl rfl rfl (Hp.refl _ _) ?_;refine mM ?_;refine TL.run 4 rfl ?_;refine dw rfl rfl rfl (fun h1=>?_) (fun h1=>?_)
 ·have p1:=h1; (try simp only [c7] at p1);refine jM ?_;refine jM ?_;refine jM ?_;refine kF ?_;refine fm ?_;refine c8 rfl rfl (fun w' hw=>⟨?_,hw.isBelow⟩);exact q4H
 ·have p1:=h1; (try simp only [c7] at p1);refine q1m ?_;refine fm ?_;refine c8 rfl rfl (fun w' hw=>⟨?_,hw.isBelow⟩);exact q4H
theorem zcc (n:Int)(w:World):Calls Tryz.prog 79 #[.int .i64 n] w fun e w'=>e= .returned (.bool (inB n 0 511))∧Below w.heap.size w w':=by
 refine dy (M:=fun _=>False) (hs:=[]) Tryz.func79 rfl rfl rfl (Hp.refl _ _) ?_;refine mD ?_; (refine cU (Wt.none) rfl rfl (cS rfl rfl rfl (fun w hw=>zde _ _ _ _)) ?_;rintro _ _ ⟨rfl,rfl⟩);refine fm ?_;refine c8 rfl rfl (fun w' hw=>⟨?_,hw.isBelow⟩)
 rfl
theorem ze2 (lo hi:Int)(w:World):Calls Tryz.prog 151 #[.int .i64 lo, .int .i64 hi] w fun e w'=>e= .returned (.bool (iG lo hi))∧Below w.heap.size w w':=by
 refine dy (M:=fun _=>False) (hs:=[]) Tryz.func151 rfl rfl rfl (Hp.refl _ _) ?_;refine mM ?_;refine fF ?_;refine dw rfl rfl rfl (fun h1=>?_) (fun h1=>?_)
 ·have p1:=h1; (try simp only [c7] at p1);refine jM ?_;refine jM ?_;refine jM ?_;refine kF ?_;refine dp ?_;refine dw rfl rfl rfl (fun h2=>?_) (fun h2=>?_)
  ·have p2:=h2; (try simp only [c7] at p2);refine mj ?_;refine mj ?_;refine q2w ?_;refine fm ?_;refine c8 rfl rfl (fun w' hw=>⟨?_,hw.isBelow⟩);exact q4w
  ·have p2:=h2; (try simp only [c7] at p2);refine q1P ?_;refine fm ?_;refine c8 rfl rfl (fun w' hw=>⟨?_,hw.isBelow⟩);exact q4w
 ·have p1:=h1; (try simp only [c7] at p1);refine q1m ?_;refine kb ?_;refine fN ?_;refine c8 rfl rfl (fun w' hw=>⟨?_,hw.isBelow⟩);exact q4w
theorem ziy (n:Int)(w:World):Calls Tryz.prog 140 #[.int .i64 n] w fun e w'=>e= .returned (.bool false)∧Below w.heap.size w w':=by
 refine dy (M:=fun _=>False) (hs:=[]) Tryz.func140 rfl rfl rfl (Hp.refl _ _) ?_;refine mM ?_;refine TL.run 4 rfl ?_;refine fN ?_;refine c8 rfl rfl (fun w' hw=>⟨?_,hw.isBelow⟩);exact j1 a8
theorem kN (a b:Int)(w:World):Calls Tryz.prog 107 #[.int .i64 a, .int .i64 b] w fun e w'=>e= .returned (.int .i64 (ej a b))∧Below w.heap.size w w':=by
 refine dy (M:=fun _=>False) (hs:=[]) Tryz.func107 rfl rfl rfl (Hp.refl _ _) ?_;refine mD ?_; (refine cU (Wt.none) rfl rfl (cS rfl rfl rfl (fun w hw=>ziy _ _)) ?_;rintro _ _ ⟨rfl,rfl⟩);refine kH ?_; (refine cU (Wt.none) rfl rfl (cS rfl rfl rfl (fun w hw=>ziy _ _)) ?_;rintro _ _ ⟨rfl,rfl⟩);refine i2 ?_;refine dL ?_;refine iU rfl rfl ?_;refine ke ?_;refine dL ?_;refine iU rfl rfl ?_;refine ke ?_;refine fF ?_;refine TL.ns ?_;refine T.cond rfl (fun h1=>?_) (fun h1=>?_)
 ·have p1:=h1; (try simp only [c7] at p1);refine hD ?_;refine c8 rfl rfl (fun w' hw=>⟨?_,hw.isBelow⟩);exact q4x
 ·have p1:=h1; (try simp only [c7] at p1);refine ke ?_;refine fF ?_;refine TL.ns ?_;refine T.cond rfl (fun h2=>?_) (fun h2=>?_)
  ·have p2:=h2; (try simp only [c7] at p2);refine hD ?_;refine c8 rfl rfl (fun w' hw=>⟨?_,hw.isBelow⟩);exact q4x
  ·have p2:=h2; (try simp only [c7] at p2);refine gW ?_;refine fm ?_;refine c8 rfl rfl (fun w' hw=>⟨?_,hw.isBelow⟩);exact q4x
theorem zkB (l:List Int)(v:Value)(w:World)(h:zgv w v l)(hl:l.length≤9223372036854775807):Calls Tryz.prog 152 #[v] w fun e w'=>e= .returned (.int .i64 (orL l))∧Below w.heap.size w w':=by
 obtain ⟨A,cap,rfl,hsl⟩:=h.op;refine dy (M:=fun _=>False) (hs:=[]) Tryz.func152 rfl rfl rfl (Hp.refl _ _) ?_;refine mM ?_;refine l5 ?_;refine jH ?_;refine T.loop (ι:=Nat) (fun k=>[(3, .int .i64 0),(6, .slice A l.length cap),(7, .int .i64 (l.length:Int)),(8, .int .i64 (k:Int))]) (fun k=>[]) (fun k=>k≤l.length∧orL (l.drop k)=orL l) (fun k=>l.length - k) 0 ?_ ?_ ?_ ?_
 ·exact ⟨by omega,rfl⟩
 ·exact (by repeat (first|exact Sub.nil|refine Sub.cons rfl ?_))
 ·exact Sx
 ·intro k hphi;obtain ⟨hkl,hor⟩:=hphi;refine eR ?_;refine T.cond rfl (fun h1=>?_) (fun h1=>?_)
  ·have p1:=h1; (try simp only [c7] at p1);obtain ⟨g,off,rfl,hc⟩:=hsl a5;have hk:=hc k a5;simp only [Ie] at hk;refine fH ?_;refine q1Z ?_;refine gz ?_;refine fF ?_;refine TL.ns ?_;refine T.cond rfl (fun h2=>?_) (fun h2=>?_)
   ·have p2:=h2; (try simp only [c7] at p2);refine iD ?_;refine q2X ?_;refine c8 rfl rfl (fun w' hw=>⟨?_,hw.isBelow⟩);exact zcV (by rw [zjA a5,if_neg cK] at hor;exact hor)
   ·have p2:=h2; (try simp only [c7] at p2);refine gZ ?_;exact K.next (k+1) ⟨by omega,by rw [zjA a5,if_pos cK] at hor;exact hor⟩ a5 (by repeat (first|exact Sub.nil|refine Sub.cons rfl ?_)) Sx
  ·have p1:=h1; (try simp only [c7] at p1);refine q01 ?_;refine jP ?_;refine c8 rfl rfl (fun w' hw=>⟨?_,hw.isBelow⟩);exact zcV (by rw [List.drop_eq_nil_of_le a5] at hor;exact hor)
theorem zlX {q:Dx→Bool}(xs:List Dx)(v:Value)(f:FuncId)(caps:Array Value)(w:World)(h:SlOf w v Dx.cells 2 xs)(ho1:∀k,k<xs.length→OneC (cQ xs k).v)[hE:Enters Tryz.prog f](hC:∀k,k<xs.length→∀w',Below w.heap.size w w'→Calls Tryz.prog f (.agg (Dx.cells (cQ xs k)).toArray :: caps.toList).toArray w' fun e w''=>e= .returned (.bool (q (cQ xs k)))∧Below w'.heap.size w' w'')(hl:xs.length≤9223372036854775807):Calls Tryz.prog 103 #[v, .func (.func f) #[] caps] w fun e w'=>e= .returned (.bool (fZ q xs))∧Below w.heap.size w w':=by
 obtain ⟨A,cap,rfl,hsl⟩:=h.op;refine dy (M:=fun _=>False) (hs:=[]) Tryz.func103 rfl rfl rfl (Hp.refl _ _) ?_;refine i5 ?_;refine jH ?_;refine T.loop (ι:=Nat) (fun k=>[(1, .func (.func f) #[] caps),(7, .slice A xs.length cap),(8, .int .i64 (xs.length:Int)),(9, .int .i64 (k:Int))]) (fun k=>[]) (fun k=>k≤xs.length∧∀j,j<k→q (cQ xs j)=true) (fun k=>xs.length - k) 0 ?_ ?_ ?_ ?_
 ·exact q4h
 ·exact (by repeat (first|exact Sub.nil|refine Sub.cons rfl ?_))
 ·exact Sx
 ·intro k hphi;obtain ⟨hkl,hall⟩:=hphi;refine eR ?_;refine T.cond rfl (fun h1=>?_) (fun h1=>?_)
  ·have p1:=h1; (try simp only [c7] at p1);obtain ⟨g,off,rfl,hc⟩:=hsl a5;have hk:=hc k a5;haveI:=ho1 k a5;simp only [Dx.cells] at hk;refine fH ?_;refine lG ?_; (refine cU (Wt.none) rfl rfl (Ew.alloc) ?_;rintro _ _ ⟨g6,rfl,rfl⟩); (refine dS (Wt.none) rfl (dF 0) ?_;rintro _ _ ⟨rfl,rfl⟩);refine l7 ?_;refine iu ?_; (refine cU (Wt.none) rfl rfl (kw rfl rfl rfl (fun w hw=>hC k a5 w hw.isBelow)) ?_;rintro _ _ ⟨rfl,rfl⟩);refine dL ?_;refine T.cond rfl (fun h2=>?_) (fun h2=>?_)
   ·have p2:=h2; (try simp only [c7] at p2);refine jv ?_;refine c8 rfl rfl (fun w' hw=>⟨?_,hw.isBelow⟩);exact q4i
   ·have p2:=h2; (try simp only [c7] at p2);refine gZ ?_;exact K.next (k+1) ⟨by omega,zem hall (by simpa using p2)⟩ a5 (by repeat (first|exact Sub.nil|refine Sub.cons rfl ?_)) Sx
  ·have p1:=h1; (try simp only [c7] at p1);refine q3R ?_;refine c8 rfl rfl (fun w' hw=>⟨?_,hw.isBelow⟩);exact q4j
theorem zhA {c:Dx→Dx→Int}(xs:List Dx)(v:Value)(f:FuncId)(w:World)(h:SlOf w v Dx.cells 2 xs)(ho1:∀k,k<xs.length→OneC (cQ xs k).v)[hE:Enters Tryz.prog f](hC:∀x y:Dx,OneC x.v→OneC y.v→∀w':World,Calls Tryz.prog f #[.agg (Dx.cells (x)).toArray, .agg (Dx.cells (y)).toArray] w' fun e w''=>e= .returned (.int .i64 (c x y))∧Below w'.heap.size w' w'')(hl:xs.length≤9223372036854775807):Calls Tryz.prog 108 #[v, .func (.func f) #[] #[]] w fun e w'=>e= .returned (.bool (f9 c xs))∧Below w.heap.size w w':=by
 obtain ⟨A,cap,rfl,hsl⟩:=h.op;refine dy (M:=fun _=>False) (hs:=[]) Tryz.func108 rfl rfl rfl (Hp.refl _ _) ?_;refine i5 ?_;refine TL.ns (T.block ?_);refine T.loop (ι:=Nat) (fun k=>[(0, .slice A xs.length cap),(1, .func (.func f) #[] #[]),(5, .int .i64 (k:Int))]) (fun k=>[]) (fun k=>1≤k∧∀j,j<k→j<xs.length→(decide (j=0)|| !decide (0≤c (cQ xs (j - 1)) (cQ xs j)))=true) (fun k=>xs.length - k) 1 ?_ ?_ ?_ ?_
 ·exact q4k
 ·exact (by repeat (first|exact Sub.nil|refine Sub.cons rfl ?_))
 ·exact Sx
 ·intro k hphi;obtain ⟨hk0,hall⟩:=hphi;refine jS ?_;refine l8 ?_;refine dL ?_;refine T.cond rfl (fun h1=>?_) (fun h1=>?_)
  ·have p1:=h1; (try simp only [c7] at p1);obtain ⟨g,off,rfl,hc⟩:=hsl a5;have hk:=hc k a5;have hk1:=hc (k - 1) a5;have o1:=ho1 k a5;have o2:=ho1 (k - 1) a5;simp only [Dx.cells] at hk hk1;refine q0q ?_; (refine de rfl (Wt.none) rfl rfl (cS rfl rfl rfl (fun w hw=>hC (cQ xs (k - 1)) (cQ xs k) o2 o1 w)) ?_;rintro _ _ ⟨rfl,rfl⟩;refine ⟨Sx,?_⟩);refine kQ ?_;refine T.cond rfl (fun h2=>?_) (fun h2=>?_)
   ·have p2:=h2; (try simp only [c7] at p2);refine jv ?_;refine c8 rfl rfl (fun w' hw=>⟨?_,hw.isBelow⟩);exact q4l
   ·have p2:=h2; (try simp only [c7] at p2);refine li ?_;exact K.next (k+1) ⟨by omega,fun j hj hjl=>by rcases Nat.lt_or_ge j k with hh|hh;exact hall j hh hjl;rw [show j=k from by omega,decide_eq_false a5];simpa using p2⟩ a5 (by repeat (first|exact Sub.nil|refine Sub.cons rfl ?_)) Sx
  ·have p1:=h1; (try simp only [c7] at p1);refine q3R ?_;refine c8 rfl rfl (fun w' hw=>⟨?_,hw.isBelow⟩);exact q4m
theorem zk5 {q:Pr→Bool}(xs:List Pr)(v:Value)(f:FuncId)(caps:Array Value)(w:World)(h:SlOf w v Pr.cells 5 xs)[hE:Enters Tryz.prog f](hC:∀k,k<xs.length→∀w',Below w.heap.size w w'→Calls Tryz.prog f (.agg (Pr.cells (cQ xs k)).toArray :: caps.toList).toArray w' fun e w''=>e= .returned (.bool (q (cQ xs k)))∧Below w'.heap.size w' w'')(hl:xs.length≤9223372036854775807):Calls Tryz.prog 110 #[v, .func (.func f) #[] caps] w fun e w'=>e= .returned (.bool (fZ q xs))∧Below w.heap.size w w':=by
 obtain ⟨A,cap,rfl,hsl⟩:=h.op;refine dy (M:=fun _=>False) (hs:=[]) Tryz.func110 rfl rfl rfl (Hp.refl _ _) ?_;refine i5 ?_;refine jH ?_;refine T.loop (ι:=Nat) (fun k=>[(1, .func (.func f) #[] caps),(7, .slice A xs.length cap),(8, .int .i64 (xs.length:Int)),(9, .int .i64 (k:Int))]) (fun k=>[]) (fun k=>k≤xs.length∧∀j,j<k→q (cQ xs j)=true) (fun k=>xs.length - k) 0 ?_ ?_ ?_ ?_
 ·exact q4h
 ·exact (by repeat (first|exact Sub.nil|refine Sub.cons rfl ?_))
 ·exact Sx
 ·intro k hphi;obtain ⟨hkl,hall⟩:=hphi;refine eR ?_;refine T.cond rfl (fun h1=>?_) (fun h1=>?_)
  ·have p1:=h1; (try simp only [c7] at p1);obtain ⟨g,off,rfl,hc⟩:=hsl a5;have hk:=hc k a5;simp only [Pr.cells] at hk;refine fH ?_;refine lG ?_; (refine cU (Wt.none) rfl rfl (Ew.alloc) ?_;rintro _ _ ⟨g6,rfl,rfl⟩); (refine dS (Wt.none) rfl (dF 0) ?_;rintro _ _ ⟨rfl,rfl⟩);refine l7 ?_;refine iu ?_; (refine cU (Wt.none) rfl rfl (kw rfl rfl rfl (fun w hw=>hC k a5 w hw.isBelow)) ?_;rintro _ _ ⟨rfl,rfl⟩);refine dL ?_;refine T.cond rfl (fun h2=>?_) (fun h2=>?_)
   ·have p2:=h2; (try simp only [c7] at p2);refine jv ?_;refine c8 rfl rfl (fun w' hw=>⟨?_,hw.isBelow⟩);exact q4i
   ·have p2:=h2; (try simp only [c7] at p2);refine gZ ?_;exact K.next (k+1) ⟨by omega,zem hall (by simpa using p2)⟩ a5 (by repeat (first|exact Sub.nil|refine Sub.cons rfl ?_)) Sx
  ·have p1:=h1; (try simp only [c7] at p1);refine q3R ?_;refine c8 rfl rfl (fun w' hw=>⟨?_,hw.isBelow⟩);exact q4j
theorem zis {c:Pr→Pr→Int}(xs:List Pr)(v:Value)(f:FuncId)(w:World)(h:SlOf w v Pr.cells 5 xs)[hE:Enters Tryz.prog f](hC:∀x y:Pr,∀w':World,Calls Tryz.prog f #[.agg (Pr.cells (x)).toArray, .agg (Pr.cells (y)).toArray] w' fun e w''=>e= .returned (.int .i64 (c x y))∧Below w'.heap.size w' w'')(hl:xs.length≤9223372036854775807):Calls Tryz.prog 132 #[v, .func (.func f) #[] #[]] w fun e w'=>e= .returned (.bool (f9 c xs))∧Below w.heap.size w w':=by
 obtain ⟨A,cap,rfl,hsl⟩:=h.op;refine dy (M:=fun _=>False) (hs:=[]) Tryz.func132 rfl rfl rfl (Hp.refl _ _) ?_;refine i5 ?_;refine TL.ns (T.block ?_);refine T.loop (ι:=Nat) (fun k=>[(0, .slice A xs.length cap),(1, .func (.func f) #[] #[]),(5, .int .i64 (k:Int))]) (fun k=>[]) (fun k=>1≤k∧∀j,j<k→j<xs.length→(decide (j=0)|| !decide (0≤c (cQ xs (j - 1)) (cQ xs j)))=true) (fun k=>xs.length - k) 1 ?_ ?_ ?_ ?_
 ·exact q4k
 ·exact (by repeat (first|exact Sub.nil|refine Sub.cons rfl ?_))
 ·exact Sx
 ·intro k hphi;obtain ⟨hk0,hall⟩:=hphi;refine jS ?_;refine l8 ?_;refine dL ?_;refine T.cond rfl (fun h1=>?_) (fun h1=>?_)
  ·have p1:=h1; (try simp only [c7] at p1);obtain ⟨g,off,rfl,hc⟩:=hsl a5;have hk:=hc k a5;have hk1:=hc (k - 1) a5;simp only [Pr.cells] at hk hk1;refine q0q ?_; (refine de rfl (Wt.none) rfl rfl (cS rfl rfl rfl (fun w hw=>hC (cQ xs (k - 1)) (cQ xs k) w)) ?_;rintro _ _ ⟨rfl,rfl⟩;refine ⟨Sx,?_⟩);refine kQ ?_;refine T.cond rfl (fun h2=>?_) (fun h2=>?_)
   ·have p2:=h2; (try simp only [c7] at p2);refine jv ?_;refine c8 rfl rfl (fun w' hw=>⟨?_,hw.isBelow⟩);exact q4l
   ·have p2:=h2; (try simp only [c7] at p2);refine li ?_;exact K.next (k+1) ⟨by omega,fun j hj hjl=>by rcases Nat.lt_or_ge j k with hh|hh;exact hall j hh hjl;rw [show j=k from by omega,decide_eq_false a5];simpa using p2⟩ a5 (by repeat (first|exact Sub.nil|refine Sub.cons rfl ?_)) Sx
  ·have p1:=h1; (try simp only [c7] at p1);refine q3R ?_;refine c8 rfl rfl (fun w' hw=>⟨?_,hw.isBelow⟩);exact q4m
theorem zli {q:Ld→Bool}(xs:List Ld)(v:Value)(f:FuncId)(caps:Array Value)(w:World)(h:SlOf w v Ld.cells 5 xs)[hE:Enters Tryz.prog f](hC:∀k,k<xs.length→∀w',Below w.heap.size w w'→Calls Tryz.prog f (.agg (Ld.cells (cQ xs k)).toArray :: caps.toList).toArray w' fun e w''=>e= .returned (.bool (q (cQ xs k)))∧Below w'.heap.size w' w'')(hl:xs.length≤9223372036854775807):Calls Tryz.prog 112 #[v, .func (.func f) #[] caps] w fun e w'=>e= .returned (.bool (fZ q xs))∧Below w.heap.size w w':=by
 obtain ⟨A,cap,rfl,hsl⟩:=h.op;refine dy (M:=fun _=>False) (hs:=[]) Tryz.func112 rfl rfl rfl (Hp.refl _ _) ?_;refine i5 ?_;refine jH ?_;refine T.loop (ι:=Nat) (fun k=>[(1, .func (.func f) #[] caps),(7, .slice A xs.length cap),(8, .int .i64 (xs.length:Int)),(9, .int .i64 (k:Int))]) (fun k=>[]) (fun k=>k≤xs.length∧∀j,j<k→q (cQ xs j)=true) (fun k=>xs.length - k) 0 ?_ ?_ ?_ ?_
 ·exact q4h
 ·exact (by repeat (first|exact Sub.nil|refine Sub.cons rfl ?_))
 ·exact Sx
 ·intro k hphi;obtain ⟨hkl,hall⟩:=hphi;refine eR ?_;refine T.cond rfl (fun h1=>?_) (fun h1=>?_)
  ·have p1:=h1; (try simp only [c7] at p1);obtain ⟨g,off,rfl,hc⟩:=hsl a5;have hk:=hc k a5;simp only [Ld.cells] at hk;refine fH ?_;refine lG ?_; (refine cU (Wt.none) rfl rfl (Ew.alloc) ?_;rintro _ _ ⟨g6,rfl,rfl⟩); (refine dS (Wt.none) rfl (dF 0) ?_;rintro _ _ ⟨rfl,rfl⟩);refine l7 ?_;refine iu ?_; (refine cU (Wt.none) rfl rfl (kw rfl rfl rfl (fun w hw=>hC k a5 w hw.isBelow)) ?_;rintro _ _ ⟨rfl,rfl⟩);refine dL ?_;refine T.cond rfl (fun h2=>?_) (fun h2=>?_)
   ·have p2:=h2; (try simp only [c7] at p2);refine jv ?_;refine c8 rfl rfl (fun w' hw=>⟨?_,hw.isBelow⟩);exact q4i
   ·have p2:=h2; (try simp only [c7] at p2);refine gZ ?_;exact K.next (k+1) ⟨by omega,zem hall (by simpa using p2)⟩ a5 (by repeat (first|exact Sub.nil|refine Sub.cons rfl ?_)) Sx
  ·have p1:=h1; (try simp only [c7] at p1);refine q3R ?_;refine c8 rfl rfl (fun w' hw=>⟨?_,hw.isBelow⟩);exact q4j
theorem zii {c:Ld→Ld→Int}(xs:List Ld)(v:Value)(f:FuncId)(w:World)(h:SlOf w v Ld.cells 5 xs)[hE:Enters Tryz.prog f](hC:∀x y:Ld,∀w':World,Calls Tryz.prog f #[.agg (Ld.cells (x)).toArray, .agg (Ld.cells (y)).toArray] w' fun e w''=>e= .returned (.int .i64 (c x y))∧Below w'.heap.size w' w'')(hl:xs.length≤9223372036854775807):Calls Tryz.prog 135 #[v, .func (.func f) #[] #[]] w fun e w'=>e= .returned (.bool (f9 c xs))∧Below w.heap.size w w':=by
 obtain ⟨A,cap,rfl,hsl⟩:=h.op;refine dy (M:=fun _=>False) (hs:=[]) Tryz.func135 rfl rfl rfl (Hp.refl _ _) ?_;refine i5 ?_;refine TL.ns (T.block ?_);refine T.loop (ι:=Nat) (fun k=>[(0, .slice A xs.length cap),(1, .func (.func f) #[] #[]),(5, .int .i64 (k:Int))]) (fun k=>[]) (fun k=>1≤k∧∀j,j<k→j<xs.length→(decide (j=0)|| !decide (0≤c (cQ xs (j - 1)) (cQ xs j)))=true) (fun k=>xs.length - k) 1 ?_ ?_ ?_ ?_
 ·exact q4k
 ·exact (by repeat (first|exact Sub.nil|refine Sub.cons rfl ?_))
 ·exact Sx
 ·intro k hphi;obtain ⟨hk0,hall⟩:=hphi;refine jS ?_;refine l8 ?_;refine dL ?_;refine T.cond rfl (fun h1=>?_) (fun h1=>?_)
  ·have p1:=h1; (try simp only [c7] at p1);obtain ⟨g,off,rfl,hc⟩:=hsl a5;have hk:=hc k a5;have hk1:=hc (k - 1) a5;simp only [Ld.cells] at hk hk1;refine q0q ?_; (refine de rfl (Wt.none) rfl rfl (cS rfl rfl rfl (fun w hw=>hC (cQ xs (k - 1)) (cQ xs k) w)) ?_;rintro _ _ ⟨rfl,rfl⟩;refine ⟨Sx,?_⟩);refine kQ ?_;refine T.cond rfl (fun h2=>?_) (fun h2=>?_)
   ·have p2:=h2; (try simp only [c7] at p2);refine jv ?_;refine c8 rfl rfl (fun w' hw=>⟨?_,hw.isBelow⟩);exact q4l
   ·have p2:=h2; (try simp only [c7] at p2);refine li ?_;exact K.next (k+1) ⟨by omega,fun j hj hjl=>by rcases Nat.lt_or_ge j k with hh|hh;exact hall j hh hjl;rw [show j=k from by omega,decide_eq_false a5];simpa using p2⟩ a5 (by repeat (first|exact Sub.nil|refine Sub.cons rfl ?_)) Sx
  ·have p1:=h1; (try simp only [c7] at p1);refine q3R ?_;refine c8 rfl rfl (fun w' hw=>⟨?_,hw.isBelow⟩);exact q4m
theorem zkQ {q:Cp→Bool}(xs:List Cp)(v:Value)(f:FuncId)(caps:Array Value)(w:World)(h:SlOf w v Cp.cells 4 xs)[hE:Enters Tryz.prog f](hC:∀k,k<xs.length→∀w',Below w.heap.size w w'→Calls Tryz.prog f (.agg (Cp.cells (cQ xs k)).toArray :: caps.toList).toArray w' fun e w''=>e= .returned (.bool (q (cQ xs k)))∧Below w'.heap.size w' w'')(hl:xs.length≤9223372036854775807):Calls Tryz.prog 114 #[v, .func (.func f) #[] caps] w fun e w'=>e= .returned (.bool (fZ q xs))∧Below w.heap.size w w':=by
 obtain ⟨A,cap,rfl,hsl⟩:=h.op;refine dy (M:=fun _=>False) (hs:=[]) Tryz.func114 rfl rfl rfl (Hp.refl _ _) ?_;refine i5 ?_;refine jH ?_;refine T.loop (ι:=Nat) (fun k=>[(1, .func (.func f) #[] caps),(7, .slice A xs.length cap),(8, .int .i64 (xs.length:Int)),(9, .int .i64 (k:Int))]) (fun k=>[]) (fun k=>k≤xs.length∧∀j,j<k→q (cQ xs j)=true) (fun k=>xs.length - k) 0 ?_ ?_ ?_ ?_
 ·exact q4h
 ·exact (by repeat (first|exact Sub.nil|refine Sub.cons rfl ?_))
 ·exact Sx
 ·intro k hphi;obtain ⟨hkl,hall⟩:=hphi;refine eR ?_;refine T.cond rfl (fun h1=>?_) (fun h1=>?_)
  ·have p1:=h1; (try simp only [c7] at p1);obtain ⟨g,off,rfl,hc⟩:=hsl a5;have hk:=hc k a5;simp only [Cp.cells] at hk;refine fH ?_;refine lG ?_; (refine cU (Wt.none) rfl rfl (Ew.alloc) ?_;rintro _ _ ⟨g6,rfl,rfl⟩); (refine dS (Wt.none) rfl (dF 0) ?_;rintro _ _ ⟨rfl,rfl⟩);refine l7 ?_;refine iu ?_; (refine cU (Wt.none) rfl rfl (kw rfl rfl rfl (fun w hw=>hC k a5 w hw.isBelow)) ?_;rintro _ _ ⟨rfl,rfl⟩);refine dL ?_;refine T.cond rfl (fun h2=>?_) (fun h2=>?_)
   ·have p2:=h2; (try simp only [c7] at p2);refine jv ?_;refine c8 rfl rfl (fun w' hw=>⟨?_,hw.isBelow⟩);exact q4i
   ·have p2:=h2; (try simp only [c7] at p2);refine gZ ?_;exact K.next (k+1) ⟨by omega,zem hall (by simpa using p2)⟩ a5 (by repeat (first|exact Sub.nil|refine Sub.cons rfl ?_)) Sx
  ·have p1:=h1; (try simp only [c7] at p1);refine q3R ?_;refine c8 rfl rfl (fun w' hw=>⟨?_,hw.isBelow⟩);exact q4j
theorem zin {c:Cp→Cp→Int}(xs:List Cp)(v:Value)(f:FuncId)(w:World)(h:SlOf w v Cp.cells 4 xs)[hE:Enters Tryz.prog f](hC:∀x y:Cp,∀w':World,Calls Tryz.prog f #[.agg (Cp.cells (x)).toArray, .agg (Cp.cells (y)).toArray] w' fun e w''=>e= .returned (.int .i64 (c x y))∧Below w'.heap.size w' w'')(hl:xs.length≤9223372036854775807):Calls Tryz.prog 138 #[v, .func (.func f) #[] #[]] w fun e w'=>e= .returned (.bool (f9 c xs))∧Below w.heap.size w w':=by
 obtain ⟨A,cap,rfl,hsl⟩:=h.op;refine dy (M:=fun _=>False) (hs:=[]) Tryz.func138 rfl rfl rfl (Hp.refl _ _) ?_;refine i5 ?_;refine TL.ns (T.block ?_);refine T.loop (ι:=Nat) (fun k=>[(0, .slice A xs.length cap),(1, .func (.func f) #[] #[]),(5, .int .i64 (k:Int))]) (fun k=>[]) (fun k=>1≤k∧∀j,j<k→j<xs.length→(decide (j=0)|| !decide (0≤c (cQ xs (j - 1)) (cQ xs j)))=true) (fun k=>xs.length - k) 1 ?_ ?_ ?_ ?_
 ·exact q4k
 ·exact (by repeat (first|exact Sub.nil|refine Sub.cons rfl ?_))
 ·exact Sx
 ·intro k hphi;obtain ⟨hk0,hall⟩:=hphi;refine jS ?_;refine l8 ?_;refine dL ?_;refine T.cond rfl (fun h1=>?_) (fun h1=>?_)
  ·have p1:=h1; (try simp only [c7] at p1);obtain ⟨g,off,rfl,hc⟩:=hsl a5;have hk:=hc k a5;have hk1:=hc (k - 1) a5;simp only [Cp.cells] at hk hk1;refine q0q ?_; (refine de rfl (Wt.none) rfl rfl (cS rfl rfl rfl (fun w hw=>hC (cQ xs (k - 1)) (cQ xs k) w)) ?_;rintro _ _ ⟨rfl,rfl⟩;refine ⟨Sx,?_⟩);refine kQ ?_;refine T.cond rfl (fun h2=>?_) (fun h2=>?_)
   ·have p2:=h2; (try simp only [c7] at p2);refine jv ?_;refine c8 rfl rfl (fun w' hw=>⟨?_,hw.isBelow⟩);exact q4l
   ·have p2:=h2; (try simp only [c7] at p2);refine li ?_;exact K.next (k+1) ⟨by omega,fun j hj hjl=>by rcases Nat.lt_or_ge j k with hh|hh;exact hall j hh hjl;rw [show j=k from by omega,decide_eq_false a5];simpa using p2⟩ a5 (by repeat (first|exact Sub.nil|refine Sub.cons rfl ?_)) Sx
  ·have p1:=h1; (try simp only [c7] at p1);refine q3R ?_;refine c8 rfl rfl (fun w' hw=>⟨?_,hw.isBelow⟩);exact q4m
theorem zmb {q:Int→Bool}(xs:List Int)(v:Value)(f:FuncId)(caps:Array Value)(w:World)(h:SlOf w v Ie 1 xs)[hE:Enters Tryz.prog f](hC:∀k,k<xs.length→∀w',Below w.heap.size w w'→Calls Tryz.prog f (.int .i64 (cQ xs k) :: caps.toList).toArray w' fun e w''=>e= .returned (.bool (q (cQ xs k)))∧Below w'.heap.size w' w'')(hl:xs.length≤9223372036854775807):Calls Tryz.prog 122 #[v, .func (.func f) #[] caps] w fun e w'=>e= .returned (.bool (fZ q xs))∧Below w.heap.size w w':=by
 obtain ⟨A,cap,rfl,hsl⟩:=h.op;refine dy (M:=fun _=>False) (hs:=[]) Tryz.func122 rfl rfl rfl (Hp.refl _ _) ?_;refine i5 ?_;refine jH ?_;refine T.loop (ι:=Nat) (fun k=>[(1, .func (.func f) #[] caps),(7, .slice A xs.length cap),(8, .int .i64 (xs.length:Int)),(9, .int .i64 (k:Int))]) (fun k=>[]) (fun k=>k≤xs.length∧∀j,j<k→q (cQ xs j)=true) (fun k=>xs.length - k) 0 ?_ ?_ ?_ ?_
 ·exact q4h
 ·exact (by repeat (first|exact Sub.nil|refine Sub.cons rfl ?_))
 ·exact Sx
 ·intro k hphi;obtain ⟨hkl,hall⟩:=hphi;refine eR ?_;refine T.cond rfl (fun h1=>?_) (fun h1=>?_)
  ·have p1:=h1; (try simp only [c7] at p1);obtain ⟨g,off,rfl,hc⟩:=hsl a5;have hk:=hc k a5;simp only [Ie] at hk;refine fH ?_;refine q1Z ?_;refine gz ?_;refine ez ?_; (refine cU (Wt.none) rfl rfl (kw rfl rfl rfl (fun w hw=>hC k a5 w hw.isBelow)) ?_;rintro _ _ ⟨rfl,rfl⟩);refine dL ?_;refine T.cond rfl (fun h2=>?_) (fun h2=>?_)
   ·have p2:=h2; (try simp only [c7] at p2);refine jv ?_;refine c8 rfl rfl (fun w' hw=>⟨?_,hw.isBelow⟩);exact q4i
   ·have p2:=h2; (try simp only [c7] at p2);refine gZ ?_;exact K.next (k+1) ⟨by omega,zem hall (by simpa using p2)⟩ a5 (by repeat (first|exact Sub.nil|refine Sub.cons rfl ?_)) Sx
  ·have p1:=h1; (try simp only [c7] at p1);refine q3R ?_;refine c8 rfl rfl (fun w' hw=>⟨?_,hw.isBelow⟩);exact q4j
theorem zhF {c:Int→Int→Int}(xs:List Int)(v:Value)(f:FuncId)(w:World)(h:SlOf w v Ie 1 xs)[hE:Enters Tryz.prog f](hC:∀x y:Int,∀w':World,Calls Tryz.prog f #[.int .i64 (x), .int .i64 (y)] w' fun e w''=>e= .returned (.int .i64 (c x y))∧Below w'.heap.size w' w'')(hl:xs.length≤9223372036854775807):Calls Tryz.prog 123 #[v, .func (.func f) #[] #[]] w fun e w'=>e= .returned (.bool (f9 c xs))∧Below w.heap.size w w':=by
 obtain ⟨A,cap,rfl,hsl⟩:=h.op;refine dy (M:=fun _=>False) (hs:=[]) Tryz.func123 rfl rfl rfl (Hp.refl _ _) ?_;refine i5 ?_;refine TL.ns (T.block ?_);refine T.loop (ι:=Nat) (fun k=>[(0, .slice A xs.length cap),(1, .func (.func f) #[] #[]),(5, .int .i64 (k:Int))]) (fun k=>[]) (fun k=>1≤k∧∀j,j<k→j<xs.length→(decide (j=0)|| !decide (0≤c (cQ xs (j - 1)) (cQ xs j)))=true) (fun k=>xs.length - k) 1 ?_ ?_ ?_ ?_
 ·exact q4k
 ·exact (by repeat (first|exact Sub.nil|refine Sub.cons rfl ?_))
 ·exact Sx
 ·intro k hphi;obtain ⟨hk0,hall⟩:=hphi;refine jS ?_;refine l8 ?_;refine dL ?_;refine T.cond rfl (fun h1=>?_) (fun h1=>?_)
  ·have p1:=h1; (try simp only [c7] at p1);obtain ⟨g,off,rfl,hc⟩:=hsl a5;have hk:=hc k a5;have hk1:=hc (k - 1) a5;simp only [Ie] at hk hk1;refine kq ?_;refine q2I ?_;refine q1s ?_;refine cZ rfl (gE rfl rfl rfl (show (k:Int) - 1=((k - 1:Nat):Int) from by omega) a5) ?_;refine cZ rfl (ek (j:=0) rfl rfl hk1 rfl rfl (fun h=>h)) ?_;refine gJ ?_;refine q2K ?_;refine cZ rfl (ek (j:=0) rfl rfl hk rfl rfl (fun h=>h)) ?_;refine dQ ?_; (refine de rfl (Wt.none) rfl rfl (cS rfl rfl rfl (fun w hw=>hC (cQ xs (k - 1)) (cQ xs k) w)) ?_;rintro _ _ ⟨rfl,rfl⟩;refine ⟨Sx,?_⟩);refine kQ ?_;refine T.cond rfl (fun h2=>?_) (fun h2=>?_)
   ·have p2:=h2; (try simp only [c7] at p2);refine jv ?_;refine c8 rfl rfl (fun w' hw=>⟨?_,hw.isBelow⟩);exact q4l
   ·have p2:=h2; (try simp only [c7] at p2);refine li ?_;exact K.next (k+1) ⟨by omega,fun j hj hjl=>by rcases Nat.lt_or_ge j k with hh|hh;exact hall j hh hjl;rw [show j=k from by omega,decide_eq_false a5];simpa using p2⟩ a5 (by repeat (first|exact Sub.nil|refine Sub.cons rfl ?_)) Sx
  ·have p1:=h1; (try simp only [c7] at p1);refine q3R ?_;refine c8 rfl rfl (fun w' hw=>⟨?_,hw.isBelow⟩);exact q4m
def Pr.ok (x:Pr):Bool:=inB x.a 0 511&&(inB x.b 0 511&&(decide (x.a<x.b)&&(inB x.off (-1) 1&&iG x.lo x.hi)))
def Ld.ok (x:Ld):Bool:=inB x.to 0 511&&(inB x.fr 0 511&&(decide (¬x.to=x.fr)&&(inB x.wt 1 1073741824&&iG x.lo x.hi)))
def Cp.ok (x:Cp):Bool:=inB x.st 0 511&&(inB x.mx 0 1099511627776&&iG x.lo x.hi)
def Pr.cmp (x y:Pr):Int:=orL [ej x.a y.a,ej x.b y.b,ej x.off y.off,ej x.lo y.lo,ej x.hi y.hi]
def Ld.cmp (x y:Ld):Int:=orL [ej x.to y.to,ej x.fr y.fr,ej x.wt y.wt,ej x.lo y.lo,ej x.hi y.hi]
def Cp.cmp (x y:Cp):Int:=orL [ej x.st y.st,ej x.mx y.mx,ej x.lo y.lo,ej x.hi y.hi]
theorem zhZ (x:Pr)(w:World):Calls Tryz.prog 131 #[.agg (Pr.cells x).toArray] w fun e w'=>e= .returned (.bool x.ok)∧Below w.heap.size w w':=by
 refine dy (M:=fun _=>False) (hs:=[]) Tryz.func131 rfl rfl rfl (Hp.refl _ _) ?_;simp only [Pr.cells];refine dm ?_; (refine cU (Wt.none) rfl rfl (dM) ?_;rintro _ _ ⟨g1,rfl,rfl⟩);refine gz ?_;refine eX ?_; (refine cU (Wt.none) rfl rfl (cS rfl rfl rfl (fun w hw=>zcc _ _)) ?_;rintro _ _ ⟨rfl,rfl⟩);refine dp ?_;refine dw rfl rfl rfl (fun h1=>?_) (fun h1=>?_)
 ·have p1:=h1; (try simp only [c7] at p1);refine q0H ?_; (refine cU (Wt.some rfl rfl rfl h1) rfl rfl (cS rfl rfl rfl (fun w hw=>zcc _ _)) ?_;rintro _ _ ⟨rfl,rfl⟩);refine kF ?_;refine dp ?_;refine dw rfl rfl rfl (fun h2=>?_) (fun h2=>?_)
  ·have p2:=h2; (try simp only [c7] at p2);refine mw ?_;refine mw ?_;refine mj ?_;refine q2w ?_;refine dp ?_;refine dw rfl rfl rfl (fun h3=>?_) (fun h3=>?_)
   ·have p3:=h3; (try simp only [c7] at p3);refine q0S ?_; (refine cU (Wt.some rfl rfl rfl h3) rfl rfl (cS rfl rfl rfl (fun w hw=>zde _ _ _ _)) ?_;rintro _ _ ⟨rfl,rfl⟩);refine q3x ?_;refine dp ?_;refine dw rfl rfl rfl (fun h4=>?_) (fun h4=>?_)
    ·have p4:=h4; (try simp only [c7] at p4);refine q0T ?_;refine q0T ?_; (refine cU (Wt.some rfl rfl rfl h4) rfl rfl (cS rfl rfl rfl (fun w hw=>ze2 _ _ _)) ?_;rintro _ _ ⟨rfl,rfl⟩);refine cR (eT rfl rfl h4) ?_;refine fm ?_;refine c8 rfl rfl (fun w' hw=>⟨?_,hw.isBelow⟩);exact q4n
    ·have p4:=h4; (try simp only [c7] at p4);refine q2e ?_;refine fm ?_;refine c8 rfl rfl (fun w' hw=>⟨?_,hw.isBelow⟩);exact q4n
   ·have p3:=h3; (try simp only [c7] at p3);refine q0p ?_;refine cR (eB rfl rfl h3) ?_;refine TL.run 8 rfl ?_;refine fN ?_;refine c8 rfl rfl (fun w' hw=>⟨?_,hw.isBelow⟩);exact q4n
  ·have p2:=h2; (try simp only [c7] at p2);refine q0i ?_;refine q1P ?_;refine TL.run 13 rfl ?_;refine fN ?_;refine c8 rfl rfl (fun w' hw=>⟨?_,hw.isBelow⟩);exact q4n
 ·have p1:=h1; (try simp only [c7] at p1);refine q1m ?_;refine TL.run 20 rfl ?_;refine fN ?_;refine c8 rfl rfl (fun w' hw=>⟨?_,hw.isBelow⟩);exact q4n
theorem zfX (x y:Pr)(w:World):Calls Tryz.prog 133 #[.agg (Pr.cells x).toArray, .agg (Pr.cells y).toArray] w fun e w'=>e= .returned (.int .i64 (x.cmp y))∧Below w.heap.size w w':=by
 refine dy (M:=fun _=>False) (hs:=[]) Tryz.func133 rfl rfl rfl (Hp.refl _ _) ?_;simp only [Pr.cells];refine dm ?_; (refine cU (Wt.none) rfl rfl (dM) ?_;rintro _ _ ⟨g2,rfl,rfl⟩); (refine cU (Wt.none) rfl rfl (dM) ?_;rintro _ _ ⟨g3,rfl,rfl⟩);refine dp ?_;refine q1k ?_; (refine de rfl (Wt.none) rfl rfl (cS rfl rfl rfl (fun w hw=>kN _ _ _)) ?_;rintro _ _ ⟨rfl,rfl⟩;refine ⟨Sx,?_⟩);refine dQ ?_; (refine de rfl (Wt.none) rfl rfl (cS rfl rfl rfl (fun w hw=>kN _ _ _)) ?_;rintro _ _ ⟨rfl,rfl⟩;refine ⟨Sx,?_⟩);refine dQ ?_; (refine de rfl (Wt.none) rfl rfl (cS rfl rfl rfl (fun w hw=>kN _ _ _)) ?_;rintro _ _ ⟨rfl,rfl⟩;refine ⟨Sx,?_⟩);refine dQ ?_; (refine de rfl (Wt.none) rfl rfl (cS rfl rfl rfl (fun w hw=>kN _ _ _)) ?_;rintro _ _ ⟨rfl,rfl⟩;refine ⟨Sx,?_⟩);refine dQ ?_; (refine de rfl (Wt.none) rfl rfl (cS rfl rfl rfl (fun w hw=>kN _ _ _)) ?_;rintro _ _ ⟨rfl,rfl⟩;refine ⟨Sx,?_⟩);refine dQ ?_; (refine de rfl (Wt.none) rfl rfl (Ew.buildSlice rfl rfl rfl a6) ?_;rintro _ _ ⟨g30,rfl,rfl⟩;refine ⟨Sx,?_⟩);refine dQ ?_; (refine de rfl (Wt.none) rfl rfl (cS rfl rfl rfl (fun w hw=>zkB [ej x.a y.a,ej x.b y.b,ej x.off y.off,ej x.lo y.lo,ej x.hi y.hi] _ w (SlOf.lit (enc:=Ie) (size:=1) (fun _=>rfl) _ (c9.1 (hw.get (i:=0) rfl)) rfl rfl) a8)) ?_;rintro _ _ ⟨rfl,rfl⟩;refine ⟨Sx,?_⟩);refine q3Z ?_;refine c8 rfl rfl (fun w' hw=>⟨?_,hw.isBelow⟩)
 rfl
theorem ziq (x:Ld)(w:World):Calls Tryz.prog 134 #[.agg (Ld.cells x).toArray] w fun e w'=>e= .returned (.bool x.ok)∧Below w.heap.size w w':=by
 refine dy (M:=fun _=>False) (hs:=[]) Tryz.func134 rfl rfl rfl (Hp.refl _ _) ?_;simp only [Ld.cells];refine dm ?_; (refine cU (Wt.none) rfl rfl (dM) ?_;rintro _ _ ⟨g1,rfl,rfl⟩);refine gz ?_;refine eX ?_; (refine cU (Wt.none) rfl rfl (cS rfl rfl rfl (fun w hw=>zcc _ _)) ?_;rintro _ _ ⟨rfl,rfl⟩);refine dp ?_;refine dw rfl rfl rfl (fun h1=>?_) (fun h1=>?_)
 ·have p1:=h1; (try simp only [c7] at p1);refine q0H ?_; (refine cU (Wt.some rfl rfl rfl h1) rfl rfl (cS rfl rfl rfl (fun w hw=>zcc _ _)) ?_;rintro _ _ ⟨rfl,rfl⟩);refine kF ?_;refine dp ?_;refine dw rfl rfl rfl (fun h2=>?_) (fun h2=>?_)
  ·have p2:=h2; (try simp only [c7] at p2);refine mw ?_;refine mw ?_;refine mj ?_;refine q2w ?_;refine dp ?_;refine dw rfl rfl rfl (fun h3=>?_) (fun h3=>?_)
   ·have p3:=h3; (try simp only [c7] at p3);refine q0S ?_; (refine cU (Wt.some rfl rfl rfl h3) rfl rfl (cS rfl rfl rfl (fun w hw=>zde _ _ _ _)) ?_;rintro _ _ ⟨rfl,rfl⟩);refine q3x ?_;refine dp ?_;refine dw rfl rfl rfl (fun h4=>?_) (fun h4=>?_)
    ·have p4:=h4; (try simp only [c7] at p4);refine q0T ?_;refine q0T ?_; (refine cU (Wt.some rfl rfl rfl h4) rfl rfl (cS rfl rfl rfl (fun w hw=>ze2 _ _ _)) ?_;rintro _ _ ⟨rfl,rfl⟩);refine cR (eT rfl rfl h4) ?_;refine fm ?_;refine c8 rfl rfl (fun w' hw=>⟨?_,hw.isBelow⟩);exact q4o
    ·have p4:=h4; (try simp only [c7] at p4);refine q2e ?_;refine fm ?_;refine c8 rfl rfl (fun w' hw=>⟨?_,hw.isBelow⟩);exact q4o
   ·have p3:=h3; (try simp only [c7] at p3);refine q0p ?_;refine cR (eB rfl rfl h3) ?_;refine TL.run 8 rfl ?_;refine fN ?_;refine c8 rfl rfl (fun w' hw=>⟨?_,hw.isBelow⟩);exact q4o
  ·have p2:=h2; (try simp only [c7] at p2);refine q0i ?_;refine q1P ?_;refine TL.run 13 rfl ?_;refine fN ?_;refine c8 rfl rfl (fun w' hw=>⟨?_,hw.isBelow⟩);exact q4o
 ·have p1:=h1; (try simp only [c7] at p1);refine q1m ?_;refine TL.run 20 rfl ?_;refine fN ?_;refine c8 rfl rfl (fun w' hw=>⟨?_,hw.isBelow⟩);exact q4o
theorem zf0 (x y:Ld)(w:World):Calls Tryz.prog 136 #[.agg (Ld.cells x).toArray, .agg (Ld.cells y).toArray] w fun e w'=>e= .returned (.int .i64 (x.cmp y))∧Below w.heap.size w w':=by
 refine dy (M:=fun _=>False) (hs:=[]) Tryz.func136 rfl rfl rfl (Hp.refl _ _) ?_;simp only [Ld.cells];refine dm ?_; (refine cU (Wt.none) rfl rfl (dM) ?_;rintro _ _ ⟨g2,rfl,rfl⟩); (refine cU (Wt.none) rfl rfl (dM) ?_;rintro _ _ ⟨g3,rfl,rfl⟩);refine dp ?_;refine q1k ?_; (refine de rfl (Wt.none) rfl rfl (cS rfl rfl rfl (fun w hw=>kN _ _ _)) ?_;rintro _ _ ⟨rfl,rfl⟩;refine ⟨Sx,?_⟩);refine dQ ?_; (refine de rfl (Wt.none) rfl rfl (cS rfl rfl rfl (fun w hw=>kN _ _ _)) ?_;rintro _ _ ⟨rfl,rfl⟩;refine ⟨Sx,?_⟩);refine dQ ?_; (refine de rfl (Wt.none) rfl rfl (cS rfl rfl rfl (fun w hw=>kN _ _ _)) ?_;rintro _ _ ⟨rfl,rfl⟩;refine ⟨Sx,?_⟩);refine dQ ?_; (refine de rfl (Wt.none) rfl rfl (cS rfl rfl rfl (fun w hw=>kN _ _ _)) ?_;rintro _ _ ⟨rfl,rfl⟩;refine ⟨Sx,?_⟩);refine dQ ?_; (refine de rfl (Wt.none) rfl rfl (cS rfl rfl rfl (fun w hw=>kN _ _ _)) ?_;rintro _ _ ⟨rfl,rfl⟩;refine ⟨Sx,?_⟩);refine dQ ?_; (refine de rfl (Wt.none) rfl rfl (Ew.buildSlice rfl rfl rfl a6) ?_;rintro _ _ ⟨g30,rfl,rfl⟩;refine ⟨Sx,?_⟩);refine dQ ?_; (refine de rfl (Wt.none) rfl rfl (cS rfl rfl rfl (fun w hw=>zkB [ej x.to y.to,ej x.fr y.fr,ej x.wt y.wt,ej x.lo y.lo,ej x.hi y.hi] _ w (SlOf.lit (enc:=Ie) (size:=1) (fun _=>rfl) _ (c9.1 (hw.get (i:=0) rfl)) rfl rfl) a8)) ?_;rintro _ _ ⟨rfl,rfl⟩;refine ⟨Sx,?_⟩);refine q3Z ?_;refine c8 rfl rfl (fun w' hw=>⟨?_,hw.isBelow⟩)
 rfl
theorem ziX (x:Cp)(w:World):Calls Tryz.prog 137 #[.agg (Cp.cells x).toArray] w fun e w'=>e= .returned (.bool x.ok)∧Below w.heap.size w w':=by
 refine dy (M:=fun _=>False) (hs:=[]) Tryz.func137 rfl rfl rfl (Hp.refl _ _) ?_;simp only [Cp.cells];refine dm ?_; (refine cU (Wt.none) rfl rfl (dM) ?_;rintro _ _ ⟨g1,rfl,rfl⟩);refine gz ?_;refine eX ?_; (refine cU (Wt.none) rfl rfl (cS rfl rfl rfl (fun w hw=>zcc _ _)) ?_;rintro _ _ ⟨rfl,rfl⟩);refine dp ?_;refine dw rfl rfl rfl (fun h1=>?_) (fun h1=>?_)
 ·have p1:=h1; (try simp only [c7] at p1);refine q0H ?_; (refine cU (Wt.some rfl rfl rfl h1) rfl rfl (cS rfl rfl rfl (fun w hw=>zde _ _ _ _)) ?_;rintro _ _ ⟨rfl,rfl⟩);refine kF ?_;refine dp ?_;refine dw rfl rfl rfl (fun h2=>?_) (fun h2=>?_)
  ·have p2:=h2; (try simp only [c7] at p2);refine mw ?_;refine mw ?_; (refine cU (Wt.some rfl rfl rfl h2) rfl rfl (cS rfl rfl rfl (fun w hw=>ze2 _ _ _)) ?_;rintro _ _ ⟨rfl,rfl⟩);refine q2w ?_;refine fm ?_;refine c8 rfl rfl (fun w' hw=>⟨?_,hw.isBelow⟩);exact q4y
  ·have p2:=h2; (try simp only [c7] at p2);refine q0i ?_;refine q1P ?_;refine fm ?_;refine c8 rfl rfl (fun w' hw=>⟨?_,hw.isBelow⟩);exact q4y
 ·have p1:=h1; (try simp only [c7] at p1);refine q1m ?_;refine TL.run 8 rfl ?_;refine fN ?_;refine c8 rfl rfl (fun w' hw=>⟨?_,hw.isBelow⟩);exact q4y
theorem zgB (x y:Cp)(w:World):Calls Tryz.prog 139 #[.agg (Cp.cells x).toArray, .agg (Cp.cells y).toArray] w fun e w'=>e= .returned (.int .i64 (x.cmp y))∧Below w.heap.size w w':=by
 refine dy (M:=fun _=>False) (hs:=[]) Tryz.func139 rfl rfl rfl (Hp.refl _ _) ?_;simp only [Cp.cells];refine dm ?_; (refine cU (Wt.none) rfl rfl (dM) ?_;rintro _ _ ⟨g2,rfl,rfl⟩); (refine cU (Wt.none) rfl rfl (dM) ?_;rintro _ _ ⟨g3,rfl,rfl⟩);refine ki ?_;refine d8 (sN 0 4 (sN 5 4 (sN 10 4 (sN 15 4 (.eff 4 (.eff 9 (.eff 14 (.eff 19 (.eff 20 (.eff 21 (.still 22 .done))))))))))) _ a7 (List.Sublist.refl _) ?_;refine q0z ?_;refine iN ?_;refine cZ rfl (da 1) ?_;refine gD ?_;refine dQ ?_; (refine de rfl (Wt.none) rfl rfl (cS rfl rfl rfl (fun w hw=>kN _ _ _)) ?_;rintro _ _ ⟨rfl,rfl⟩;refine ⟨Sx,?_⟩);refine dQ ?_; (refine de rfl (Wt.none) rfl rfl (cS rfl rfl rfl (fun w hw=>kN _ _ _)) ?_;rintro _ _ ⟨rfl,rfl⟩;refine ⟨Sx,?_⟩);refine dQ ?_; (refine de rfl (Wt.none) rfl rfl (cS rfl rfl rfl (fun w hw=>kN _ _ _)) ?_;rintro _ _ ⟨rfl,rfl⟩;refine ⟨Sx,?_⟩);refine dQ ?_; (refine de rfl (Wt.none) rfl rfl (cS rfl rfl rfl (fun w hw=>kN _ _ _)) ?_;rintro _ _ ⟨rfl,rfl⟩;refine ⟨Sx,?_⟩);refine dQ ?_; (refine de rfl (Wt.none) rfl rfl (Ew.buildSlice rfl rfl rfl a6) ?_;rintro _ _ ⟨g25,rfl,rfl⟩;refine ⟨Sx,?_⟩);refine dQ ?_; (refine de rfl (Wt.none) rfl rfl (cS rfl rfl rfl (fun w hw=>zkB [ej x.st y.st,ej x.mx y.mx,ej x.lo y.lo,ej x.hi y.hi] _ w (SlOf.lit (enc:=Ie) (size:=1) (fun _=>rfl) _ (c9.1 (hw.get (i:=0) rfl)) rfl rfl) a8)) ?_;rintro _ _ ⟨rfl,rfl⟩;refine ⟨Sx,?_⟩);refine q3Z ?_;refine c8 rfl rfl (fun w' hw=>⟨?_,hw.isBelow⟩)
 rfl
end Go.Proofs.YtogbggmckmnlfaaGreatDoor
