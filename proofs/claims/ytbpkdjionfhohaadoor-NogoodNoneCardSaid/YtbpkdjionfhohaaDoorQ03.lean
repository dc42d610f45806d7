/- Ya Yb Yc Yd Cb Cc A: shortened and put together by squeeze.py. -/
import Derived.Test.YtbpkdjionfhohaaDoorQ02
set_option maxRecDepth 100000
set_option maxHeartbeats 4000000
set_option linter.unusedVariables false
set_option linter.unusedSectionVars false
set_option linter.unusedSimpArgs false
namespace Go.Proofs.YtbpkdjionfhohaaDoor
open Go.RowKit
structure GChoice where
 Station:Int
 Channel:Int
deriving DecidableEq,Inhabited
abbrev GChoice.enc (x:GChoice):List Value:=[.int .i64 x.Station, .int .i64 x.Channel]
theorem GChoice.len (x:GChoice):(GChoice.enc x).length=2:=rfl
structure GDomain where
 Station:Int
 Channels:List Int
deriving DecidableEq,Inhabited
def GDomain.rep (F:Frz)(c:List Value)(x:GDomain):Prop:=∃(v1:Value),c=[.int .i64 x.Station,v1]∧SlC F v1 1 (x.Channels.map eI)
theorem GDomain.mono {F G:Frz}{c:List Value}{x:GDomain}(hle:F.Le G)(h:GDomain.rep F c x):GDomain.rep G c x:=by
 obtain ⟨v1,h0,h2⟩:=h;exact ⟨v1,h0,h2.mono hle⟩
theorem GDomain.len {F:Frz}{c:List Value}{x:GDomain}(h:GDomain.rep F c x):c.length=2:=by
 obtain ⟨v1,h0,h2⟩:=h;subst h0;rfl
theorem GDomain.one {F:Frz}{c:List Value}{x:GDomain}(h:GDomain.rep F c x):OneCs c:=by
 obtain ⟨v1,h0,h2⟩:=h;subst h0;haveI:=h2.oneC
 infer_instance
theorem GDomain.c0 {F:Frz}{c:List Value}{x:GDomain}(h:GDomain.rep F c x):c[0]?=some (.int .i64 x.Station):=by
 obtain ⟨v1,h0,h2⟩:=h;subst h0;rfl
theorem GDomain.c1 {F:Frz}{c:List Value}{x:GDomain}(h:GDomain.rep F c x):c[1]?=some (nth c 1)∧SlC F (nth c 1) 1 (x.Channels.map eI):=by
 obtain ⟨v1,h0,h2⟩:=h;subst h0;exact ⟨rfl,h2⟩
theorem GDomain.form {F:Frz}{c:List Value}{x:GDomain}(h:GDomain.rep F c x):(c.drop 0).take 2=[.int .i64 x.Station,nth c 1]:=by
 obtain ⟨v1,h0,h2⟩:=h;subst h0;rfl
structure GPair where
 A:Int
 B:Int
 Offset:Int
 Low:Int
 High:Int
deriving DecidableEq,Inhabited
abbrev GPair.enc (x:GPair):List Value:=[.int .i64 x.A, .int .i64 x.B, .int .i64 x.Offset, .int .i64 x.Low, .int .i64 x.High]
theorem GPair.len (x:GPair):(GPair.enc x).length=5:=rfl
structure GLoad where
 To:Int
 From:Int
 Weight:Int
 Low:Int
 High:Int
deriving DecidableEq,Inhabited
abbrev GLoad.enc (x:GLoad):List Value:=[.int .i64 x.To, .int .i64 x.From, .int .i64 x.Weight, .int .i64 x.Low, .int .i64 x.High]
theorem GLoad.len (x:GLoad):(GLoad.enc x).length=5:=rfl
structure GCap where
 Station:Int
 Max:Int
 Low:Int
 High:Int
deriving DecidableEq,Inhabited
abbrev GCap.enc (x:GCap):List Value:=[.int .i64 x.Station, .int .i64 x.Max, .int .i64 x.Low, .int .i64 x.High]
theorem GCap.len (x:GCap):(GCap.enc x).length=4:=rfl
structure GRules where
 Pairs:List GPair
 Loads:List GLoad
 Caps:List GCap
deriving DecidableEq,Inhabited
def GRules.rep (F:Frz)(c:List Value)(x:GRules):Prop:=∃(v0:Value) (v1:Value) (v2:Value),c=[v0,v1,v2]∧SlC F v0 5 (x.Pairs.map GPair.enc)∧SlC F v1 5 (x.Loads.map GLoad.enc)∧SlC F v2 4 (x.Caps.map GCap.enc)
theorem GRules.mono {F G:Frz}{c:List Value}{x:GRules}(hle:F.Le G)(h:GRules.rep F c x):GRules.rep G c x:=by
 obtain ⟨v0,v1,v2,h0,h1,h2,h3⟩:=h;exact ⟨v0,v1,v2,h0,h1.mono hle,h2.mono hle,h3.mono hle⟩
theorem GRules.len {F:Frz}{c:List Value}{x:GRules}(h:GRules.rep F c x):c.length=3:=by
 obtain ⟨v0,v1,v2,h0,h1,h2,h3⟩:=h;subst h0;rfl
theorem GRules.one {F:Frz}{c:List Value}{x:GRules}(h:GRules.rep F c x):OneCs c:=by
 obtain ⟨v0,v1,v2,h0,h1,h2,h3⟩:=h;subst h0;haveI:=h1.oneC;haveI:=h2.oneC;haveI:=h3.oneC
 infer_instance
theorem GRules.c0 {F:Frz}{c:List Value}{x:GRules}(h:GRules.rep F c x):c[0]?=some (nth c 0)∧SlC F (nth c 0) 5 (x.Pairs.map GPair.enc):=by
 obtain ⟨v0,v1,v2,h0,h1,h2,h3⟩:=h;subst h0;exact ⟨rfl,h1⟩
theorem GRules.c1 {F:Frz}{c:List Value}{x:GRules}(h:GRules.rep F c x):c[1]?=some (nth c 1)∧SlC F (nth c 1) 5 (x.Loads.map GLoad.enc):=by
 obtain ⟨v0,v1,v2,h0,h1,h2,h3⟩:=h;subst h0;exact ⟨rfl,h2⟩
theorem GRules.c2 {F:Frz}{c:List Value}{x:GRules}(h:GRules.rep F c x):c[2]?=some (nth c 2)∧SlC F (nth c 2) 4 (x.Caps.map GCap.enc):=by
 obtain ⟨v0,v1,v2,h0,h1,h2,h3⟩:=h;subst h0;exact ⟨rfl,h3⟩
theorem GRules.form {F:Frz}{c:List Value}{x:GRules}(h:GRules.rep F c x):(c.drop 0).take 3=[nth c 0,nth c 1,nth c 2]:=by
 obtain ⟨v0,v1,v2,h0,h1,h2,h3⟩:=h;subst h0;rfl
structure GProblem where
 Domains:List GDomain
 Rules:GRules
deriving DecidableEq,Inhabited
def GProblem.rep (F:Frz)(c:List Value)(x:GProblem):Prop:=∃(v0:Value) (cs0:List (List Value)) (v1:Value) (v2:Value) (v3:Value),c=[v0,v1,v2,v3]∧SlD GDomain.rep F v0 2 cs0 x.Domains∧SlC F v1 5 (x.Rules.Pairs.map GPair.enc)∧SlC F v2 5 (x.Rules.Loads.map GLoad.enc)∧SlC F v3 4 (x.Rules.Caps.map GCap.enc)
theorem GProblem.mono {F G:Frz}{c:List Value}{x:GProblem}(hle:F.Le G)(h:GProblem.rep F c x):GProblem.rep G c x:=by
 obtain ⟨v0,cs0,v1,v2,v3,h0,h1,h2,h3,h4⟩:=h;exact ⟨v0,cs0,v1,v2,v3,h0,SlD.mono (rep:=GDomain.rep) (fun _ _ _ _=>GDomain.mono) h1 hle,h2.mono hle,h3.mono hle,h4.mono hle⟩
theorem GProblem.len {F:Frz}{c:List Value}{x:GProblem}(h:GProblem.rep F c x):c.length=4:=by
 obtain ⟨v0,cs0,v1,v2,v3,h0,h1,h2,h3,h4⟩:=h;subst h0;rfl
theorem GProblem.one {F:Frz}{c:List Value}{x:GProblem}(h:GProblem.rep F c x):OneCs c:=by
 obtain ⟨v0,cs0,v1,v2,v3,h0,h1,h2,h3,h4⟩:=h;subst h0;haveI:=h1.1.oneC;haveI:=h2.oneC;haveI:=h3.oneC;haveI:=h4.oneC
 infer_instance
theorem GProblem.c0 {F:Frz}{c:List Value}{x:GProblem}(h:GProblem.rep F c x):c[0]?=some (nth c 0)∧∃cs,SlD GDomain.rep F (nth c 0) 2 cs x.Domains:=by
 obtain ⟨v0,cs0,v1,v2,v3,h0,h1,h2,h3,h4⟩:=h;subst h0;exact ⟨rfl,cs0,h1⟩
theorem GProblem.c1 {F:Frz}{c:List Value}{x:GProblem}(h:GProblem.rep F c x):c[1]?=some (nth c 1)∧SlC F (nth c 1) 5 (x.Rules.Pairs.map GPair.enc):=by
 obtain ⟨v0,cs0,v1,v2,v3,h0,h1,h2,h3,h4⟩:=h;subst h0;exact ⟨rfl,h2⟩
theorem GProblem.c2 {F:Frz}{c:List Value}{x:GProblem}(h:GProblem.rep F c x):c[2]?=some (nth c 2)∧SlC F (nth c 2) 5 (x.Rules.Loads.map GLoad.enc):=by
 obtain ⟨v0,cs0,v1,v2,v3,h0,h1,h2,h3,h4⟩:=h;subst h0;exact ⟨rfl,h3⟩
theorem GProblem.c3 {F:Frz}{c:List Value}{x:GProblem}(h:GProblem.rep F c x):c[3]?=some (nth c 3)∧SlC F (nth c 3) 4 (x.Rules.Caps.map GCap.enc):=by
 obtain ⟨v0,cs0,v1,v2,v3,h0,h1,h2,h3,h4⟩:=h;subst h0;exact ⟨rfl,h4⟩
theorem GProblem.form {F:Frz}{c:List Value}{x:GProblem}(h:GProblem.rep F c x):(c.drop 0).take 4=[nth c 0,nth c 1,nth c 2,nth c 3]:=by
 obtain ⟨v0,cs0,v1,v2,v3,h0,h1,h2,h3,h4⟩:=h;subst h0;rfl
def R_List_GChoice.rep (F:Frz)(c:List Value)(x:List GChoice):Prop:=∃(v0:Value),c=[v0]∧SlC F v0 2 (x.map GChoice.enc)
theorem R_List_GChoice.mono {F G:Frz}{c:List Value}{x:List GChoice}(hle:F.Le G)(h:R_List_GChoice.rep F c x):R_List_GChoice.rep G c x:=by
 obtain ⟨v0,h0,h1⟩:=h;exact ⟨v0,h0,h1.mono hle⟩
theorem R_List_GChoice.len {F:Frz}{c:List Value}{x:List GChoice}(h:R_List_GChoice.rep F c x):c.length=1:=by
 obtain ⟨v0,h0,h1⟩:=h;subst h0;rfl
theorem R_List_GChoice.one {F:Frz}{c:List Value}{x:List GChoice}(h:R_List_GChoice.rep F c x):OneCs c:=by
 obtain ⟨v0,h0,h1⟩:=h;subst h0;haveI:=h1.oneC
 infer_instance
theorem R_List_GChoice.c0 {F:Frz}{c:List Value}{x:List GChoice}(h:R_List_GChoice.rep F c x):c[0]?=some (nth c 0)∧SlC F (nth c 0) 2 (x.map GChoice.enc):=by
 obtain ⟨v0,h0,h1⟩:=h;subst h0;exact ⟨rfl,h1⟩
theorem R_List_GChoice.form {F:Frz}{c:List Value}{x:List GChoice}(h:R_List_GChoice.rep F c x):(c.drop 0).take 1=[nth c 0]:=by
 obtain ⟨v0,h0,h1⟩:=h;subst h0;rfl
def zay (a:List Int)(b:List Int):Bool:=
 (bif decide (¬(a.length:Int)=(b.length:Int)) then
  false
  else
  za0 (fun (_:Unit)=>
   true)
  (fun k2=>
   zav (fun (i_4:Nat) (next3:Unit→Bool) (_:Unit)=>
    (bif decide (¬(nth a i_4)=(nth b i_4)) then
     false
     else
     next3 ()))
   (fun (_:Unit)=>
    k2 ()) (a.length - 0) 0 ()))
theorem zbz (F0:Frz)(w:World)(hF0:F0.At w)(a:List Int)(va:Value)(ha:SlC F0 va 1 (a.map eI))(b:List Int)(vb:Value)(hb:SlC F0 vb 1 (b.map eI)):Calls Tryd.prog 15 #[va,vb] w fun e w'=>e= .returned (.bool (zay a b))∧Below w.heap.size w w':=by
 obtain ⟨r,hk⟩:∃r,zay a b=r:=⟨_,rfl⟩;rw [hk];unfold zay at hk;haveI:=ha.oneC;haveI:=hb.oneC;obtain ⟨S0,F1,rfl,hS0,hp0⟩:=zaA hF0;refine zaa Tryd.func15 rfl rfl rfl hp0 ?_;refine T.sr ?_;refine TL.run 1 rfl ?_;refine TL.ns (T.seq (T.sr ?_));refine TL.run 1 rfl ?_;refine TL.y (Yv.aO rfl rfl ha (List.length_map _)) ?_;have hm7:a.length≤9223372036854775807:=(List.length_map _)▸ha.max;refine TL.run 1 rfl ?_;refine TL.y (Yv.aO rfl rfl hb (List.length_map _)) ?_;have hm9:b.length≤9223372036854775807:=(List.length_map _)▸hb.max;refine TL.run 1 rfl ?_;refine TL.ns ?_;refine T.cond rfl (fun h1=>?_) (fun h1=>?_)
 ·have p1:=of_decide_eq_true h1;replace hk:=zac hk h1;refine T.sr ?_;refine TL.run 1 rfl ?_;refine TL.ns (T.ret (K.aa ?_));subst hk;exact K.ah rfl rfl (fun w' hw=>⟨rfl,hw.isBelow⟩)
 ·have p1:=of_decide_eq_false h1;replace hk:=zad hk h1;refine T.skip (K.seq (T.seq (T.sr ?_)));refine TL.run 1 rfl ?_;refine TL.ns ?_;have hq:=zaF hk;clear hk;obtain ⟨k2,hk2,hk⟩:=hq; (try dsimp only at hk);refine T.az (ι:=Unit) (fun z=>[]) (fun z=>[.fr F1]) (fun z=>k2 ()=r) ?_ ?_
  ·have hq:=zaS hk;clear hk;obtain ⟨f3,kk3,hf3,hkk3,hk⟩:=hq;refine T.block ?_;refine T.loop (ι:=Nat) (fun z=>[(0,va),(1,vb),(5, .int .i64 (z:Int))]) (fun z=>[.fr F1]) (fun z=>zav f3 kk3 (a.length - z) z ()=r) (fun z=>a.length - z) 0 ?_ ?_ ?_ ?_
   ·exact hk
   ·exact (.c (.c (.c .nil)))
   ·exact List.Sublist.refl _
   ·rintro i_4 hk;refine T.seq (T.sr ?_);refine TL.run 2 rfl ?_;refine TL.y (Yv.aO rfl rfl ha (List.length_map _)) ?_;refine TL.run 1 rfl ?_;refine TL.ns ?_;refine T.cond rfl (fun h5=>?_) (fun h5=>?_)
    ·have p5:=of_decide_eq_true h5;rw [zbg (by omega)] at hk;generalize hn3:zav f3 kk3 (a.length - (i_4+1)) (i_4+1)=next3 at hk;rw [←hf3] at hk; (try dsimp only at hk);refine T.skip (K.seq (T.seq (T.block (T.seq ?_))));refine T.ay (.still 0 (.still 1 (.still 2 (.still 3 (.still 4 (.still 5 (.still 6 (.still 7 (.still 8 .done))))))))) _ (by kernel_rfl) (List.Sublist.refl _) ?_;refine TS.run 2 rfl ?_;refine TS.y rfl (Yv.aP (i:=i_4) rfl rfl rfl ha (List.length_map _) rfl (by omega)) ?_;refine TS.y rfl (Yv.bm 0 (i:=i_4) (j:=0) rfl rfl rfl ha (by omega) rfl rfl) ?_;refine TS.run 2 rfl ?_;refine TS.y rfl (Yv.aP (i:=i_4) rfl rfl rfl hb (List.length_map _) rfl (by omega)) ?_;refine TS.y rfl (Yv.bm 0 (i:=i_4) (j:=0) rfl rfl rfl hb (by omega) rfl rfl) ?_;refine TS.run 1 rfl ?_;refine TS.done ?_;refine K.seq ?_;refine T.cond rfl (fun h6=>?_) (fun h6=>?_)
     ·have p6:=of_decide_eq_true h6;replace hk:=zac hk h6;refine T.sr ?_;refine TL.run 1 rfl ?_;refine TL.ns (T.ret (K.ai (K.aa (K.aa (K.ai (K.aa ?_))))));subst hk;exact K.ah rfl rfl (fun w' hw=>⟨rfl,hw.isBelow⟩)
     ·have p6:=of_decide_eq_false h6;replace hk:=zad hk h6;refine T.skip (K.ad (K.seq (T.region ?_)));refine TL.run 1 rfl ?_;refine TL.y (Yv.al rfl rfl rfl (by omega)) ?_;refine TL.run 1 rfl ?_;refine TL.nil ?_;rw [←hn3] at hk;exact K.next (i_4+1) hk (by omega) (.c (.c (.c .nil))) (List.Sublist.refl _)
    ·have p5:=of_decide_eq_false h5;rw [zbh (by omega),←hkk3] at hk; (try dsimp only at hk);refine T.exit (K.ab (K.ab (K.ae ?_)));exact K.aw () hk .nil (List.Sublist.refl _)
  ·rintro _ hk;rw [←hk2] at hk; (try dsimp only at hk);refine T.sr ?_;refine TL.run 1 rfl ?_;refine TL.ns (T.ret ?_);subst hk;exact K.ah rfl rfl (fun w' hw=>⟨rfl,hw.isBelow⟩)
def za3 (a:List GDomain)(b:List GDomain):Bool:=
 (bif decide (¬(a.length:Int)=(b.length:Int)) then
  false
  else
  za0 (fun (_:Unit)=>
   true)
  (fun k2=>
   zav (fun (i_4:Nat) (next3:Unit→Bool) (_:Unit)=>
    (bif ((decide (¬(nth a i_4).Station=(nth b i_4).Station))||(!(zay ((nth a i_4).Channels) ((nth b i_4).Channels)))) then
     false
     else
     next3 ()))
   (fun (_:Unit)=>
    k2 ()) (a.length - 0) 0 ()))
theorem zcZ (F0:Frz)(w:World)(hF0:F0.At w)(a:List GDomain)(va:Value)(ca:List (List Value))(ha:SlD GDomain.rep F0 va 2 ca a)(b:List GDomain)(vb:Value)(cb:List (List Value))(hb:SlD GDomain.rep F0 vb 2 cb b):Calls Tryd.prog 13 #[va,vb] w fun e w'=>e= .returned (.bool (za3 a b))∧Below w.heap.size w w':=by
 obtain ⟨r,hk⟩:∃r,za3 a b=r:=⟨_,rfl⟩;rw [hk];unfold za3 at hk;haveI:=ha.1.oneC;haveI:=hb.1.oneC;obtain ⟨S0,F1,rfl,hS0,hp0⟩:=zaA hF0;refine zaa Tryd.func13 rfl rfl rfl hp0 ?_;refine T.sr ?_;refine TL.run 1 rfl ?_;refine TL.ns (T.seq (T.sr ?_));refine TL.run 1 rfl ?_;refine TL.y (Yv.aO rfl rfl ha.1 ha.2.1) ?_;have hm7:a.length≤9223372036854775807:=ha.2.1▸ha.1.max;refine TL.run 1 rfl ?_;refine TL.y (Yv.aO rfl rfl hb.1 hb.2.1) ?_;have hm9:b.length≤9223372036854775807:=hb.2.1▸hb.1.max;refine TL.run 1 rfl ?_;refine TL.ns ?_;refine T.cond rfl (fun h1=>?_) (fun h1=>?_)
 ·have p1:=of_decide_eq_true h1;replace hk:=zac hk h1;refine T.sr ?_;refine TL.run 1 rfl ?_;refine TL.ns (T.ret (K.aa ?_));subst hk;exact K.ah rfl rfl (fun w' hw=>⟨rfl,hw.isBelow⟩)
 ·have p1:=of_decide_eq_false h1;replace hk:=zad hk h1;refine T.skip (K.seq (T.seq (T.sr ?_)));refine TL.run 1 rfl ?_;refine TL.ns ?_;have hq:=zaF hk;clear hk;obtain ⟨k2,hk2,hk⟩:=hq; (try dsimp only at hk);refine T.az (ι:=Unit) (fun z=>[]) (fun z=>[.fr F1]) (fun z=>k2 ()=r) ?_ ?_
  ·have hq:=zaS hk;clear hk;obtain ⟨f3,kk3,hf3,hkk3,hk⟩:=hq;refine T.block ?_;refine T.loop (ι:=Nat) (fun z=>[(0,va),(1,vb),(5, .int .i64 (z:Int))]) (fun z=>[.fr F1]) (fun z=>zav f3 kk3 (a.length - z) z ()=r) (fun z=>a.length - z) 0 ?_ ?_ ?_ ?_
   ·exact hk
   ·exact (.c (.c (.c .nil)))
   ·exact List.Sublist.refl _
   ·rintro i_4 hk;refine T.seq (T.sr ?_);refine TL.run 2 rfl ?_;refine TL.y (Yv.aO rfl rfl ha.1 ha.2.1) ?_;refine TL.run 1 rfl ?_;refine TL.ns ?_;refine T.cond rfl (fun h5=>?_) (fun h5=>?_)
    ·have p5:=of_decide_eq_true h5;rw [zbg (by omega)] at hk;generalize hn3:zav f3 kk3 (a.length - (i_4+1)) (i_4+1)=next3 at hk;rw [←hf3] at hk; (try dsimp only at hk);refine T.skip (K.seq (T.seq (T.block (T.seq ?_))));refine T.az (ι:=Unit) (fun z=>[(0,va),(1,vb),(5, .int .i64 (i_4:Int)),(41, .bool ((decide (¬(nth a i_4).Station=(nth b i_4).Station))||(!(zay ((nth a i_4).Channels) ((nth b i_4).Channels)))))]) (fun z=>[.fr F1]) (fun z=>True) ?_ ?_
     ·refine T.ay (.still 0 (.still 1 (.still 2 (.still 3 (.still 4 (.still 5 (.still 6 (.still 7 (.still 8 (.still 9 (.still 10 (.still 11 (.still 12 (.still 13 (.still 14 (.still 15 (.still 16 (.still 17 (.still 18 (.still 19 (.still 20 (.still 21 (.eff 22 (.still 23 (.still 24 .done))))))))))))))))))))))))) _ (by kernel_rfl) (List.Sublist.refl _) ?_;refine TS.run 2 rfl ?_;refine TS.y rfl (Yv.aP (i:=i_4) rfl rfl rfl ha.1 ha.2.1 rfl (by omega)) ?_;refine TS.y rfl (Yv.bq rfl rfl ha.1 ha.2.1 (by omega)) ?_;refine TS.y rfl (Yv.loadR 0 (i:=i_4) (j:=0) rfl rfl rfl ha.1 ha.2.1 (by omega) rfl (GDomain.c0 (ha.2.2 i_4 (by omega)))) ?_;refine TS.run 2 rfl ?_;refine TS.y rfl (Yv.aP (i:=i_4) rfl rfl rfl hb.1 hb.2.1 rfl (by omega)) ?_;refine TS.y rfl (Yv.bq rfl rfl hb.1 hb.2.1 (by omega)) ?_;refine TS.y rfl (Yv.loadR 0 (i:=i_4) (j:=0) rfl rfl rfl hb.1 hb.2.1 (by omega) rfl (GDomain.c0 (hb.2.2 i_4 (by omega)))) ?_;refine TS.run 2 rfl ?_;refine TS.gs rfl rfl rfl rfl (fun h6=>?_) (fun h6=>?_)
      ·have p6:=of_decide_eq_true h6;refine TS.run 10 rfl ?_;refine TS.eff ?_;refine TSo.off rfl (Wt.not rfl rfl rfl rfl) rfl rfl ?_;refine TS.run 2 rfl ?_;refine TS.done ?_;exact K.aw () trivial (.c (.c (.c (.b (zen h6).symm .nil)))) (List.Sublist.refl _)
      ·have p6:=of_decide_eq_false h6;refine TS.run 2 rfl ?_;refine TS.y rfl (Yv.aP (i:=i_4) rfl rfl rfl ha.1 ha.2.1 rfl (by omega)) ?_;refine TS.y rfl (Yv.bq rfl rfl ha.1 ha.2.1 (by omega)) ?_;refine TS.y rfl (Yv.loadR 0 (i:=i_4) (j:=1) rfl rfl rfl ha.1 ha.2.1 (by omega) rfl (GDomain.c1 (ha.2.2 i_4 (by omega))).1) ?_;have hd33_1:=(GDomain.c1 (ha.2.2 i_4 (by omega))).2;haveI:=hd33_1.oneC;refine TS.run 2 rfl ?_;refine TS.y rfl (Yv.aP (i:=i_4) rfl rfl rfl hb.1 hb.2.1 rfl (by omega)) ?_;refine TS.y rfl (Yv.bq rfl rfl hb.1 hb.2.1 (by omega)) ?_;refine TS.y rfl (Yv.loadR 0 (i:=i_4) (j:=1) rfl rfl rfl hb.1 hb.2.1 (by omega) rfl (GDomain.c1 (hb.2.2 i_4 (by omega))).1) ?_;have hd38_1:=(GDomain.c1 (hb.2.2 i_4 (by omega))).2;haveI:=hd38_1.oneC;refine TS.eff ?_;refine TSo.bk rfl (Wt.some rfl rfl rfl rfl) rfl rfl (Ew.af rfl rfl rfl (fun w hw=>zbz _ w (hw.fr (i:=0) rfl) ((nth a i_4).Channels) (nth (nth ca i_4) 1) hd33_1 ((nth b i_4).Channels) (nth (nth cb i_4) 1) hd38_1)) ?_;rintro _ _ ⟨rfl,rfl⟩;refine ⟨(fun w hw=>hw.sub Sx),?_⟩;refine TS.run 2 rfl ?_;refine TS.done ?_;exact K.aw () trivial (.c (.c (.c (.b (or_f h6) .nil)))) (List.Sublist.refl _)
     ·rintro _ _;refine T.cond rfl (fun h7=>?_) (fun h7=>?_)
      ·replace hk:=zac hk h7;refine T.sr ?_;refine TL.run 1 rfl ?_;refine TL.ns (T.ret (K.ai (K.aa (K.aa (K.ai (K.aa ?_))))));subst hk;exact K.ah rfl rfl (fun w' hw=>⟨rfl,hw.isBelow⟩)
      ·have p7:=h7; (try simp only [nfB] at p7);replace hk:=zad hk h7;refine T.skip (K.ad (K.seq (T.region ?_)));refine TL.run 1 rfl ?_;refine TL.y (Yv.al rfl rfl rfl (by omega)) ?_;refine TL.run 1 rfl ?_;refine TL.nil ?_;rw [←hn3] at hk;exact K.next (i_4+1) hk (by omega) (.c (.c (.c .nil))) (List.Sublist.refl _)
    ·have p5:=of_decide_eq_false h5;rw [zbh (by omega),←hkk3] at hk; (try dsimp only at hk);refine T.exit (K.ab (K.ab (K.ae ?_)));exact K.aw () hk .nil (List.Sublist.refl _)
  ·rintro _ hk;rw [←hk2] at hk; (try dsimp only at hk);refine T.sr ?_;refine TL.run 1 rfl ?_;refine TL.ns (T.ret ?_);subst hk;exact K.ah rfl rfl (fun w' hw=>⟨rfl,hw.isBelow⟩)
def zcU (l:List Int)(n:Int):Bool:=
 za0 (fun (_:Unit)=>
  false)
 (fun k1=>
  zav (fun (i_3:Nat) (next2:Unit→Bool) (_:Unit)=>
   (bif decide ((nth l i_3)=n) then
    true
    else
    next2 ()))
  (fun (_:Unit)=>
   k1 ()) (l.length - 0) 0 ())
def zbX (d:List GDomain)(s:Int)(c:Int):Option (List GDomain):=
 za0 (fun (out_1:List GDomain)=>
  some out_1)
 (fun k2=>
  zav (fun (i_5:Nat) (next4:List GDomain→Option (List GDomain)) (out_3:List GDomain)=>
   grd (room ([]++(nth d i_5).Channels).length 8) <|
   za0 (fun (s9:Int×List Int)=>
    grd (room (out_3++[(GDomain.mk s9.1 s9.2)]).length 32) <|
    next4 (out_3++[(GDomain.mk s9.1 s9.2)]))
   (fun k9=>
    (bif decide ((nth d i_5).Station=s) then
     (bif (zcU ((nth d i_5).Channels) c) then
      k9 ((nth d i_5).Station,[c])
      else
      k9 ((nth d i_5).Station,[]))
     else
     k9 ((nth d i_5).Station,([]++(nth d i_5).Channels)))))
  (fun (out_3:List GDomain)=>
   k2 out_3) (d.length - 0) 0 [])
def zaW (low:Int)(c:Int)(high:Int):Bool:=
 ((decide (low≤c))&&(decide (c≤high)))
def zbl (d:List GDomain)(station:Int)(channel:Int):Bool:=
 za0 (fun (_:Unit)=>
  true)
 (fun k1=>
  zav (fun (i_3:Nat) (next2:Unit→Bool) (_:Unit)=>
   za0 (fun (_:Unit)=>
    next2 ())
   (fun k5=>
    (bif decide (¬(nth d i_3).Station=station) then
     k5 ()
     else
     zav (fun (k_8:Nat) (next7:Unit→Bool) (_:Unit)=>
      (bif decide (¬(nth ((nth d i_3).Channels) k_8)=channel) then
       false
       else
       next7 ()))
     (fun (_:Unit)=>
      k5 ()) ((((nth d i_3).Channels).length) - 0) 0 ())))
  (fun (_:Unit)=>
   k1 ()) (d.length - 0) 0 ())
def zbZ (p:GProblem)(d:List GDomain)(s:Int)(c:Int):Bool:=
 za0 (fun (_:Unit)=>
  false)
 (fun k1=>
  zav (fun (i_3:Nat) (next2:Unit→Bool) (_:Unit)=>
   (bif (((decide ((nth p.Rules.Pairs i_3).A=s))&&(zaW ((nth p.Rules.Pairs i_3).Low) c ((nth p.Rules.Pairs i_3).High)))&&(zbl d ((nth p.Rules.Pairs i_3).B) (wI (c+((nth p.Rules.Pairs i_3).Offset))))) then
    true
    else
    (bif (((decide ((nth p.Rules.Pairs i_3).B=s))&&(zaW ((nth p.Rules.Pairs i_3).Low) (wI (c - ((nth p.Rules.Pairs i_3).Offset))) ((nth p.Rules.Pairs i_3).High)))&&(zbl d ((nth p.Rules.Pairs i_3).A) (wI (c - ((nth p.Rules.Pairs i_3).Offset))))) then
     true
     else
     next2 ())))
  (fun (_:Unit)=>
   k1 ()) (p.Rules.Pairs.length - 0) 0 ())
def zcm (p:GProblem)(d:List GDomain)(to_:Int)(c:Int)(further:Int):Int:=
 za0 (fun (n_1:Int)=>
  n_1)
 (fun k2=>
  zav (fun (i_5:Nat) (next4:Int→Int) (n_3:Int)=>
   (bif (((decide ((nth p.Rules.Loads i_5).To=to_))&&(zaW ((nth p.Rules.Loads i_5).Low) c ((nth p.Rules.Loads i_5).High)))&&((decide ((nth p.Rules.Loads i_5).From=further))||(zbl d ((nth p.Rules.Loads i_5).From) c))) then
    next4 (wI (n_3+((nth p.Rules.Loads i_5).Weight)))
    else
    next4 n_3))
  (fun (n_3:Int)=>
   k2 n_3) (p.Rules.Loads.length - 0) 0 0)
def zbW (p:GProblem)(station:Int)(c:Int)(loss:Int):Bool:=
 za0 (fun (_:Unit)=>
  false)
 (fun k1=>
  zav (fun (i_3:Nat) (next2:Unit→Bool) (_:Unit)=>
   (bif (((decide ((nth p.Rules.Caps i_3).Station=station))&&(zaW ((nth p.Rules.Caps i_3).Low) c ((nth p.Rules.Caps i_3).High)))&&(decide ((nth p.Rules.Caps i_3).Max<loss))) then
    true
    else
    next2 ()))
  (fun (_:Unit)=>
   k1 ()) (p.Rules.Caps.length - 0) 0 ())
def zb1 (p:GProblem)(d:List GDomain)(s:Int)(c:Int):Bool:=
 za0 (fun (_:Unit)=>
  false)
 (fun k1=>
  zav (fun (i_3:Nat) (next2:Unit→Bool) (_:Unit)=>
   (bif ((((decide ((nth p.Rules.Loads i_3).From=s))&&(zaW ((nth p.Rules.Loads i_3).Low) c ((nth p.Rules.Loads i_3).High)))&&(zbl d ((nth p.Rules.Loads i_3).To) c))&&(zbW p ((nth p.Rules.Loads i_3).To) c (zcm p d ((nth p.Rules.Loads i_3).To) c s))) then
    true
    else
    next2 ()))
  (fun (_:Unit)=>
   k1 ()) (p.Rules.Loads.length - 0) 0 ())
def zbM (p:GProblem)(d:List GDomain)(s:Int)(c:Int):Bool:=
 (((zbZ p d s c)||(zbW p s c (zcm p d s c (-1))))||(zb1 p d s c))
def zbj (d:List GDomain)(s:Int)(c:Int):Option (List GDomain):=
 za0 (fun (out_1:List GDomain)=>
  some out_1)
 (fun k2=>
  zav (fun (i_5:Nat) (next4:List GDomain→Option (List GDomain)) (out_3:List GDomain)=>
   za0 (fun (s9:Int×List Int)=>
    grd (room (out_3++[(GDomain.mk s9.1 s9.2)]).length 32) <|
    next4 (out_3++[(GDomain.mk s9.1 s9.2)]))
   (fun k9=>
    zav (fun (k_13:Nat) (next12:(Int×List Int)→Option (List GDomain)) (s12:Int×List Int)=>
     (bif ((decide (¬(nth d i_5).Station=s))||(decide (¬(nth ((nth d i_5).Channels) k_13)=c))) then
      grd (room (s12.2++[(nth ((nth d i_5).Channels) k_13)]).length 8) <|
      next12 (s12.1,(s12.2++[(nth ((nth d i_5).Channels) k_13)]))
      else
      next12 (s12.1,s12.2)))
    (fun (s12:Int×List Int)=>
     k9 (s12.1,s12.2)) ((((nth d i_5).Channels).length) - 0) 0 ((nth d i_5).Station,[])))
  (fun (out_3:List GDomain)=>
   k2 out_3) (d.length - 0) 0 [])
theorem has_x {l:List Int}{n:Int}:zcU l n=l.any fun k=>decide (k=n):=by
 unfold zcU;simp only [za0,Nat.sub_zero];rw [zdh (fun i=>decide (nth l i=n)) (fun i next _=>?_),zcy (q:=fun k=>decide (k=n)),Bool.or_false]
 cases decide (nth l i=n) <;> rfl
def zcn (d:List GDomain)(s c:Int):Bool:=d.all fun x=>(decide (¬x.Station=s)||x.Channels.all fun k=>decide (k=c))
theorem zht {d:List GDomain}{s c:Int}:zbl d s c=zcn d s c:=by
 unfold zbl zcn;simp only [za0,Nat.sub_zero];rw [zfw (fun i=>(decide (¬(nth d i).Station=s)||(nth d i).Channels.all fun k=>decide (k=c))) (fun i next _=>?_),zfU (l:=d) (q:=fun x=>(decide (¬x.Station=s)||x.Channels.all fun k=>decide (k=c))),Bool.and_true];rw [zfw (fun k=>decide (nth (nth d i).Channels k=c)) (fun k nx _=>?_),zfU (q:=fun k=>decide (k=c))]
 ·cases decide (¬(nth d i).Station=s) <;> rfl
 ·by_cases h:nth (nth d i).Channels k=c <;> simp [h]
theorem zdT {a b c:Int}:zaW a b c=decide (a≤b∧b≤c):=by
 unfold zaW;by_cases h1:a≤b <;> by_cases h2:b≤c <;> simp [h1,h2]
def zeL (d:List GDomain)(s c:Int)(x:GPair):Bool:=(decide (x.A=s)&&decide (x.Low≤c∧c≤x.High)&&zcn d x.B (wI (c+x.Offset)))||(decide (x.B=s)&&decide (x.Low≤wI (c - x.Offset)∧wI (c - x.Offset)≤x.High)&&zcn d x.A (wI (c - x.Offset)))
theorem ziT {p:GProblem}{d:List GDomain}{s c:Int}:zbZ p d s c=p.Rules.Pairs.any (zeL d s c):=by
 unfold zbZ;simp only [za0,Nat.sub_zero,zht,zdT];rw [zdh (fun i=>zeL d s c (nth p.Rules.Pairs i)) (fun i next _=>?_),zcy (q:=zeL d s c),Bool.or_false];unfold zeL;generalize (decide ((nth p.Rules.Pairs i).A=s)&&decide ((nth p.Rules.Pairs i).Low≤c∧c≤(nth p.Rules.Pairs i).High)&&zcn d (nth p.Rules.Pairs i).B (wI (c+(nth p.Rules.Pairs i).Offset)))=a
 cases a
 ·rw [cond_false,Bool.false_or];generalize (decide ((nth p.Rules.Pairs i).B=s)&&decide ((nth p.Rules.Pairs i).Low≤wI (c - (nth p.Rules.Pairs i).Offset)∧wI (c - (nth p.Rules.Pairs i).Offset)≤(nth p.Rules.Pairs i).High)&&zcn d (nth p.Rules.Pairs i).A (wI (c - (nth p.Rules.Pairs i).Offset)))=b
  cases b <;> rfl
 ·rfl
def loadC (d:List GDomain)(t c f:Int)(x:GLoad):Bool:=decide (x.To=t)&&decide (x.Low≤c∧c≤x.High)&&(decide (x.From=f)||zcn d x.From c)
def sumP (p:GProblem)(d:List GDomain)(t c f:Int):Int:=p.Rules.Loads.foldl (fun n x=>bif loadC d t c f x then wI (n+x.Weight) else n) 0
theorem zkj {p:GProblem}{d:List GDomain}{t c f:Int}:zcm p d t c f=sumP p d t c f:=by
 unfold zcm sumP;simp only [za0,Nat.sub_zero,zht,zdT];rw [zha (fun i n=>bif loadC d t c f (nth p.Rules.Loads i) then wI (n+(nth p.Rules.Loads i).Weight) else n) (fun i next n _=>?_),zcg (g:=fun n x=>bif loadC d t c f x then wI (n+x.Weight) else n)];unfold loadC;generalize (decide ((nth p.Rules.Loads i).To=t)&&decide ((nth p.Rules.Loads i).Low≤c∧c≤(nth p.Rules.Loads i).High)&&(decide ((nth p.Rules.Loads i).From=f)||zcn d (nth p.Rules.Loads i).From c))=a
 cases a <;> rfl
def zdI (p:GProblem)(s c l:Int):Bool:=p.Rules.Caps.any fun x=>decide (x.Station=s)&&decide (x.Low≤c∧c≤x.High)&&decide (x.Max<l)
theorem zjm {p:GProblem}{s c l:Int}:zbW p s c l=zdI p s c l:=by
 unfold zbW zdI;simp only [za0,Nat.sub_zero,zdT];rw [zdh (fun i=>decide ((nth p.Rules.Caps i).Station=s)&&decide ((nth p.Rules.Caps i).Low≤c∧c≤(nth p.Rules.Caps i).High)&&decide ((nth p.Rules.Caps i).Max<l)) (fun i next _=>?_),zcy (l:=p.Rules.Caps) (q:=fun x=>decide (x.Station=s)&&decide (x.Low≤c∧c≤x.High)&&decide (x.Max<l)),Bool.or_false];generalize (decide ((nth p.Rules.Caps i).Station=s)&&decide ((nth p.Rules.Caps i).Low≤c∧c≤(nth p.Rules.Caps i).High)&&decide ((nth p.Rules.Caps i).Max<l))=a
 cases a <;> rfl
def loadR (p:GProblem)(d:List GDomain)(s c:Int)(x:GLoad):Bool:=decide (x.From=s)&&decide (x.Low≤c∧c≤x.High)&&zcn d x.To c&&zdI p x.To c (sumP p d x.To c s)
theorem ziZ {p:GProblem}{d:List GDomain}{s c:Int}:zb1 p d s c=p.Rules.Loads.any (loadR p d s c):=by
 unfold zb1;simp only [za0,Nat.sub_zero,zht,zdT,zjm,zkj];rw [zdh (fun i=>loadR p d s c (nth p.Rules.Loads i)) (fun i next _=>?_),zcy (q:=loadR p d s c),Bool.or_false];unfold loadR;generalize (decide ((nth p.Rules.Loads i).From=s)&&decide ((nth p.Rules.Loads i).Low≤c∧c≤(nth p.Rules.Loads i).High)&&zcn d (nth p.Rules.Loads i).To c&&zdI p (nth p.Rules.Loads i).To c (sumP p d (nth p.Rules.Loads i).To c s))=a
 cases a <;> rfl
def remP (p:GProblem)(d:List GDomain)(s c:Int):Bool:=p.Rules.Pairs.any (zeL d s c)||zdI p s c (sumP p d s c (-1))||p.Rules.Loads.any (loadR p d s c)
theorem zhW {p:GProblem}{d:List GDomain}{s c:Int}:zbM p d s c=remP p d s c:=by
 unfold zbM remP;rw [ziT,zjm,zkj,ziZ]
def zc5 (s c:Int)(x:GDomain):GDomain:=⟨x.Station,x.Channels.filter fun k=>decide (¬x.Station=s)||decide (¬k=c)⟩
theorem zjk {d:List GDomain}{s c:Int}(hd:d.length≤100000)(hc:∀x∈d,x.Channels.length≤100000):zbj d s c=some (d.map (zc5 s c)):=by
 unfold zbj;simp only [za0,Nat.sub_zero];refine (zc4 (fun i out=>out.length=i) (fun i out=>out++[zc5 s c (nth d i)]) rfl (fun i out _ h=>by simp [h]) (fun i next out hi hl=>?_)).1.trans ?_
 ·have hci:=hc (nth d i) (by rw [zam hi];exact List.getElem_mem _);refine (zc4 (fun k (t:Int×List Int)=>t.2.length≤k) (fun k t=>(t.1,bif (decide (¬(nth d i).Station=s)||decide (¬nth (nth d i).Channels k=c)) then t.2++[nth (nth d i).Channels k] else t.2)) (by exact Nat.le_refl 0) (fun k t _ h=>?_) (fun k nx t hk ht=>?_)).1.trans ?_
  ·(try dsimp only)
   cases (decide (¬(nth d i).Station=s)||decide (¬nth (nth d i).Channels k=c)) <;> simp <;> omega
  ·(try dsimp only)
   cases (decide (¬(nth d i).Station=s)||decide (¬nth (nth d i).Channels k=c))
   ·rfl
   ·exact zbL (by simp only [room,List.length_append,List.length_singleton];omega)
  ·rw [zh6 (g:=fun t k=>bif (decide (¬(nth d i).Station=s)||decide (¬nth (nth d i).Channels k=c)) then t++[nth (nth d i).Channels k] else t),zcg (l:=(nth d i).Channels) (g:=fun t k=>bif (decide (¬(nth d i).Station=s)||decide (¬k=c)) then t++[k] else t),zgX (g:=fun k=>k)];rw [zbL (by simp only [room,List.length_append,List.length_singleton];omega)];simp [zc5]
 ·rw [zcg (l:=d) (g:=fun out x=>out++[zc5 s c x]),zey];rfl
def zeI (s c:Int)(x:GDomain):GDomain:=⟨x.Station,bif decide (x.Station=s) then (bif x.Channels.any (fun k=>decide (k=c)) then [c] else []) else x.Channels⟩
theorem zj8 {d:List GDomain}{s c:Int}(hd:d.length≤100000)(hc:∀x∈d,x.Channels.length≤100000):zbX d s c=some (d.map (zeI s c)):=by
 unfold zbX;simp only [za0,Nat.sub_zero,has_x];refine (zc4 (fun i out=>out.length=i) (fun i out=>out++[zeI s c (nth d i)]) rfl (fun i out _ h=>by simp [h]) (fun i next out hi hl=>?_)).1.trans ?_
 ·have hci:=hc (nth d i) (by rw [zam hi];exact List.getElem_mem _);rw [zbL (by simp only [room,List.nil_append];omega)]; (have hr:∀y:GDomain,room (out++[y]).length 32:=fun y=>by simp only [room,List.length_append,List.length_singleton];omega);simp only [zbL (hr _),zeI]
  cases decide ((nth d i).Station=s) <;> cases ((nth d i).Channels.any fun k=>decide (k=c)) <;> rfl
 ·rw [zcg (l:=d) (g:=fun out x=>out++[zeI s c x]),zey];rfl
def zaG (fuel:Nat)(p:GProblem)(d:List GDomain):Option (List GDomain×Bool):=
 za0 (fun (d_1:List GDomain)=>
  za0 (fun (_:Unit)=>
   some (d_1,true))
  (fun k20=>
   zav (fun (i_22:Nat) (next21:Unit→Option (List GDomain×Bool)) (_:Unit)=>
    (bif decide ((((nth d_1 i_22).Channels).length:Int)=0) then
     some ([],false)
     else
     next21 ()))
   (fun (_:Unit)=>
    k20 ()) (d_1.length - 0) 0 ()))
 (fun k2=>
  zb4 (fun (next5:(List GDomain×Bool)→Option (List GDomain×Bool)) (s5:List GDomain×Bool)=>
   (bif s5.2 then
    zb4 (fun (next11:(List GDomain×Bool×Int)→Option (List GDomain×Bool)) (s11:List GDomain×Bool×Int)=>
     (bif decide (s11.2.2<(s11.1.length:Int)) then
      grd (0≤s11.2.2∧s11.2.2<(s11.1.length:Int)) <|
      zib (fun (k_17:Nat) (next16:(List GDomain×Bool)→Option (List GDomain×Bool)) (s16:List GDomain×Bool)=>
       grd (0≤s11.2.2∧s11.2.2<(s16.1.length:Int)) <|
       grd (0≤(k_17:Int)∧(k_17:Int)<(((nth s16.1 s11.2.2.toNat).Channels).length:Int)) <|
       (bif (zbM p s16.1 ((nth s16.1 s11.2.2.toNat).Station) (nth ((nth s16.1 s11.2.2.toNat).Channels) k_17)) then
        (zbj s16.1 ((nth s16.1 s11.2.2.toNat).Station) (nth ((nth s16.1 s11.2.2.toNat).Channels) k_17)).bind fun r51=>
        next16 (r51,true)
        else
        next16 (s16.1,s16.2)))
      (fun (s16:List GDomain×Bool)=>
       next11 (s16.1,s16.2,(s11.2.2+1))) (((nth s11.1 s11.2.2.toNat).Channels).length) (s11.1,s11.2.1)
      else
      next5 (s11.1,s11.2.1))) fuel (s5.1,false,0)
    else
    k2 s5.1)) fuel (d,true))
theorem zaR {α:Type}[Inhabited α]{xs:List α}{k:Nat}(h:k<xs.length):nth xs k∈xs:=by rw [zam h];exact List.getElem_mem _
theorem zb2 {α:Type}[Inhabited α]{xs:List α}{x:α}(h:x∈xs):∃k,k<xs.length∧nth xs k=x:=by
 obtain ⟨k,hk,rfl⟩:=List.mem_iff_getElem.1 h;exact ⟨k,hk,zam hk⟩
theorem zbD {α β:Type}[Inhabited α][Inhabited β]{f:α→β}{xs:List α}{i:Nat}(h:i<xs.length):nth (xs.map f) i=f (nth xs i):=zbE h
theorem zeQ {α:Type}[Inhabited α]{a b:List α}(hl:a.length=b.length)(h:∀i,i<a.length→nth a i=nth b i):a=b:=by
 apply List.ext_getElem hl;intro i h1 h2;have:=h i h1
 rwa [zam h1,zam h2] at this
def SubD (a b:List GDomain):Prop:=a.length=b.length∧∀i,i<b.length→(nth a i).Station=(nth b i).Station∧∀c∈(nth a i).Channels,c∈(nth b i).Channels
theorem SubD.refl (a:List GDomain):SubD a a:=⟨rfl,fun _ _=>⟨rfl,fun _ h=>h⟩⟩
theorem SubD.trans {a b c:List GDomain}(h:SubD a b)(k:SubD b c):SubD a c:=⟨h.1.trans k.1,fun i hi=>⟨((h.2 i (by rw [k.1];exact hi)).1).trans (k.2 i hi).1,fun x hx=>(k.2 i hi).2 x ((h.2 i (by rw [k.1];exact hi)).2 x hx)⟩⟩
def WtP (p:GProblem):Prop:=p.Rules.Loads.length≤1024∧∀x∈p.Rules.Loads,0≤x.Weight∧x.Weight≤1073741824
section
variable {p:GProblem}{a b d:List GDomain}
theorem zfs {s c:Int}:zcn d s c=true↔∀x∈d,x.Station=s→∀k∈x.Channels,k=c:=by
 unfold zcn;simp only [List.all_eq_true,Bool.or_eq_true,decide_eq_true_eq];constructor
 ·intro h x hx hs k hk;rcases h x hx with h1|h1
  ·exact absurd hs h1
  ·exact h1 k hk
 ·intro h x hx;by_cases hs:x.Station=s
  ·exact .inr (h x hx hs)
  ·exact .inl hs
theorem zcG (h:SubD a b){s c:Int}(ho:zcn b s c=true):zcn a s c=true:=by
 rw [zfs] at ho ⊢;intro x hx hs k hk;obtain ⟨i,hi,rfl⟩:=zb2 hx;have h2:=h.2 i (by rw [←h.1];exact hi);exact ho (nth b i) (zaR (by rw [←h.1];exact hi)) (by rw [←h2.1];exact hs) k (h2.2 k hk)
theorem zdG {t c f : Int} (h : SubD a b) : ∀ (l : List GLoad), (∀ x ∈ l, 0 ≤ x.Weight ∧ x.Weight ≤ 1073741824) → ∀ n n' : Int, 0 ≤ n → n ≤ n' → n' + 1073741824 * (l.length : Int) ≤ 4611686018427387904 →
    l.foldl (fun n x => bif loadC b t c f x then wI (n + x.Weight) else n) n ≤ l.foldl (fun n x => bif loadC a t c f x then wI (n + x.Weight) else n) n'
  | [], _, n, n', _, hn, _ => hn
  | x :: r, hw, n, n', h0, hn, hb => by
    have h1 := hw x (by simp); simp only [List.length_cons] at hb; rw [List.foldl_cons, List.foldl_cons]; have e1 : wI (n + x.Weight) = n + x.Weight := zgW (by omega); have e2 : wI (n' + x.Weight) = n' + x.Weight := zgW (by omega); rw [e1, e2]
    have hc : loadC b t c f x = true → loadC a t c f x = true := by
      unfold loadC; simp only [Bool.and_eq_true, Bool.or_eq_true]; rintro ⟨h3, h4⟩; exact ⟨h3, h4.imp id (zcG h)⟩
    refine zdG h r (fun y hy => hw y (by simp [hy])) _ _ ?_ ?_ ?_
    · cases loadC b t c f x <;> simp <;> omega
    · cases hb' : loadC b t c f x
      · cases loadC a t c f x <;> simp <;> omega
      · rw [hc hb']; simp; omega
    · cases loadC a t c f x <;> simp <;> omega
theorem zfi (hp:WtP p)(h:SubD a b){t c f:Int}:sumP p b t c f≤sumP p a t c f:=by
 unfold sumP;have:=hp.1;exact zdG h _ hp.2 0 0 (by omega) (by omega) (by omega)
theorem zez {s c l l':Int}(hl:l≤l')(h:zdI p s c l=true):zdI p s c l'=true:=by
 unfold zdI at h ⊢;rw [List.any_eq_true] at h ⊢;obtain ⟨x,hx,h⟩:=h;refine ⟨x,hx,?_⟩;simp only [Bool.and_eq_true,decide_eq_true_eq] at h ⊢;exact ⟨h.1,by omega⟩
theorem zfS (hp:WtP p)(h:SubD a b){s c:Int}(hr:remP p b s c=true):remP p a s c=true:=by
 unfold remP at hr ⊢;simp only [Bool.or_eq_true,List.any_eq_true] at hr ⊢;rcases hr with (⟨x,hx,hr⟩|hr)|⟨x,hx,hr⟩
 ·refine .inl (.inl ⟨x,hx,?_⟩);unfold zeL at hr ⊢;simp only [Bool.or_eq_true,Bool.and_eq_true] at hr ⊢;exact hr.imp (fun q=>⟨q.1,zcG h q.2⟩) (fun q=>⟨q.1,zcG h q.2⟩)
 ·exact .inl (.inr (zez (zfi hp h) hr))
 ·refine .inr ⟨x,hx,?_⟩;unfold loadR at hr ⊢;simp only [Bool.and_eq_true] at hr ⊢;exact ⟨⟨hr.1.1,zcG h hr.1.2⟩,zez (zfi hp h) hr.2⟩
structure ClosedD (p:GProblem) (d:List GDomain):Prop where
 ne:∀x∈d,x.Channels≠[]
 calm:∀x∈d,∀c∈x.Channels,remP p d x.Station c=false
def OrdD (a b:List GDomain):Prop:=∀i,i<b.length→(nth a i).Channels.Sublist (nth b i).Channels
def ziY (p:GProblem)(d:List GDomain)(r:List GDomain×Bool):Prop:=
 (r.2=true∧ClosedD p r.1∧(SubD r.1 d∧OrdD r.1 d)∧∀S,ClosedD p S→SubD S d→SubD S r.1)∨(r=([],false)∧∀S,ClosedD p S→¬SubD S d)
def ziA (R:List GDomain→Int→Int→Bool)(d:List GDomain):Prop:=∀x∈d,∀c∈x.Channels,R d x.Station c=false
def MonoR (R:List GDomain→Int→Int→Bool):Prop:=∀a b s c,SubD a b→R b s c=true→R a s c=true
theorem zhg {R:List GDomain→Int→Int→Bool}(hp:MonoR R){S:List GDomain}(hS:ziA R S)(h:SubD S d){s c:Int}(hr:R d s c=true):SubD S (d.map (zc5 s c)):=by
 refine ⟨by rw [h.1,List.length_map],fun i hi=>?_⟩;rw [List.length_map] at hi;rw [zbD hi];have h2:=h.2 i hi;refine ⟨h2.1,fun k hk=>?_⟩;unfold zc5;rw [List.mem_filter];refine ⟨h2.2 k hk,?_⟩;simp only [Bool.or_eq_true,decide_eq_true_eq];by_cases hs:(nth d i).Station=s
 ·refine .inr fun hkc=>?_;subst hkc;have hm:=zaR (show i<S.length by rw [h.1];exact hi);have:=hS _ hm k hk;rw [h2.1,hs,hp _ _ _ _ h hr] at this
  cases this
 ·exact .inl hs
theorem drop_sub {s c:Int}:SubD (d.map (zc5 s c)) d:=by
 refine ⟨List.length_map _,fun i hi=>?_⟩;rw [zbD hi];exact ⟨rfl,fun k hk=>(List.mem_filter.1 hk).1⟩
def totG (d:List GDomain):Nat:=(d.map fun x=>x.Channels.length).sum
theorem zia:∀(d:List GDomain) (f:GDomain→GDomain),(∀x∈d,(f x).Channels.length≤x.Channels.length)→totG (d.map f)≤totG d
 | [],_,_=>Nat.le_refl _
 |x :: r,f,h=>by
  have:=zia r f (fun y hy=>h y (by simp [hy]));have h1:=h x (by simp);simp only [totG,List.map_cons,List.sum_cons] at this ⊢;omega
theorem zh2:∀(d:List GDomain) (f:GDomain→GDomain),(∀x∈d,(f x).Channels.length≤x.Channels.length)→(∃x∈d,(f x).Channels.length<x.Channels.length)→totG (d.map f)<totG d
 |x :: r,f,h,he=>by
  have h1:=h x (by simp);obtain ⟨y,hy,hlt⟩:=he;rcases List.mem_cons.1 hy with rfl|hy
  ·have:=zia r f (fun z hz=>h z (by simp [hz]));simp only [totG,List.map_cons,List.sum_cons] at this ⊢;omega
  ·have:=zh2 r f (fun z hz=>h z (by simp [hz])) ⟨y,hy,hlt⟩;simp only [totG,List.map_cons,List.sum_cons] at this ⊢;omega
theorem zes {α:Type}{q:α→Bool}:∀ {l:List α} {x:α},x∈l→q x=false→(l.filter q).length<l.length
 |y :: r,x,hx,hq=>by
  rcases List.mem_cons.1 hx with rfl|hx
  ·rw [List.filter_cons,hq];have:=List.length_filter_le q r;simp;omega
  ·have:=zes hx hq;rw [List.filter_cons];split <;> simp only [List.length_cons] <;> omega
theorem zjK {s c:Int}{i:Nat}(hi:i<d.length)(hs:(nth d i).Station=s)(hc:c∈(nth d i).Channels):totG (d.map (zc5 s c))<totG d:=
 zh2 d _ (fun x _=>List.length_filter_le _ _) ⟨nth d i,zaR hi,zes hc (by simp [hs])⟩
structure Bd (d:List GDomain):Prop where
 len:d.length≤100000
 ch:∀x∈d,x.Channels.length≤100000∧x.Channels.Nodup
theorem Bd.drop (h:Bd d){s c:Int}:Bd (d.map (zc5 s c)):=by
 refine ⟨by rw [List.length_map];exact h.len,fun x hx=>?_⟩;obtain ⟨y,hy,rfl⟩:=List.mem_map.1 hx;exact ⟨Nat.le_trans (List.length_filter_le _ _) (h.ch y hy).1,(h.ch y hy).2.filter _⟩
theorem zhh {s c:Int}{i k:Nat}(hb:Bd d)(hi:i<d.length)(hk:k<(nth d i).Channels.length)(hc:nth (nth d i).Channels k=c):k≤(nth (d.map (zc5 s c)) i).Channels.length:=by
 rw [zbD hi];unfold zc5;have hn:=(hb.ch _ (zaR hi)).2;have e:(nth d i).Channels=(nth d i).Channels.take k++(nth d i).Channels.drop k:=(List.take_append_drop k _).symm
 have hf:((nth d i).Channels.take k).filter (fun q=>decide (¬(nth d i).Station=s)||decide (¬q=c))=(nth d i).Channels.take k:=by
  rw [List.filter_eq_self];intro q hq;simp only [Bool.or_eq_true,decide_eq_true_eq];refine .inr fun hqc=>?_;obtain ⟨j,hj,rfl⟩:=List.mem_iff_getElem.1 hq;simp only [List.length_take] at hj;rw [List.getElem_take] at hqc;rw [zam hk] at hc;have:=(List.getElem_inj (h₀:=by omega) (h₁:=hk) hn).1 (hqc.trans hc.symm);omega
 show k≤((nth d i).Channels.filter _).length
 rw [e,List.filter_append,hf,List.length_append,List.length_take];omega
structure InvR (R:List GDomain→Int→Int→Bool) (d0 d:List GDomain):Prop where
 bd:Bd d
 sub:SubD d d0
 ord:OrdD d d0
 sup:∀S,ziA R S→SubD S d0→SubD S d
theorem InvR.step {R:List GDomain→Int→Int→Bool}{d0:List GDomain}(hp:MonoR R)(h:InvR R d0 d){s c:Int}(hr:R d s c=true):InvR R d0 (d.map (zc5 s c)):=
 ⟨h.bd.drop,drop_sub.trans h.sub,fun i hi=>by
  rw [zbD (by rw [h.sub.1];exact hi)]
  exact (List.filter_sublist).trans (h.ord i hi),fun S hS hs=>zhg hp hS (h.sup S hS hs) hr⟩
theorem zjG {R : List GDomain → Int → Int → Bool} {ρ : Type} {fuel : Nat} {d0 : List GDomain} {k2 : List GDomain → Option ρ} (post : Option ρ → Prop) (hp : MonoR R) (hb : Bd d0) (hf1 : d0.length < fuel) (hf2 : totG d0 + 1 < fuel) (hend : ∀ d, InvR R d0 d → ziA R d → post (k2 d)) :
    post (zb4 (fun (next5 : (List GDomain × Bool) → Option ρ) (s5 : List GDomain × Bool) =>
      (bif s5.2 then
        zb4 (fun (next11 : (List GDomain × Bool × Int) → Option ρ) (s11 : List GDomain × Bool × Int) =>
          (bif decide (s11.2.2 < (s11.1.length : Int)) then
            grd (0 ≤ s11.2.2 ∧ s11.2.2 < (s11.1.length : Int)) <|
            zib (fun (k_17 : Nat) (next16 : (List GDomain × Bool) → Option ρ) (s16 : List GDomain × Bool) =>
              grd (0 ≤ s11.2.2 ∧ s11.2.2 < (s16.1.length : Int)) <|
              grd (0 ≤ (k_17 : Int) ∧ (k_17 : Int) < (((nth s16.1 s11.2.2.toNat).Channels).length : Int)) <|
              (bif (R s16.1 ((nth s16.1 s11.2.2.toNat).Station) (nth ((nth s16.1 s11.2.2.toNat).Channels) k_17)) then
                (zbj s16.1 ((nth s16.1 s11.2.2.toNat).Station) (nth ((nth s16.1 s11.2.2.toNat).Channels) k_17)).bind fun r51 =>
                next16 (r51, true)
                else
                next16 (s16.1, s16.2)))
            (fun (s16 : List GDomain × Bool) =>
              next11 (s16.1, s16.2, (s11.2.2 + 1))) (((nth s11.1 s11.2.2.toNat).Channels).length) (s11.1, s11.2.1)
            else
            next5 (s11.1, s11.2.1))) fuel (s5.1, false, 0)
        else
        k2 s5.1)) fuel (d0, true)) := by
  refine zeE (σ := List GDomain × Bool) (I := fun s => InvR R d0 s.1 ∧ (s.2 = false → ziA R s.1)) (μ := fun s => totG s.1 + (bif s.2 then 1 else 0)) (post := post) ⟨⟨hb, .refl _, fun _ _ => List.Sublist.refl _, fun S _ h => h⟩, fun h => by cases h⟩ hf2 ?_; rintro ⟨d, again⟩ next ⟨hI, hA⟩ hn; dsimp only at hI hA hn ⊢
  cases again with
  | false =>
    rw [cond_false]; exact hend d hI (hA rfl)
  | true =>
    rw [cond_true]
    -- one sweep over the stations
    refine zeE (σ := List GDomain × Bool × Int) (I := fun s => InvR R d0 s.1 ∧ 0 ≤ s.2.2 ∧ s.2.2 ≤ s.1.length ∧ s.1.length = d.length ∧ (s.2.1 = false → s.1 = d ∧ ∀ j : Nat, (j : Int) < s.2.2 → ∀ c ∈ (nth d j).Channels, R d (nth d j).Station c = false) ∧ (s.2.1 = true → totG s.1 < totG d)) (μ := fun s => (s.1.length - s.2.2).toNat) (post := post) ⟨hI, by simp, by simp, rfl, fun _ => ⟨rfl, fun j hj => absurd hj (by simp)⟩, fun h => by cases h⟩ (by simp only [Int.sub_zero, Int.toNat_natCast]; rw [hI.sub.1]; exact hf1) ?_; rintro ⟨d1, ag, i⟩ next1 ⟨hI1, h0, h1, hl, hF, hT⟩ hn1; dsimp only at hI1 h0 h1 hl hF hT hn1 ⊢; by_cases hi : i < (d1.length : Int)
    · rw [decide_eq_true hi, cond_true, zbL ⟨h0, hi⟩]; (have hin : i.toNat < d1.length := by omega); refine zhz (σ := List GDomain × Bool) (I := fun m s => InvR R d0 s.1 ∧ s.1.length = d.length ∧ m ≤ (nth s.1 i.toNat).Channels.length ∧ (s.2 = false → s.1 = d ∧ (∀ j : Nat, (j : Int) < i → ∀ c ∈ (nth d j).Channels, R d (nth d j).Station c = false) ∧ ∀ k, m ≤ k → k < (nth d i.toNat).Channels.length → R d (nth d i.toNat).Station (nth (nth d i.toNat).Channels k) = false) ∧ (s.2 = true → totG s.1 < totG d)) (post := post) ?_ ?_ ?_
      · dsimp only; refine ⟨hI1, hl, Nat.le_refl _, fun h => ?_, hT⟩; obtain ⟨h2, h3⟩ := hF h; subst h2; exact ⟨rfl, h3, fun k h4 h5 => absurd h5 (by omega)⟩
      · rintro ⟨d2, ag2⟩ ⟨g1, g2, _, g4, g5⟩; dsimp only at g1 g2 g4 g5 ⊢; refine hn1 _ ⟨g1, by dsimp only; omega, by dsimp only; omega, g2, fun h => ?_, g5⟩ (by dsimp only; omega); dsimp only at h; obtain ⟨h2, h3, h4⟩ := g4 h; refine ⟨h2, fun j hj c hc => ?_⟩; dsimp only at hj; by_cases hji : (j : Int) < i
        · exact h3 j hji c hc
        · (obtain rfl : j = i.toNat := by omega); obtain ⟨k, hk, rfl⟩ := zb2 hc; exact h4 k (Nat.zero_le _) hk
      · rintro k ⟨d2, ag2⟩ nx hk ⟨g1, g2, g3, g4, g5⟩ hnx; dsimp only at g1 g2 g3 g4 g5 hnx ⊢; (have hid : i.toNat < d2.length := by omega); rw [zbL ⟨h0, by omega⟩, zbL ⟨by omega, by omega⟩]
        cases hr : R d2 (nth d2 i.toNat).Station (nth (nth d2 i.toNat).Channels k) with
        | true =>
          rw [cond_true, zjk g1.bd.len (fun x hx => (g1.bd.ch x hx).1), Option.bind_some]; refine hnx _ ⟨g1.step hp hr, by dsimp only; rw [List.length_map]; exact g2, zhh g1.bd hid (by omega) rfl, (fun h => by cases h), fun _ => ?_⟩; dsimp only; have h6 := zjK hid rfl (zaR (show k < (nth d2 i.toNat).Channels.length by omega))
          cases ag2 with
          | true => have := g5 rfl; omega
          | false => obtain ⟨h7, _⟩ := g4 rfl; subst h7; exact h6
        | false =>
          rw [cond_false]; refine hnx _ ⟨g1, g2, by dsimp only; omega, fun h => ?_, g5⟩; dsimp only at h ⊢; obtain ⟨h7, h8, h9⟩ := g4 h; refine ⟨h7, h8, fun q h10 h11 => ?_⟩; rcases Nat.lt_or_ge k q with h12 | h12
          · exact h9 q h12 h11
          · (obtain rfl : q = k := by omega); subst h7; exact hr
    · rw [decide_eq_false hi, cond_false]; (have hil : i = d1.length := by omega); refine hn (d1, ag) ⟨hI1, fun h => ?_⟩ ?_
      · dsimp only at h ⊢; obtain ⟨h2, h3⟩ := hF h; subst h2; intro x hx c hc; obtain ⟨j, hj, rfl⟩ := zb2 hx; exact h3 j (by omega) c hc
      · dsimp only
        cases ag with
        | true => have := hT rfl; simp only [cond_true]; omega
        | false => obtain ⟨h2, _⟩ := hF rfl; subst h2; simp only [cond_true, cond_false]; omega
theorem MonoR.rem (hp:WtP p):MonoR (remP p):=fun _ _ _ _ h hr=>zfS hp h hr
theorem zge {fuel : Nat} {d0 : List GDomain} (hp : WtP p) (hb : Bd d0) (hf1 : d0.length < fuel) (hf2 : totG d0 + 1 < fuel) : ∃ r, zaG fuel p d0 = some r ∧ ziY p d0 r := by
  unfold zaG; simp only [za0, Nat.sub_zero, zhW]; refine zjG (R := remP p) (k2 := fun d => zav (fun (i : Nat) (next : Unit → Option (List GDomain × Bool)) (_ : Unit) => bif decide ((((nth d i).Channels).length : Int) = 0) then some ([], false) else next ()) (fun (_ : Unit) => some (d, true)) d.length 0 ()) (fun o => ∃ r, o = some r ∧ ziY p d0 r) (.rem hp) hb hf1 hf2 fun d hI hA => ?_
  -- the end: is a domain empty?
  refine zd7 (σ := Unit) (I := fun i _ => ∀ j, j < i → (nth d j).Channels ≠ []) (post := fun o => ∃ r, o = some r ∧ ziY p d0 r) (fun j hj => absurd hj (Nat.not_lt_zero j)) ?_ ?_
  · intro _ h; refine ⟨_, rfl, .inl ⟨rfl, ⟨fun x hx => ?_, hA⟩, ⟨hI.sub, hI.ord⟩, fun S hS => hI.sup S hS.calm⟩⟩; obtain ⟨i, hi, rfl⟩ := zb2 hx; exact h i hi
  · intro i _ nx hi h hnx; by_cases he : (nth d i).Channels = []
    · rw [he]; refine ⟨_, rfl, .inr ⟨rfl, fun S hS hs => ?_⟩⟩; have h2 := hI.sup S hS.calm hs; have h3 := (h2.2 i hi).2; rw [he] at h3; have hm := zaR (show i < S.length by rw [h2.1]; exact hi); apply hS.ne _ hm
      cases hc : (nth S i).Channels with
      | nil => rfl
      | cons c r => exact absurd (h3 c (by rw [hc]; simp)) (by simp)
    · have : ¬ ((nth d i).Channels.length : Int) = 0 := fun h0 => he (List.eq_nil_of_length_eq_zero (by omega)); rw [decide_eq_false this, cond_false]; refine hnx () (fun j hj => ?_); rcases Nat.lt_or_ge j i with h1 | h1
      · exact h j h1
      · rw [show j = i by omega]; exact he
end
def inB (n a b:Int):Bool:=decide (a≤n)&&decide (n≤b)
def rngB (lo hi:Int):Bool:=decide (2≤lo)&&(decide (lo≤hi)&&decide (hi≤51))
def Ie (z:Int):List Value:=[.int .i64 z]
abbrev zdV (w:World)(v:Value)(l:List Int):Prop:=SlOf w v Ie 1 l
structure Dx where
 st:Int
 v:Value
 chs:List Int
instance:Inhabited Dx:=⟨⟨0, .slice none 0 0,[]⟩⟩
def Dx.cells (d:Dx):List Value:=[.int .i64 d.st,d.v]
structure Pr where
 a:Int
 b:Int
 off:Int
 lo:Int
 hi:Int
deriving DecidableEq,Inhabited
def Pr.cells (x:Pr):List Value:=[.int .i64 x.a, .int .i64 x.b, .int .i64 x.off, .int .i64 x.lo, .int .i64 x.hi]
structure Ld where
 to:Int
 fr:Int
 wt:Int
 lo:Int
 hi:Int
deriving DecidableEq,Inhabited
def Ld.cells (x:Ld):List Value:=[.int .i64 x.to, .int .i64 x.fr, .int .i64 x.wt, .int .i64 x.lo, .int .i64 x.hi]
structure Cp where
 st:Int
 mx:Int
 lo:Int
 hi:Int
deriving DecidableEq,Inhabited
def Cp.cells (x:Cp):List Value:=[.int .i64 x.st, .int .i64 x.mx, .int .i64 x.lo, .int .i64 x.hi]
structure Ch where
 st:Int
 ch:Int
deriving DecidableEq,Inhabited
def Ch.cells (x:Ch):List Value:=[.int .i64 x.st, .int .i64 x.ch]
abbrev PrsAt (w:World)(v:Value)(l:List Pr):Prop:=SlOf w v Pr.cells 5 l
abbrev LdsAt (w:World)(v:Value)(l:List Ld):Prop:=SlOf w v Ld.cells 5 l
abbrev CpsAt (w:World)(v:Value)(l:List Cp):Prop:=SlOf w v Cp.cells 4 l
structure DomsAt (w:World) (v:Value) (l:List Dx):Prop where
 sl:SlOf w v Dx.cells 2 l
 each:∀d∈l,zdV w d.v d.chs
theorem SlOf.one {α:Type}{w:World}{v:Value}{enc:α→List Value}{size:Nat}{xs:List α}(h:SlOf w v enc size xs):OneC v:=by
 obtain ⟨A,cap,rfl,_⟩:=h;exact inferInstance
theorem zaI {α:Type}[Inhabited α]{xs:List α}{k:Nat}(h:k<xs.length):nth xs k∈xs:=by rw [zam h];exact List.getElem_mem _
theorem DomsAt.at {w:World}{v:Value}{l:List Dx}(h:DomsAt w v l){k:Nat}(hk:k<l.length):zdV w (nth l k).v (nth l k).chs:=h.each _ (zaI hk)
theorem DomsAt.kept {B w:World}{hs:HS}{v:Value}{l:List Dx}(hw:Hp B (fun _=>False) hs w)(h:DomsAt B v l):DomsAt w v l:=⟨h.sl.kept hw,fun d hd=>(h.each d hd).kept hw⟩
structure Pb where
 ds:List Dx
 ps:List Pr
 ls:List Ld
 cs:List Cp
structure RulesAt (w:World) (vp vl vc:Value) (P:Pb):Prop where
 ps:PrsAt w vp P.ps
 ls:LdsAt w vl P.ls
 cs:CpsAt w vc P.cs
 hps:P.ps.length≤9223372036854775807
 hls:P.ls.length≤9223372036854775807
 hcs:P.cs.length≤9223372036854775807
structure ProbAt (w:World) (vd vp vl vc:Value) (P:Pb):Prop where
 ds:DomsAt w vd P.ds
 ru:RulesAt w vp vl vc P
 hds:P.ds.length≤9223372036854775807
 hch:∀d∈P.ds,d.chs.length≤9223372036854775807
theorem RulesAt.kept {B w:World}{hs:HS}{vp vl vc:Value}{P:Pb}(hw:Hp B (fun _=>False) hs w)(h:RulesAt B vp vl vc P):RulesAt w vp vl vc P:=⟨h.ps.kept hw,h.ls.kept hw,h.cs.kept hw,h.hps,h.hls,h.hcs⟩
theorem ProbAt.kept {B w:World}{hs:HS}{vd vp vl vc:Value}{P:Pb}(hw:Hp B (fun _=>False) hs w)(h:ProbAt B vd vp vl vc P):ProbAt w vd vp vl vc P:=⟨h.ds.kept hw,h.ru.kept hw,h.hds,h.hch⟩
def cmpI (a b:Int):Int:=if a<b then -1 else if b<a then 1 else 0
def incB {α:Type}[Inhabited α](c:α→α→Int)(xs:List α):Bool:=(List.range xs.length).all fun k=>decide (k=0)|| !decide (0≤c (nth xs (k - 1)) (nth xs k))
def allB {α:Type}[Inhabited α](q:α→Bool)(xs:List α):Bool:=(List.range xs.length).all fun k=>q (nth xs k)
def orL:List Int→Int
 | []=>0
 |x :: r=>if x=0 then orL r else x
theorem zgM {l:List Int}{k:Nat}(h:k<l.length):orL (l.drop k)=if nth l k=0 then orL (l.drop (k+1)) else nth l k:=by
 rw [List.drop_eq_getElem_cons h,zam h];rfl
theorem zbJ (n a b:Int)(w:World):Calls Tryd.prog 29 #[.int .i64 n, .int .i64 a, .int .i64 b] w fun e w'=>e= .returned (.bool (inB n a b))∧Below w.heap.size w w':=by
 refine zaa (M:=fun _=>False) (hs:=[]) Tryd.func29 rfl rfl rfl (Hp.refl _ _) ?_;refine T.sr ?_;refine TL.run 1 rfl ?_;refine TL.nx ?_;refine TL.run 4 rfl ?_;refine TL.ak rfl rfl rfl (fun h1=>?_) (fun h1=>?_)
 ·have p1:=h1; (try simp only [nfB] at p1);refine TL.yv (Wt.some rfl rfl rfl h1) rfl rfl (Yv.au rfl) ?_;refine TL.yv (Wt.some rfl rfl rfl h1) rfl rfl (Yv.au rfl) ?_;refine TL.yv (Wt.some rfl rfl rfl h1) rfl rfl (Yv.au rfl) ?_;refine TL.y (Yv.am rfl rfl h1 rfl) ?_;refine TL.run 1 rfl ?_;refine TL.ns (T.ret ?_);refine K.ah rfl rfl (fun w' hw=>⟨?_,hw.isBelow⟩);exact zae (by simp only [inB, *,Bool.not_true,Bool.not_false,Bool.or_false,Bool.false_or,Bool.or_true,Bool.true_or,Bool.and_false,Bool.false_and,Bool.true_and,Bool.and_true,Bool.or_self,Bool.and_self,Bool.not_not,decide_true,decide_false,not_true_eq_false,not_false_eq_true,cond_true,cond_false])
 ·have p1:=h1; (try simp only [nfB] at p1);refine TL.off (Wt.not rfl rfl rfl h1) rfl rfl ?_;refine TL.off (Wt.not rfl rfl rfl h1) rfl rfl ?_;refine TL.off (Wt.not rfl rfl rfl h1) rfl rfl ?_;refine TL.y (Yv.an rfl rfl h1 rfl) ?_;refine TL.run 1 rfl ?_;refine TL.ns (T.ret ?_);refine K.ah rfl rfl (fun w' hw=>⟨?_,hw.isBelow⟩);exact zae (by simp only [inB, *,Bool.not_true,Bool.not_false,Bool.or_false,Bool.false_or,Bool.or_true,Bool.true_or,Bool.and_false,Bool.false_and,Bool.true_and,Bool.and_true,Bool.or_self,Bool.and_self,Bool.not_not,decide_true,decide_false,not_true_eq_false,not_false_eq_true,cond_true,cond_false])
theorem zbb (n:Int)(w:World):Calls Tryd.prog 28 #[.int .i64 n] w fun e w'=>e= .returned (.bool (inB n 0 511))∧Below w.heap.size w w':=by
 refine zaa (M:=fun _=>False) (hs:=[]) Tryd.func28 rfl rfl rfl (Hp.refl _ _) ?_;refine T.sr ?_;refine TL.run 1 rfl ?_;refine TL.nx ?_;refine TL.run 1 rfl ?_; (refine TL.ew (Wt.none rfl) rfl rfl (Ew.af rfl rfl rfl (fun w hw=>zbJ _ _ _ _)) ?_;rintro _ _ ⟨rfl,rfl⟩);refine TL.run 1 rfl ?_;refine TL.ns (T.ret ?_);refine K.ah rfl rfl (fun w' hw=>⟨?_,hw.isBelow⟩)
 rfl
theorem zcW (lo hi:Int)(w:World):Calls Tryd.prog 86 #[.int .i64 lo, .int .i64 hi] w fun e w'=>e= .returned (.bool (rngB lo hi))∧Below w.heap.size w w':=by
 refine zaa (M:=fun _=>False) (hs:=[]) Tryd.func86 rfl rfl rfl (Hp.refl _ _) ?_;refine T.sr ?_;refine TL.run 1 rfl ?_;refine TL.nx ?_;refine TL.run 3 rfl ?_;refine TL.ak rfl rfl rfl (fun h1=>?_) (fun h1=>?_)
 ·have p1:=h1; (try simp only [nfB] at p1);refine TL.yv (Wt.some rfl rfl rfl h1) rfl rfl (Yv.au rfl) ?_;refine TL.yv (Wt.some rfl rfl rfl h1) rfl rfl (Yv.au rfl) ?_;refine TL.yv (Wt.some rfl rfl rfl h1) rfl rfl (Yv.au rfl) ?_;refine TL.y (Yv.am rfl rfl h1 rfl) ?_;refine TL.run 1 rfl ?_;refine TL.ak rfl rfl rfl (fun h2=>?_) (fun h2=>?_)
  ·have p2:=h2; (try simp only [nfB] at p2);refine TL.yv (Wt.some rfl rfl rfl h2) rfl rfl (Yv.au rfl) ?_;refine TL.yv (Wt.some rfl rfl rfl h2) rfl rfl (Yv.au rfl) ?_;refine TL.y (Yv.am rfl rfl h2 rfl) ?_;refine TL.run 1 rfl ?_;refine TL.ns (T.ret ?_);refine K.ah rfl rfl (fun w' hw=>⟨?_,hw.isBelow⟩);exact zae (by simp only [rngB, *,Bool.not_true,Bool.not_false,Bool.or_false,Bool.false_or,Bool.or_true,Bool.true_or,Bool.and_false,Bool.false_and,Bool.true_and,Bool.and_true,Bool.or_self,Bool.and_self,Bool.not_not,decide_true,decide_false,not_true_eq_false,not_false_eq_true,cond_true,cond_false])
  ·have p2:=h2; (try simp only [nfB] at p2);refine TL.off (Wt.not rfl rfl rfl h2) rfl rfl ?_;refine TL.off (Wt.not rfl rfl rfl h2) rfl rfl ?_;refine TL.y (Yv.an rfl rfl h2 rfl) ?_;refine TL.run 1 rfl ?_;refine TL.ns (T.ret ?_);refine K.ah rfl rfl (fun w' hw=>⟨?_,hw.isBelow⟩);exact zae (by simp only [rngB, *,Bool.not_true,Bool.not_false,Bool.or_false,Bool.false_or,Bool.or_true,Bool.true_or,Bool.and_false,Bool.false_and,Bool.true_and,Bool.and_true,Bool.or_self,Bool.and_self,Bool.not_not,decide_true,decide_false,not_true_eq_false,not_false_eq_true,cond_true,cond_false])
 ·have p1:=h1; (try simp only [nfB] at p1);refine TL.off (Wt.not rfl rfl rfl h1) rfl rfl ?_;refine TL.off (Wt.not rfl rfl rfl h1) rfl rfl ?_;refine TL.off (Wt.not rfl rfl rfl h1) rfl rfl ?_;refine TL.y (Yv.an rfl rfl h1 rfl) ?_;refine TL.run 5 rfl ?_;refine TL.ns (T.ret ?_);refine K.ah rfl rfl (fun w' hw=>⟨?_,hw.isBelow⟩);exact zae (by simp only [rngB, *,Bool.not_true,Bool.not_false,Bool.or_false,Bool.false_or,Bool.or_true,Bool.true_or,Bool.and_false,Bool.false_and,Bool.true_and,Bool.and_true,Bool.or_self,Bool.and_self,Bool.not_not,decide_true,decide_false,not_true_eq_false,not_false_eq_true,cond_true,cond_false])
theorem zfK (n:Int)(w:World):Calls Tryd.prog 79 #[.int .i64 n] w fun e w'=>e= .returned (.bool false)∧Below w.heap.size w w':=by
 refine zaa (M:=fun _=>False) (hs:=[]) Tryd.func79 rfl rfl rfl (Hp.refl _ _) ?_;refine T.sr ?_;refine TL.run 1 rfl ?_;refine TL.nx ?_;refine TL.run 4 rfl ?_;refine TL.ns (T.ret ?_);refine K.ah rfl rfl (fun w' hw=>⟨?_,hw.isBelow⟩);exact zae (by simp)
theorem zax (a b:Int)(w:World):Calls Tryd.prog 50 #[.int .i64 a, .int .i64 b] w fun e w'=>e= .returned (.int .i64 (cmpI a b))∧Below w.heap.size w w':=by
 refine zaa (M:=fun _=>False) (hs:=[]) Tryd.func50 rfl rfl rfl (Hp.refl _ _) ?_;refine T.sr ?_;refine TL.run 1 rfl ?_;refine TL.nx ?_;refine TL.run 1 rfl ?_; (refine TL.ew (Wt.none rfl) rfl rfl (Ew.af rfl rfl rfl (fun w hw=>zfK _ _)) ?_;rintro _ _ ⟨rfl,rfl⟩);refine TL.run 1 rfl ?_;refine TL.nx ?_;refine TL.run 1 rfl ?_; (refine TL.ew (Wt.none rfl) rfl rfl (Ew.af rfl rfl rfl (fun w hw=>zfK _ _)) ?_;rintro _ _ ⟨rfl,rfl⟩);refine TL.run 1 rfl ?_;refine TL.ns (T.seq (T.sr ?_));refine TL.run 1 rfl ?_;refine TL.ns ?_;refine T.aE rfl rfl ?_;refine T.skip (K.seq (T.seq (T.sr ?_)));refine TL.run 1 rfl ?_;refine TL.ns ?_;refine T.aE rfl rfl ?_;refine T.skip (K.seq (T.seq (T.sr ?_)));refine TL.run 3 rfl ?_;refine TL.ns ?_;refine T.cond rfl (fun h1=>?_) (fun h1=>?_)
 ·have p1:=h1; (try simp only [nfB] at p1);refine T.sr ?_;refine TL.run 1 rfl ?_;refine TL.ns (T.ret (K.aa ?_));refine K.ah rfl rfl (fun w' hw=>⟨?_,hw.isBelow⟩);exact zbA (by simp only [cmpI]; (repeat split) <;> omega)
 ·have p1:=h1; (try simp only [nfB] at p1);refine T.skip (K.seq (T.seq (T.sr ?_)));refine TL.run 3 rfl ?_;refine TL.ns ?_;refine T.cond rfl (fun h2=>?_) (fun h2=>?_)
  ·have p2:=h2; (try simp only [nfB] at p2);refine T.sr ?_;refine TL.run 1 rfl ?_;refine TL.ns (T.ret (K.aa ?_));refine K.ah rfl rfl (fun w' hw=>⟨?_,hw.isBelow⟩);exact zbA (by simp only [cmpI]; (repeat split) <;> omega)
  ·have p2:=h2; (try simp only [nfB] at p2);refine T.skip (K.seq (T.sr ?_));refine TL.run 1 rfl ?_;refine TL.ns (T.ret ?_);refine K.ah rfl rfl (fun w' hw=>⟨?_,hw.isBelow⟩);exact zbA (by simp only [cmpI]; (repeat split) <;> omega)
theorem zhH (l:List Int)(v:Value)(w:World)(h:zdV w v l)(hl:l.length≤9223372036854775807):Calls Tryd.prog 87 #[v] w fun e w'=>e= .returned (.int .i64 (orL l))∧Below w.heap.size w w':=by
 obtain ⟨A,cap,rfl,hsl⟩:=h.op;refine zaa (M:=fun _=>False) (hs:=[]) Tryd.func87 rfl rfl rfl (Hp.refl _ _) ?_;refine T.sr ?_;refine TL.run 1 rfl ?_;refine TL.nx ?_;refine TL.run 1 rfl ?_;refine TL.ns (T.seq (T.sr ?_));refine TL.run 1 rfl ?_;refine TL.y (Yv.aq rfl rfl) ?_;refine TL.run 1 rfl ?_;refine TL.ns (T.block ?_);refine T.loop (ι:=Nat) (fun k=>[(3, .int .i64 0),(6, .slice A l.length cap),(7, .int .i64 (l.length:Int)),(8, .int .i64 (k:Int))]) (fun k=>[]) (fun k=>k≤l.length∧orL (l.drop k)=orL l) (fun k=>l.length - k) 0 ?_ ?_ ?_ ?_
 ·exact ⟨by omega,rfl⟩
 ·exact (by repeat (first|exact Sub.nil|refine Sub.cons rfl ?_))
 ·exact Sx
 ·intro k hphi;obtain ⟨hkl,hor⟩:=hphi;refine T.sr ?_;refine TL.run 1 rfl ?_;refine TL.ns (T.seq ?_);refine T.cond rfl (fun h1=>?_) (fun h1=>?_)
  ·have p1:=h1; (try simp only [nfB] at p1);obtain ⟨g,off,rfl,hc⟩:=hsl (by omega);have hk:=hc k (by omega);simp only [Ie] at hk;refine T.skip (K.seq (T.seq (T.block (T.sr ?_))));refine TL.y (Yv.ag rfl rfl rfl rfl (by omega)) ?_;refine TL.y (Yv.loadC (j:=0) rfl rfl hk rfl rfl (fun h=>h)) ?_;refine TL.run 1 rfl ?_;refine TL.nx ?_;refine TL.run 3 rfl ?_;refine TL.ns ?_;refine T.cond rfl (fun h2=>?_) (fun h2=>?_)
   ·have p2:=h2; (try simp only [nfB] at p2);refine T.sr ?_;refine TL.run 2 rfl ?_;refine TL.ns (T.ret (K.ai (K.aa (K.aa (K.ai (K.aa ?_))))));refine K.ah rfl rfl (fun w' hw=>⟨?_,hw.isBelow⟩);exact zbA (by rw [zgM (by omega),if_neg (by assumption)] at hor;exact hor)
   ·have p2:=h2; (try simp only [nfB] at p2);refine T.skip (K.ad (K.seq (T.region ?_)));refine TL.y (Yv.al rfl rfl rfl (by omega)) ?_;refine TL.run 1 rfl ?_;refine TL.nil ?_;exact K.next (k+1) ⟨by omega,by rw [zgM (by omega),if_pos (by assumption)] at hor;exact hor⟩ (by omega) (by repeat (first|exact Sub.nil|refine Sub.cons rfl ?_)) Sx
  ·have p1:=h1; (try simp only [nfB] at p1);refine T.exit (K.ab (K.ab (K.ae (K.seq (T.sr ?_)))));refine TL.run 2 rfl ?_;refine TL.ns (T.ret ?_);refine K.ah rfl rfl (fun w' hw=>⟨?_,hw.isBelow⟩);exact zbA (by rw [List.drop_eq_nil_of_le (by omega)] at hor;exact hor)
theorem zi4 {q:Dx→Bool}(xs:List Dx)(v:Value)(f:FuncId)(caps:Array Value)(w:World)(h:SlOf w v Dx.cells 2 xs)(ho1:∀k,k<xs.length→OneC (nth xs k).v)[hE:Enters Tryd.prog f](hC:∀k,k<xs.length→∀w',Below w.heap.size w w'→Calls Tryd.prog f (.agg (Dx.cells (nth xs k)).toArray :: caps.toList).toArray w' fun e w''=>e= .returned (.bool (q (nth xs k)))∧Below w'.heap.size w' w'')(hl:xs.length≤9223372036854775807):Calls Tryd.prog 46 #[v, .func (.func f) #[] caps] w fun e w'=>e= .returned (.bool (allB q xs))∧Below w.heap.size w w':=by
 obtain ⟨A,cap,rfl,hsl⟩:=h.op;refine zaa (M:=fun _=>False) (hs:=[]) Tryd.func46 rfl rfl rfl (Hp.refl _ _) ?_;refine T.sr ?_;refine TL.run 1 rfl ?_;refine TL.ns (T.seq (T.sr ?_));refine TL.run 1 rfl ?_;refine TL.y (Yv.aq rfl rfl) ?_;refine TL.run 1 rfl ?_;refine TL.ns (T.block ?_);refine T.loop (ι:=Nat) (fun k=>[(1, .func (.func f) #[] caps),(7, .slice A xs.length cap),(8, .int .i64 (xs.length:Int)),(9, .int .i64 (k:Int))]) (fun k=>[]) (fun k=>k≤xs.length∧∀j,j<k→q (nth xs j)=true) (fun k=>xs.length - k) 0 ?_ ?_ ?_ ?_
 ·exact ⟨by omega,fun j hj=>by omega⟩
 ·exact (by repeat (first|exact Sub.nil|refine Sub.cons rfl ?_))
 ·exact Sx
 ·intro k hphi;obtain ⟨hkl,hall⟩:=hphi;refine T.sr ?_;refine TL.run 1 rfl ?_;refine TL.ns (T.seq ?_);refine T.cond rfl (fun h1=>?_) (fun h1=>?_)
  ·have p1:=h1; (try simp only [nfB] at p1);obtain ⟨g,off,rfl,hc⟩:=hsl (by omega);have hk:=hc k (by omega);haveI:=ho1 k (by omega);simp only [Dx.cells] at hk;refine T.skip (K.seq (T.seq (T.block (T.sr ?_))));refine TL.y (Yv.ag rfl rfl rfl rfl (by omega)) ?_;refine TL.y (Yv.av rfl rfl hk rfl (fun h=>h)) ?_; (refine TL.ew (Wt.none rfl) rfl rfl (Ew.alloc rfl) ?_;rintro _ _ ⟨g6,rfl,rfl⟩); (refine TL.ax (Wt.none rfl) rfl (Ew.aj 0 rfl rfl rfl rfl rfl rfl) ?_;rintro _ _ ⟨rfl,rfl⟩);refine TL.nx ?_;refine TL.run 1 rfl ?_;refine TL.y (Yv.ao 0 rfl rfl rfl rfl) ?_; (refine TL.ew (Wt.none rfl) rfl rfl (Ew.bi rfl rfl rfl (fun w hw=>hC k (by omega) w hw.isBelow)) ?_;rintro _ _ ⟨rfl,rfl⟩);refine TL.run 1 rfl ?_;refine TL.ns ?_;refine T.cond rfl (fun h2=>?_) (fun h2=>?_)
   ·have p2:=h2; (try simp only [nfB] at p2);refine T.sr ?_;refine TL.run 1 rfl ?_;refine TL.ns (T.ret (K.ai (K.aa (K.aa (K.ai (K.aa ?_))))));refine K.ah rfl rfl (fun w' hw=>⟨?_,hw.isBelow⟩);exact zae (zaX (f:=fun k=>q (nth xs k)) k (by omega) (by simpa using p2)).symm
   ·have p2:=h2; (try simp only [nfB] at p2);refine T.skip (K.ad (K.seq (T.region ?_)));refine TL.y (Yv.al rfl rfl rfl (by omega)) ?_;refine TL.run 1 rfl ?_;refine TL.nil ?_;exact K.next (k+1) ⟨by omega,zcw hall (by simpa using p2)⟩ (by omega) (by repeat (first|exact Sub.nil|refine Sub.cons rfl ?_)) Sx
  ·have p1:=h1; (try simp only [nfB] at p1);refine T.exit (K.ab (K.ab (K.ae (K.seq (T.sr ?_)))));refine TL.run 1 rfl ?_;refine TL.ns (T.ret ?_);refine K.ah rfl rfl (fun w' hw=>⟨?_,hw.isBelow⟩);exact zae (zcA (f:=fun k=>q (nth xs k)) hall (by omega)).symm
theorem zeZ {c:Dx→Dx→Int}(xs:List Dx)(v:Value)(f:FuncId)(w:World)(h:SlOf w v Dx.cells 2 xs)(ho1:∀k,k<xs.length→OneC (nth xs k).v)[hE:Enters Tryd.prog f](hC:∀x y:Dx,OneC x.v→OneC y.v→∀w':World,Calls Tryd.prog f #[.agg (Dx.cells (x)).toArray, .agg (Dx.cells (y)).toArray] w' fun e w''=>e= .returned (.int .i64 (c x y))∧Below w'.heap.size w' w'')(hl:xs.length≤9223372036854775807):Calls Tryd.prog 51 #[v, .func (.func f) #[] #[]] w fun e w'=>e= .returned (.bool (incB c xs))∧Below w.heap.size w w':=by
 obtain ⟨A,cap,rfl,hsl⟩:=h.op;refine zaa (M:=fun _=>False) (hs:=[]) Tryd.func51 rfl rfl rfl (Hp.refl _ _) ?_;refine T.sr ?_;refine TL.run 1 rfl ?_;refine TL.ns (T.seq (T.sr ?_));refine TL.run 1 rfl ?_;refine TL.ns (T.block ?_);refine T.loop (ι:=Nat) (fun k=>[(0, .slice A xs.length cap),(1, .func (.func f) #[] #[]),(5, .int .i64 (k:Int))]) (fun k=>[]) (fun k=>1≤k∧∀j,j<k→j<xs.length→(decide (j=0)|| !decide (0≤c (nth xs (j - 1)) (nth xs j)))=true) (fun k=>xs.length - k) 1 ?_ ?_ ?_ ?_
 ·exact ⟨by omega,fun j hj _=>by rw [show j=0 from by omega];rfl⟩
 ·exact (by repeat (first|exact Sub.nil|refine Sub.cons rfl ?_))
 ·exact Sx
 ·intro k hphi;obtain ⟨hk0,hall⟩:=hphi;refine T.seq (T.sr ?_);refine TL.run 2 rfl ?_;refine TL.y (Yv.aq rfl rfl) ?_;refine TL.run 1 rfl ?_;refine TL.ns ?_;refine T.cond rfl (fun h1=>?_) (fun h1=>?_)
  ·have p1:=h1; (try simp only [nfB] at p1);obtain ⟨g,off,rfl,hc⟩:=hsl (by omega);have hk:=hc k (by omega);have hk1:=hc (k - 1) (by omega);have o1:=ho1 k (by omega);have o2:=ho1 (k - 1) (by omega);simp only [Dx.cells] at hk hk1;refine T.skip (K.seq (T.seq (T.block (T.seq ?_))));refine T.ay (.still 0 (.still 1 (.still 2 (.still 3 (.still 4 (.still 5 (.still 6 (.still 7 (.still 8 (.still 9 (.eff 10 (.still 11 .done)))))))))))) _ (by kernel_rfl) (List.Sublist.refl _) ?_;refine TS.run 3 rfl ?_;refine TS.y rfl (Yv.aL rfl rfl rfl (by omega)) ?_;refine TS.y rfl (Yv.ag rfl rfl rfl (show (k:Int) - 1=((k - 1:Nat):Int) from by omega) (by omega)) ?_;refine TS.y rfl (Yv.av rfl rfl hk1 rfl (fun h=>h)) ?_;refine TS.run 2 rfl ?_;refine TS.y rfl (Yv.ag rfl rfl rfl rfl (by omega)) ?_;refine TS.y rfl (Yv.av rfl rfl hk rfl (fun h=>h)) ?_;refine TS.eff ?_; (refine TSo.ew rfl (Wt.none rfl) rfl rfl (Ew.af rfl rfl rfl (fun w hw=>hC (nth xs (k - 1)) (nth xs k) o2 o1 w)) ?_;rintro _ _ ⟨rfl,rfl⟩;refine ⟨Sx,?_⟩);refine TS.run 1 rfl ?_;refine TS.done ?_;refine K.seq ?_;refine T.cond rfl (fun h2=>?_) (fun h2=>?_)
   ·have p2:=h2; (try simp only [nfB] at p2);refine T.sr ?_;refine TL.run 1 rfl ?_;refine TL.ns (T.ret (K.ai (K.aa (K.aa (K.ai (K.aa ?_))))));refine K.ah rfl rfl (fun w' hw=>⟨?_,hw.isBelow⟩);exact zae (zaX (f:=fun k=>decide (k=0)|| !decide (0≤c (nth xs (k - 1)) (nth xs k))) k (by omega) (by rw [decide_eq_false (show ¬k=0 by omega)];simpa using p2)).symm
   ·have p2:=h2; (try simp only [nfB] at p2);refine T.skip (K.ad (K.seq (T.region ?_)));refine TL.run 1 rfl ?_;refine TL.y (Yv.al rfl rfl rfl (by omega)) ?_;refine TL.run 1 rfl ?_;refine TL.nil ?_;exact K.next (k+1) ⟨by omega,fun j hj hjl=>by rcases Nat.lt_or_ge j k with hh|hh;exact hall j hh hjl;rw [show j=k from by omega,decide_eq_false (by omega)];simpa using p2⟩ (by omega) (by repeat (first|exact Sub.nil|refine Sub.cons rfl ?_)) Sx
  ·have p1:=h1; (try simp only [nfB] at p1);refine T.exit (K.ab (K.ab (K.ae (K.seq (T.sr ?_)))));refine TL.run 1 rfl ?_;refine TL.ns (T.ret ?_);refine K.ah rfl rfl (fun w' hw=>⟨?_,hw.isBelow⟩);exact zae (zbH (f:=fun k=>decide (k=0)|| !decide (0≤c (nth xs (k - 1)) (nth xs k))) (fun j hj=>hall j (by omega) hj)).symm
theorem zhw {q:Pr→Bool}(xs:List Pr)(v:Value)(f:FuncId)(caps:Array Value)(w:World)(h:SlOf w v Pr.cells 5 xs)[hE:Enters Tryd.prog f](hC:∀k,k<xs.length→∀w',Below w.heap.size w w'→Calls Tryd.prog f (.agg (Pr.cells (nth xs k)).toArray :: caps.toList).toArray w' fun e w''=>e= .returned (.bool (q (nth xs k)))∧Below w'.heap.size w' w'')(hl:xs.length≤9223372036854775807):Calls Tryd.prog 53 #[v, .func (.func f) #[] caps] w fun e w'=>e= .returned (.bool (allB q xs))∧Below w.heap.size w w':=by
 obtain ⟨A,cap,rfl,hsl⟩:=h.op;refine zaa (M:=fun _=>False) (hs:=[]) Tryd.func53 rfl rfl rfl (Hp.refl _ _) ?_;refine T.sr ?_;refine TL.run 1 rfl ?_;refine TL.ns (T.seq (T.sr ?_));refine TL.run 1 rfl ?_;refine TL.y (Yv.aq rfl rfl) ?_;refine TL.run 1 rfl ?_;refine TL.ns (T.block ?_);refine T.loop (ι:=Nat) (fun k=>[(1, .func (.func f) #[] caps),(7, .slice A xs.length cap),(8, .int .i64 (xs.length:Int)),(9, .int .i64 (k:Int))]) (fun k=>[]) (fun k=>k≤xs.length∧∀j,j<k→q (nth xs j)=true) (fun k=>xs.length - k) 0 ?_ ?_ ?_ ?_
 ·exact ⟨by omega,fun j hj=>by omega⟩
 ·exact (by repeat (first|exact Sub.nil|refine Sub.cons rfl ?_))
 ·exact Sx
 ·intro k hphi;obtain ⟨hkl,hall⟩:=hphi;refine T.sr ?_;refine TL.run 1 rfl ?_;refine TL.ns (T.seq ?_);refine T.cond rfl (fun h1=>?_) (fun h1=>?_)
  ·have p1:=h1; (try simp only [nfB] at p1);obtain ⟨g,off,rfl,hc⟩:=hsl (by omega);have hk:=hc k (by omega);simp only [Pr.cells] at hk;refine T.skip (K.seq (T.seq (T.block (T.sr ?_))));refine TL.y (Yv.ag rfl rfl rfl rfl (by omega)) ?_;refine TL.y (Yv.av rfl rfl hk rfl (fun h=>h)) ?_; (refine TL.ew (Wt.none rfl) rfl rfl (Ew.alloc rfl) ?_;rintro _ _ ⟨g6,rfl,rfl⟩); (refine TL.ax (Wt.none rfl) rfl (Ew.aj 0 rfl rfl rfl rfl rfl rfl) ?_;rintro _ _ ⟨rfl,rfl⟩);refine TL.nx ?_;refine TL.run 1 rfl ?_;refine TL.y (Yv.ao 0 rfl rfl rfl rfl) ?_; (refine TL.ew (Wt.none rfl) rfl rfl (Ew.bi rfl rfl rfl (fun w hw=>hC k (by omega) w hw.isBelow)) ?_;rintro _ _ ⟨rfl,rfl⟩);refine TL.run 1 rfl ?_;refine TL.ns ?_;refine T.cond rfl (fun h2=>?_) (fun h2=>?_)
   ·have p2:=h2; (try simp only [nfB] at p2);refine T.sr ?_;refine TL.run 1 rfl ?_;refine TL.ns (T.ret (K.ai (K.aa (K.aa (K.ai (K.aa ?_))))));refine K.ah rfl rfl (fun w' hw=>⟨?_,hw.isBelow⟩);exact zae (zaX (f:=fun k=>q (nth xs k)) k (by omega) (by simpa using p2)).symm
   ·have p2:=h2; (try simp only [nfB] at p2);refine T.skip (K.ad (K.seq (T.region ?_)));refine TL.y (Yv.al rfl rfl rfl (by omega)) ?_;refine TL.run 1 rfl ?_;refine TL.nil ?_;exact K.next (k+1) ⟨by omega,zcw hall (by simpa using p2)⟩ (by omega) (by repeat (first|exact Sub.nil|refine Sub.cons rfl ?_)) Sx
  ·have p1:=h1; (try simp only [nfB] at p1);refine T.exit (K.ab (K.ab (K.ae (K.seq (T.sr ?_)))));refine TL.run 1 rfl ?_;refine TL.ns (T.ret ?_);refine K.ah rfl rfl (fun w' hw=>⟨?_,hw.isBelow⟩);exact zae (zcA (f:=fun k=>q (nth xs k)) hall (by omega)).symm
theorem ze8 {c:Pr→Pr→Int}(xs:List Pr)(v:Value)(f:FuncId)(w:World)(h:SlOf w v Pr.cells 5 xs)[hE:Enters Tryd.prog f](hC:∀x y:Pr,∀w':World,Calls Tryd.prog f #[.agg (Pr.cells (x)).toArray, .agg (Pr.cells (y)).toArray] w' fun e w''=>e= .returned (.int .i64 (c x y))∧Below w'.heap.size w' w'')(hl:xs.length≤9223372036854775807):Calls Tryd.prog 71 #[v, .func (.func f) #[] #[]] w fun e w'=>e= .returned (.bool (incB c xs))∧Below w.heap.size w w':=by
 obtain ⟨A,cap,rfl,hsl⟩:=h.op;refine zaa (M:=fun _=>False) (hs:=[]) Tryd.func71 rfl rfl rfl (Hp.refl _ _) ?_;refine T.sr ?_;refine TL.run 1 rfl ?_;refine TL.ns (T.seq (T.sr ?_));refine TL.run 1 rfl ?_;refine TL.ns (T.block ?_);refine T.loop (ι:=Nat) (fun k=>[(0, .slice A xs.length cap),(1, .func (.func f) #[] #[]),(5, .int .i64 (k:Int))]) (fun k=>[]) (fun k=>1≤k∧∀j,j<k→j<xs.length→(decide (j=0)|| !decide (0≤c (nth xs (j - 1)) (nth xs j)))=true) (fun k=>xs.length - k) 1 ?_ ?_ ?_ ?_
 ·exact ⟨by omega,fun j hj _=>by rw [show j=0 from by omega];rfl⟩
 ·exact (by repeat (first|exact Sub.nil|refine Sub.cons rfl ?_))
 ·exact Sx
 ·intro k hphi;obtain ⟨hk0,hall⟩:=hphi;refine T.seq (T.sr ?_);refine TL.run 2 rfl ?_;refine TL.y (Yv.aq rfl rfl) ?_;refine TL.run 1 rfl ?_;refine TL.ns ?_;refine T.cond rfl (fun h1=>?_) (fun h1=>?_)
  ·have p1:=h1; (try simp only [nfB] at p1);obtain ⟨g,off,rfl,hc⟩:=hsl (by omega);have hk:=hc k (by omega);have hk1:=hc (k - 1) (by omega);simp only [Pr.cells] at hk hk1;refine T.skip (K.seq (T.seq (T.block (T.seq ?_))));refine T.ay (.still 0 (.still 1 (.still 2 (.still 3 (.still 4 (.still 5 (.still 6 (.still 7 (.still 8 (.still 9 (.eff 10 (.still 11 .done)))))))))))) _ (by kernel_rfl) (List.Sublist.refl _) ?_;refine TS.run 3 rfl ?_;refine TS.y rfl (Yv.aL rfl rfl rfl (by omega)) ?_;refine TS.y rfl (Yv.ag rfl rfl rfl (show (k:Int) - 1=((k - 1:Nat):Int) from by omega) (by omega)) ?_;refine TS.y rfl (Yv.av rfl rfl hk1 rfl (fun h=>h)) ?_;refine TS.run 2 rfl ?_;refine TS.y rfl (Yv.ag rfl rfl rfl rfl (by omega)) ?_;refine TS.y rfl (Yv.av rfl rfl hk rfl (fun h=>h)) ?_;refine TS.eff ?_; (refine TSo.ew rfl (Wt.none rfl) rfl rfl (Ew.af rfl rfl rfl (fun w hw=>hC (nth xs (k - 1)) (nth xs k) w)) ?_;rintro _ _ ⟨rfl,rfl⟩;refine ⟨Sx,?_⟩);refine TS.run 1 rfl ?_;refine TS.done ?_;refine K.seq ?_;refine T.cond rfl (fun h2=>?_) (fun h2=>?_)
   ·have p2:=h2; (try simp only [nfB] at p2);refine T.sr ?_;refine TL.run 1 rfl ?_;refine TL.ns (T.ret (K.ai (K.aa (K.aa (K.ai (K.aa ?_))))));refine K.ah rfl rfl (fun w' hw=>⟨?_,hw.isBelow⟩);exact zae (zaX (f:=fun k=>decide (k=0)|| !decide (0≤c (nth xs (k - 1)) (nth xs k))) k (by omega) (by rw [decide_eq_false (show ¬k=0 by omega)];simpa using p2)).symm
   ·have p2:=h2; (try simp only [nfB] at p2);refine T.skip (K.ad (K.seq (T.region ?_)));refine TL.run 1 rfl ?_;refine TL.y (Yv.al rfl rfl rfl (by omega)) ?_;refine TL.run 1 rfl ?_;refine TL.nil ?_;exact K.next (k+1) ⟨by omega,fun j hj hjl=>by rcases Nat.lt_or_ge j k with hh|hh;exact hall j hh hjl;rw [show j=k from by omega,decide_eq_false (by omega)];simpa using p2⟩ (by omega) (by repeat (first|exact Sub.nil|refine Sub.cons rfl ?_)) Sx
  ·have p1:=h1; (try simp only [nfB] at p1);refine T.exit (K.ab (K.ab (K.ae (K.seq (T.sr ?_)))));refine TL.run 1 rfl ?_;refine TL.ns (T.ret ?_);refine K.ah rfl rfl (fun w' hw=>⟨?_,hw.isBelow⟩);exact zae (zbH (f:=fun k=>decide (k=0)|| !decide (0≤c (nth xs (k - 1)) (nth xs k))) (fun j hj=>hall j (by omega) hj)).symm
theorem zhY {q:Ld→Bool}(xs:List Ld)(v:Value)(f:FuncId)(caps:Array Value)(w:World)(h:SlOf w v Ld.cells 5 xs)[hE:Enters Tryd.prog f](hC:∀k,k<xs.length→∀w',Below w.heap.size w w'→Calls Tryd.prog f (.agg (Ld.cells (nth xs k)).toArray :: caps.toList).toArray w' fun e w''=>e= .returned (.bool (q (nth xs k)))∧Below w'.heap.size w' w'')(hl:xs.length≤9223372036854775807):Calls Tryd.prog 56 #[v, .func (.func f) #[] caps] w fun e w'=>e= .returned (.bool (allB q xs))∧Below w.heap.size w w':=by
 obtain ⟨A,cap,rfl,hsl⟩:=h.op;refine zaa (M:=fun _=>False) (hs:=[]) Tryd.func56 rfl rfl rfl (Hp.refl _ _) ?_;refine T.sr ?_;refine TL.run 1 rfl ?_;refine TL.ns (T.seq (T.sr ?_));refine TL.run 1 rfl ?_;refine TL.y (Yv.aq rfl rfl) ?_;refine TL.run 1 rfl ?_;refine TL.ns (T.block ?_);refine T.loop (ι:=Nat) (fun k=>[(1, .func (.func f) #[] caps),(7, .slice A xs.length cap),(8, .int .i64 (xs.length:Int)),(9, .int .i64 (k:Int))]) (fun k=>[]) (fun k=>k≤xs.length∧∀j,j<k→q (nth xs j)=true) (fun k=>xs.length - k) 0 ?_ ?_ ?_ ?_
 ·exact ⟨by omega,fun j hj=>by omega⟩
 ·exact (by repeat (first|exact Sub.nil|refine Sub.cons rfl ?_))
 ·exact Sx
 ·intro k hphi;obtain ⟨hkl,hall⟩:=hphi;refine T.sr ?_;refine TL.run 1 rfl ?_;refine TL.ns (T.seq ?_);refine T.cond rfl (fun h1=>?_) (fun h1=>?_)
  ·have p1:=h1; (try simp only [nfB] at p1);obtain ⟨g,off,rfl,hc⟩:=hsl (by omega);have hk:=hc k (by omega);simp only [Ld.cells] at hk;refine T.skip (K.seq (T.seq (T.block (T.sr ?_))));refine TL.y (Yv.ag rfl rfl rfl rfl (by omega)) ?_;refine TL.y (Yv.av rfl rfl hk rfl (fun h=>h)) ?_; (refine TL.ew (Wt.none rfl) rfl rfl (Ew.alloc rfl) ?_;rintro _ _ ⟨g6,rfl,rfl⟩); (refine TL.ax (Wt.none rfl) rfl (Ew.aj 0 rfl rfl rfl rfl rfl rfl) ?_;rintro _ _ ⟨rfl,rfl⟩);refine TL.nx ?_;refine TL.run 1 rfl ?_;refine TL.y (Yv.ao 0 rfl rfl rfl rfl) ?_; (refine TL.ew (Wt.none rfl) rfl rfl (Ew.bi rfl rfl rfl (fun w hw=>hC k (by omega) w hw.isBelow)) ?_;rintro _ _ ⟨rfl,rfl⟩);refine TL.run 1 rfl ?_;refine TL.ns ?_;refine T.cond rfl (fun h2=>?_) (fun h2=>?_)
   ·have p2:=h2; (try simp only [nfB] at p2);refine T.sr ?_;refine TL.run 1 rfl ?_;refine TL.ns (T.ret (K.ai (K.aa (K.aa (K.ai (K.aa ?_))))));refine K.ah rfl rfl (fun w' hw=>⟨?_,hw.isBelow⟩);exact zae (zaX (f:=fun k=>q (nth xs k)) k (by omega) (by simpa using p2)).symm
   ·have p2:=h2; (try simp only [nfB] at p2);refine T.skip (K.ad (K.seq (T.region ?_)));refine TL.y (Yv.al rfl rfl rfl (by omega)) ?_;refine TL.run 1 rfl ?_;refine TL.nil ?_;exact K.next (k+1) ⟨by omega,zcw hall (by simpa using p2)⟩ (by omega) (by repeat (first|exact Sub.nil|refine Sub.cons rfl ?_)) Sx
  ·have p1:=h1; (try simp only [nfB] at p1);refine T.exit (K.ab (K.ab (K.ae (K.seq (T.sr ?_)))));refine TL.run 1 rfl ?_;refine TL.ns (T.ret ?_);refine K.ah rfl rfl (fun w' hw=>⟨?_,hw.isBelow⟩);exact zae (zcA (f:=fun k=>q (nth xs k)) hall (by omega)).symm
theorem zfp {c:Ld→Ld→Int}(xs:List Ld)(v:Value)(f:FuncId)(w:World)(h:SlOf w v Ld.cells 5 xs)[hE:Enters Tryd.prog f](hC:∀x y:Ld,∀w':World,Calls Tryd.prog f #[.agg (Ld.cells (x)).toArray, .agg (Ld.cells (y)).toArray] w' fun e w''=>e= .returned (.int .i64 (c x y))∧Below w'.heap.size w' w'')(hl:xs.length≤9223372036854775807):Calls Tryd.prog 74 #[v, .func (.func f) #[] #[]] w fun e w'=>e= .returned (.bool (incB c xs))∧Below w.heap.size w w':=by
 obtain ⟨A,cap,rfl,hsl⟩:=h.op;refine zaa (M:=fun _=>False) (hs:=[]) Tryd.func74 rfl rfl rfl (Hp.refl _ _) ?_;refine T.sr ?_;refine TL.run 1 rfl ?_;refine TL.ns (T.seq (T.sr ?_));refine TL.run 1 rfl ?_;refine TL.ns (T.block ?_);refine T.loop (ι:=Nat) (fun k=>[(0, .slice A xs.length cap),(1, .func (.func f) #[] #[]),(5, .int .i64 (k:Int))]) (fun k=>[]) (fun k=>1≤k∧∀j,j<k→j<xs.length→(decide (j=0)|| !decide (0≤c (nth xs (j - 1)) (nth xs j)))=true) (fun k=>xs.length - k) 1 ?_ ?_ ?_ ?_
 ·exact ⟨by omega,fun j hj _=>by rw [show j=0 from by omega];rfl⟩
 ·exact (by repeat (first|exact Sub.nil|refine Sub.cons rfl ?_))
 ·exact Sx
 ·intro k hphi;obtain ⟨hk0,hall⟩:=hphi;refine T.seq (T.sr ?_);refine TL.run 2 rfl ?_;refine TL.y (Yv.aq rfl rfl) ?_;refine TL.run 1 rfl ?_;refine TL.ns ?_;refine T.cond rfl (fun h1=>?_) (fun h1=>?_)
  ·have p1:=h1; (try simp only [nfB] at p1);obtain ⟨g,off,rfl,hc⟩:=hsl (by omega);have hk:=hc k (by omega);have hk1:=hc (k - 1) (by omega);simp only [Ld.cells] at hk hk1;refine T.skip (K.seq (T.seq (T.block (T.seq ?_))));refine T.ay (.still 0 (.still 1 (.still 2 (.still 3 (.still 4 (.still 5 (.still 6 (.still 7 (.still 8 (.still 9 (.eff 10 (.still 11 .done)))))))))))) _ (by kernel_rfl) (List.Sublist.refl _) ?_;refine TS.run 3 rfl ?_;refine TS.y rfl (Yv.aL rfl rfl rfl (by omega)) ?_;refine TS.y rfl (Yv.ag rfl rfl rfl (show (k:Int) - 1=((k - 1:Nat):Int) from by omega) (by omega)) ?_;refine TS.y rfl (Yv.av rfl rfl hk1 rfl (fun h=>h)) ?_;refine TS.run 2 rfl ?_;refine TS.y rfl (Yv.ag rfl rfl rfl rfl (by omega)) ?_;refine TS.y rfl (Yv.av rfl rfl hk rfl (fun h=>h)) ?_;refine TS.eff ?_; (refine TSo.ew rfl (Wt.none rfl) rfl rfl (Ew.af rfl rfl rfl (fun w hw=>hC (nth xs (k - 1)) (nth xs k) w)) ?_;rintro _ _ ⟨rfl,rfl⟩;refine ⟨Sx,?_⟩);refine TS.run 1 rfl ?_;refine TS.done ?_;refine K.seq ?_;refine T.cond rfl (fun h2=>?_) (fun h2=>?_)
   ·have p2:=h2; (try simp only [nfB] at p2);refine T.sr ?_;refine TL.run 1 rfl ?_;refine TL.ns (T.ret (K.ai (K.aa (K.aa (K.ai (K.aa ?_))))));refine K.ah rfl rfl (fun w' hw=>⟨?_,hw.isBelow⟩);exact zae (zaX (f:=fun k=>decide (k=0)|| !decide (0≤c (nth xs (k - 1)) (nth xs k))) k (by omega) (by rw [decide_eq_false (show ¬k=0 by omega)];simpa using p2)).symm
   ·have p2:=h2; (try simp only [nfB] at p2);refine T.skip (K.ad (K.seq (T.region ?_)));refine TL.run 1 rfl ?_;refine TL.y (Yv.al rfl rfl rfl (by omega)) ?_;refine TL.run 1 rfl ?_;refine TL.nil ?_;exact K.next (k+1) ⟨by omega,fun j hj hjl=>by rcases Nat.lt_or_ge j k with hh|hh;exact hall j hh hjl;rw [show j=k from by omega,decide_eq_false (by omega)];simpa using p2⟩ (by omega) (by repeat (first|exact Sub.nil|refine Sub.cons rfl ?_)) Sx
  ·have p1:=h1; (try simp only [nfB] at p1);refine T.exit (K.ab (K.ab (K.ae (K.seq (T.sr ?_)))));refine TL.run 1 rfl ?_;refine TL.ns (T.ret ?_);refine K.ah rfl rfl (fun w' hw=>⟨?_,hw.isBelow⟩);exact zae (zbH (f:=fun k=>decide (k=0)|| !decide (0≤c (nth xs (k - 1)) (nth xs k))) (fun j hj=>hall j (by omega) hj)).symm
theorem zih {q:Cp→Bool}(xs:List Cp)(v:Value)(f:FuncId)(caps:Array Value)(w:World)(h:SlOf w v Cp.cells 4 xs)[hE:Enters Tryd.prog f](hC:∀k,k<xs.length→∀w',Below w.heap.size w w'→Calls Tryd.prog f (.agg (Cp.cells (nth xs k)).toArray :: caps.toList).toArray w' fun e w''=>e= .returned (.bool (q (nth xs k)))∧Below w'.heap.size w' w'')(hl:xs.length≤9223372036854775807):Calls Tryd.prog 58 #[v, .func (.func f) #[] caps] w fun e w'=>e= .returned (.bool (allB q xs))∧Below w.heap.size w w':=by
 obtain ⟨A,cap,rfl,hsl⟩:=h.op;refine zaa (M:=fun _=>False) (hs:=[]) Tryd.func58 rfl rfl rfl (Hp.refl _ _) ?_;refine T.sr ?_;refine TL.run 1 rfl ?_;refine TL.ns (T.seq (T.sr ?_));refine TL.run 1 rfl ?_;refine TL.y (Yv.aq rfl rfl) ?_;refine TL.run 1 rfl ?_;refine TL.ns (T.block ?_);refine T.loop (ι:=Nat) (fun k=>[(1, .func (.func f) #[] caps),(7, .slice A xs.length cap),(8, .int .i64 (xs.length:Int)),(9, .int .i64 (k:Int))]) (fun k=>[]) (fun k=>k≤xs.length∧∀j,j<k→q (nth xs j)=true) (fun k=>xs.length - k) 0 ?_ ?_ ?_ ?_
 ·exact ⟨by omega,fun j hj=>by omega⟩
 ·exact (by repeat (first|exact Sub.nil|refine Sub.cons rfl ?_))
 ·exact Sx
 ·intro k hphi;obtain ⟨hkl,hall⟩:=hphi;refine T.sr ?_;refine TL.run 1 rfl ?_;refine TL.ns (T.seq ?_);refine T.cond rfl (fun h1=>?_) (fun h1=>?_)
  ·have p1:=h1; (try simp only [nfB] at p1);obtain ⟨g,off,rfl,hc⟩:=hsl (by omega);have hk:=hc k (by omega);simp only [Cp.cells] at hk;refine T.skip (K.seq (T.seq (T.block (T.sr ?_))));refine TL.y (Yv.ag rfl rfl rfl rfl (by omega)) ?_;refine TL.y (Yv.av rfl rfl hk rfl (fun h=>h)) ?_; (refine TL.ew (Wt.none rfl) rfl rfl (Ew.alloc rfl) ?_;rintro _ _ ⟨g6,rfl,rfl⟩); (refine TL.ax (Wt.none rfl) rfl (Ew.aj 0 rfl rfl rfl rfl rfl rfl) ?_;rintro _ _ ⟨rfl,rfl⟩);refine TL.nx ?_;refine TL.run 1 rfl ?_;refine TL.y (Yv.ao 0 rfl rfl rfl rfl) ?_; (refine TL.ew (Wt.none rfl) rfl rfl (Ew.bi rfl rfl rfl (fun w hw=>hC k (by omega) w hw.isBelow)) ?_;rintro _ _ ⟨rfl,rfl⟩);refine TL.run 1 rfl ?_;refine TL.ns ?_;refine T.cond rfl (fun h2=>?_) (fun h2=>?_)
   ·have p2:=h2; (try simp only [nfB] at p2);refine T.sr ?_;refine TL.run 1 rfl ?_;refine TL.ns (T.ret (K.ai (K.aa (K.aa (K.ai (K.aa ?_))))));refine K.ah rfl rfl (fun w' hw=>⟨?_,hw.isBelow⟩);exact zae (zaX (f:=fun k=>q (nth xs k)) k (by omega) (by simpa using p2)).symm
   ·have p2:=h2; (try simp only [nfB] at p2);refine T.skip (K.ad (K.seq (T.region ?_)));refine TL.y (Yv.al rfl rfl rfl (by omega)) ?_;refine TL.run 1 rfl ?_;refine TL.nil ?_;exact K.next (k+1) ⟨by omega,zcw hall (by simpa using p2)⟩ (by omega) (by repeat (first|exact Sub.nil|refine Sub.cons rfl ?_)) Sx
  ·have p1:=h1; (try simp only [nfB] at p1);refine T.exit (K.ab (K.ab (K.ae (K.seq (T.sr ?_)))));refine TL.run 1 rfl ?_;refine TL.ns (T.ret ?_);refine K.ah rfl rfl (fun w' hw=>⟨?_,hw.isBelow⟩);exact zae (zcA (f:=fun k=>q (nth xs k)) hall (by omega)).symm
theorem zft {c:Cp→Cp→Int}(xs:List Cp)(v:Value)(f:FuncId)(w:World)(h:SlOf w v Cp.cells 4 xs)[hE:Enters Tryd.prog f](hC:∀x y:Cp,∀w':World,Calls Tryd.prog f #[.agg (Cp.cells (x)).toArray, .agg (Cp.cells (y)).toArray] w' fun e w''=>e= .returned (.int .i64 (c x y))∧Below w'.heap.size w' w'')(hl:xs.length≤9223372036854775807):Calls Tryd.prog 77 #[v, .func (.func f) #[] #[]] w fun e w'=>e= .returned (.bool (incB c xs))∧Below w.heap.size w w':=by
 obtain ⟨A,cap,rfl,hsl⟩:=h.op;refine zaa (M:=fun _=>False) (hs:=[]) Tryd.func77 rfl rfl rfl (Hp.refl _ _) ?_;refine T.sr ?_;refine TL.run 1 rfl ?_;refine TL.ns (T.seq (T.sr ?_));refine TL.run 1 rfl ?_;refine TL.ns (T.block ?_);refine T.loop (ι:=Nat) (fun k=>[(0, .slice A xs.length cap),(1, .func (.func f) #[] #[]),(5, .int .i64 (k:Int))]) (fun k=>[]) (fun k=>1≤k∧∀j,j<k→j<xs.length→(decide (j=0)|| !decide (0≤c (nth xs (j - 1)) (nth xs j)))=true) (fun k=>xs.length - k) 1 ?_ ?_ ?_ ?_
 ·exact ⟨by omega,fun j hj _=>by rw [show j=0 from by omega];rfl⟩
 ·exact (by repeat (first|exact Sub.nil|refine Sub.cons rfl ?_))
 ·exact Sx
 ·intro k hphi;obtain ⟨hk0,hall⟩:=hphi;refine T.seq (T.sr ?_);refine TL.run 2 rfl ?_;refine TL.y (Yv.aq rfl rfl) ?_;refine TL.run 1 rfl ?_;refine TL.ns ?_;refine T.cond rfl (fun h1=>?_) (fun h1=>?_)
  ·have p1:=h1; (try simp only [nfB] at p1);obtain ⟨g,off,rfl,hc⟩:=hsl (by omega);have hk:=hc k (by omega);have hk1:=hc (k - 1) (by omega);simp only [Cp.cells] at hk hk1;refine T.skip (K.seq (T.seq (T.block (T.seq ?_))));refine T.ay (.still 0 (.still 1 (.still 2 (.still 3 (.still 4 (.still 5 (.still 6 (.still 7 (.still 8 (.still 9 (.eff 10 (.still 11 .done)))))))))))) _ (by kernel_rfl) (List.Sublist.refl _) ?_;refine TS.run 3 rfl ?_;refine TS.y rfl (Yv.aL rfl rfl rfl (by omega)) ?_;refine TS.y rfl (Yv.ag rfl rfl rfl (show (k:Int) - 1=((k - 1:Nat):Int) from by omega) (by omega)) ?_;refine TS.y rfl (Yv.av rfl rfl hk1 rfl (fun h=>h)) ?_;refine TS.run 2 rfl ?_;refine TS.y rfl (Yv.ag rfl rfl rfl rfl (by omega)) ?_;refine TS.y rfl (Yv.av rfl rfl hk rfl (fun h=>h)) ?_;refine TS.eff ?_; (refine TSo.ew rfl (Wt.none rfl) rfl rfl (Ew.af rfl rfl rfl (fun w hw=>hC (nth xs (k - 1)) (nth xs k) w)) ?_;rintro _ _ ⟨rfl,rfl⟩;refine ⟨Sx,?_⟩);refine TS.run 1 rfl ?_;refine TS.done ?_;refine K.seq ?_;refine T.cond rfl (fun h2=>?_) (fun h2=>?_)
   ·have p2:=h2; (try simp only [nfB] at p2);refine T.sr ?_;refine TL.run 1 rfl ?_;refine TL.ns (T.ret (K.ai (K.aa (K.aa (K.ai (K.aa ?_))))));refine K.ah rfl rfl (fun w' hw=>⟨?_,hw.isBelow⟩);exact zae (zaX (f:=fun k=>decide (k=0)|| !decide (0≤c (nth xs (k - 1)) (nth xs k))) k (by omega) (by rw [decide_eq_false (show ¬k=0 by omega)];simpa using p2)).symm
   ·have p2:=h2; (try simp only [nfB] at p2);refine T.skip (K.ad (K.seq (T.region ?_)));refine TL.run 1 rfl ?_;refine TL.y (Yv.al rfl rfl rfl (by omega)) ?_;refine TL.run 1 rfl ?_;refine TL.nil ?_;exact K.next (k+1) ⟨by omega,fun j hj hjl=>by rcases Nat.lt_or_ge j k with hh|hh;exact hall j hh hjl;rw [show j=k from by omega,decide_eq_false (by omega)];simpa using p2⟩ (by omega) (by repeat (first|exact Sub.nil|refine Sub.cons rfl ?_)) Sx
  ·have p1:=h1; (try simp only [nfB] at p1);refine T.exit (K.ab (K.ab (K.ae (K.seq (T.sr ?_)))));refine TL.run 1 rfl ?_;refine TL.ns (T.ret ?_);refine K.ah rfl rfl (fun w' hw=>⟨?_,hw.isBelow⟩);exact zae (zbH (f:=fun k=>decide (k=0)|| !decide (0≤c (nth xs (k - 1)) (nth xs k))) (fun j hj=>hall j (by omega) hj)).symm
theorem zi3 {q:Int→Bool}(xs:List Int)(v:Value)(f:FuncId)(caps:Array Value)(w:World)(h:SlOf w v Ie 1 xs)[hE:Enters Tryd.prog f](hC:∀k,k<xs.length→∀w',Below w.heap.size w w'→Calls Tryd.prog f (.int .i64 (nth xs k) :: caps.toList).toArray w' fun e w''=>e= .returned (.bool (q (nth xs k)))∧Below w'.heap.size w' w'')(hl:xs.length≤9223372036854775807):Calls Tryd.prog 68 #[v, .func (.func f) #[] caps] w fun e w'=>e= .returned (.bool (allB q xs))∧Below w.heap.size w w':=by
 obtain ⟨A,cap,rfl,hsl⟩:=h.op;refine zaa (M:=fun _=>False) (hs:=[]) Tryd.func68 rfl rfl rfl (Hp.refl _ _) ?_;refine T.sr ?_;refine TL.run 1 rfl ?_;refine TL.ns (T.seq (T.sr ?_));refine TL.run 1 rfl ?_;refine TL.y (Yv.aq rfl rfl) ?_;refine TL.run 1 rfl ?_;refine TL.ns (T.block ?_);refine T.loop (ι:=Nat) (fun k=>[(1, .func (.func f) #[] caps),(7, .slice A xs.length cap),(8, .int .i64 (xs.length:Int)),(9, .int .i64 (k:Int))]) (fun k=>[]) (fun k=>k≤xs.length∧∀j,j<k→q (nth xs j)=true) (fun k=>xs.length - k) 0 ?_ ?_ ?_ ?_
 ·exact ⟨by omega,fun j hj=>by omega⟩
 ·exact (by repeat (first|exact Sub.nil|refine Sub.cons rfl ?_))
 ·exact Sx
 ·intro k hphi;obtain ⟨hkl,hall⟩:=hphi;refine T.sr ?_;refine TL.run 1 rfl ?_;refine TL.ns (T.seq ?_);refine T.cond rfl (fun h1=>?_) (fun h1=>?_)
  ·have p1:=h1; (try simp only [nfB] at p1);obtain ⟨g,off,rfl,hc⟩:=hsl (by omega);have hk:=hc k (by omega);simp only [Ie] at hk;refine T.skip (K.seq (T.seq (T.block (T.sr ?_))));refine TL.y (Yv.ag rfl rfl rfl rfl (by omega)) ?_;refine TL.y (Yv.loadC (j:=0) rfl rfl hk rfl rfl (fun h=>h)) ?_;refine TL.run 1 rfl ?_;refine TL.nx ?_;refine TL.run 2 rfl ?_; (refine TL.ew (Wt.none rfl) rfl rfl (Ew.bi rfl rfl rfl (fun w hw=>hC k (by omega) w hw.isBelow)) ?_;rintro _ _ ⟨rfl,rfl⟩);refine TL.run 1 rfl ?_;refine TL.ns ?_;refine T.cond rfl (fun h2=>?_) (fun h2=>?_)
   ·have p2:=h2; (try simp only [nfB] at p2);refine T.sr ?_;refine TL.run 1 rfl ?_;refine TL.ns (T.ret (K.ai (K.aa (K.aa (K.ai (K.aa ?_))))));refine K.ah rfl rfl (fun w' hw=>⟨?_,hw.isBelow⟩);exact zae (zaX (f:=fun k=>q (nth xs k)) k (by omega) (by simpa using p2)).symm
   ·have p2:=h2; (try simp only [nfB] at p2);refine T.skip (K.ad (K.seq (T.region ?_)));refine TL.y (Yv.al rfl rfl rfl (by omega)) ?_;refine TL.run 1 rfl ?_;refine TL.nil ?_;exact K.next (k+1) ⟨by omega,zcw hall (by simpa using p2)⟩ (by omega) (by repeat (first|exact Sub.nil|refine Sub.cons rfl ?_)) Sx
  ·have p1:=h1; (try simp only [nfB] at p1);refine T.exit (K.ab (K.ab (K.ae (K.seq (T.sr ?_)))));refine TL.run 1 rfl ?_;refine TL.ns (T.ret ?_);refine K.ah rfl rfl (fun w' hw=>⟨?_,hw.isBelow⟩);exact zae (zcA (f:=fun k=>q (nth xs k)) hall (by omega)).symm
theorem zeR {c:Int→Int→Int}(xs:List Int)(v:Value)(f:FuncId)(w:World)(h:SlOf w v Ie 1 xs)[hE:Enters Tryd.prog f](hC:∀x y:Int,∀w':World,Calls Tryd.prog f #[.int .i64 (x), .int .i64 (y)] w' fun e w''=>e= .returned (.int .i64 (c x y))∧Below w'.heap.size w' w'')(hl:xs.length≤9223372036854775807):Calls Tryd.prog 69 #[v, .func (.func f) #[] #[]] w fun e w'=>e= .returned (.bool (incB c xs))∧Below w.heap.size w w':=by
 obtain ⟨A,cap,rfl,hsl⟩:=h.op;refine zaa (M:=fun _=>False) (hs:=[]) Tryd.func69 rfl rfl rfl (Hp.refl _ _) ?_;refine T.sr ?_;refine TL.run 1 rfl ?_;refine TL.ns (T.seq (T.sr ?_));refine TL.run 1 rfl ?_;refine TL.ns (T.block ?_);refine T.loop (ι:=Nat) (fun k=>[(0, .slice A xs.length cap),(1, .func (.func f) #[] #[]),(5, .int .i64 (k:Int))]) (fun k=>[]) (fun k=>1≤k∧∀j,j<k→j<xs.length→(decide (j=0)|| !decide (0≤c (nth xs (j - 1)) (nth xs j)))=true) (fun k=>xs.length - k) 1 ?_ ?_ ?_ ?_
 ·exact ⟨by omega,fun j hj _=>by rw [show j=0 from by omega];rfl⟩
 ·exact (by repeat (first|exact Sub.nil|refine Sub.cons rfl ?_))
 ·exact Sx
 ·intro k hphi;obtain ⟨hk0,hall⟩:=hphi;refine T.seq (T.sr ?_);refine TL.run 2 rfl ?_;refine TL.y (Yv.aq rfl rfl) ?_;refine TL.run 1 rfl ?_;refine TL.ns ?_;refine T.cond rfl (fun h1=>?_) (fun h1=>?_)
  ·have p1:=h1; (try simp only [nfB] at p1);obtain ⟨g,off,rfl,hc⟩:=hsl (by omega);have hk:=hc k (by omega);have hk1:=hc (k - 1) (by omega);simp only [Ie] at hk hk1;refine T.skip (K.seq (T.seq (T.block (T.seq ?_))));refine T.ay (.still 0 (.still 1 (.still 2 (.still 3 (.still 4 (.still 5 (.still 6 (.still 7 (.still 8 (.still 9 (.eff 10 (.still 11 .done)))))))))))) _ (by kernel_rfl) (List.Sublist.refl _) ?_;refine TS.run 3 rfl ?_;refine TS.y rfl (Yv.aL rfl rfl rfl (by omega)) ?_;refine TS.y rfl (Yv.ag rfl rfl rfl (show (k:Int) - 1=((k - 1:Nat):Int) from by omega) (by omega)) ?_;refine TS.y rfl (Yv.loadC (j:=0) rfl rfl hk1 rfl rfl (fun h=>h)) ?_;refine TS.run 2 rfl ?_;refine TS.y rfl (Yv.ag rfl rfl rfl rfl (by omega)) ?_;refine TS.y rfl (Yv.loadC (j:=0) rfl rfl hk rfl rfl (fun h=>h)) ?_;refine TS.eff ?_; (refine TSo.ew rfl (Wt.none rfl) rfl rfl (Ew.af rfl rfl rfl (fun w hw=>hC (nth xs (k - 1)) (nth xs k) w)) ?_;rintro _ _ ⟨rfl,rfl⟩;refine ⟨Sx,?_⟩);refine TS.run 1 rfl ?_;refine TS.done ?_;refine K.seq ?_;refine T.cond rfl (fun h2=>?_) (fun h2=>?_)
   ·have p2:=h2; (try simp only [nfB] at p2);refine T.sr ?_;refine TL.run 1 rfl ?_;refine TL.ns (T.ret (K.ai (K.aa (K.aa (K.ai (K.aa ?_))))));refine K.ah rfl rfl (fun w' hw=>⟨?_,hw.isBelow⟩);exact zae (zaX (f:=fun k=>decide (k=0)|| !decide (0≤c (nth xs (k - 1)) (nth xs k))) k (by omega) (by rw [decide_eq_false (show ¬k=0 by omega)];simpa using p2)).symm
   ·have p2:=h2; (try simp only [nfB] at p2);refine T.skip (K.ad (K.seq (T.region ?_)));refine TL.run 1 rfl ?_;refine TL.y (Yv.al rfl rfl rfl (by omega)) ?_;refine TL.run 1 rfl ?_;refine TL.nil ?_;exact K.next (k+1) ⟨by omega,fun j hj hjl=>by rcases Nat.lt_or_ge j k with hh|hh;exact hall j hh hjl;rw [show j=k from by omega,decide_eq_false (by omega)];simpa using p2⟩ (by omega) (by repeat (first|exact Sub.nil|refine Sub.cons rfl ?_)) Sx
  ·have p1:=h1; (try simp only [nfB] at p1);refine T.exit (K.ab (K.ab (K.ae (K.seq (T.sr ?_)))));refine TL.run 1 rfl ?_;refine TL.ns (T.ret ?_);refine K.ah rfl rfl (fun w' hw=>⟨?_,hw.isBelow⟩);exact zae (zbH (f:=fun k=>decide (k=0)|| !decide (0≤c (nth xs (k - 1)) (nth xs k))) (fun j hj=>hall j (by omega) hj)).symm
def Pr.ok (x:Pr):Bool:=inB x.a 0 511&&(inB x.b 0 511&&(decide (x.a<x.b)&&(inB x.off (-1) 1&&rngB x.lo x.hi)))
def Ld.ok (x:Ld):Bool:=inB x.to 0 511&&(inB x.fr 0 511&&(decide (¬x.to=x.fr)&&(inB x.wt 1 1073741824&&rngB x.lo x.hi)))
def Cp.ok (x:Cp):Bool:=inB x.st 0 511&&(inB x.mx 0 1099511627776&&rngB x.lo x.hi)
def Pr.cmp (x y:Pr):Int:=orL [cmpI x.a y.a,cmpI x.b y.b,cmpI x.off y.off,cmpI x.lo y.lo,cmpI x.hi y.hi]
def Ld.cmp (x y:Ld):Int:=orL [cmpI x.to y.to,cmpI x.fr y.fr,cmpI x.wt y.wt,cmpI x.lo y.lo,cmpI x.hi y.hi]
def Cp.cmp (x y:Cp):Int:=orL [cmpI x.st y.st,cmpI x.mx y.mx,cmpI x.lo y.lo,cmpI x.hi y.hi]
theorem zfI (x:Pr)(w:World):Calls Tryd.prog 70 #[.agg (Pr.cells x).toArray] w fun e w'=>e= .returned (.bool x.ok)∧Below w.heap.size w w':=by
 refine zaa (M:=fun _=>False) (hs:=[]) Tryd.func70 rfl rfl rfl (Hp.refl _ _) ?_;simp only [Pr.cells];refine T.sr ?_; (refine TL.ew (Wt.none rfl) rfl rfl (Ew.aA rfl rfl) ?_;rintro _ _ ⟨g1,rfl,rfl⟩);refine TL.run 1 rfl ?_;refine TL.nx ?_;refine TL.y (Yv.fieldAddr rfl rfl) ?_;refine TL.y (Yv.ac 0 rfl rfl rfl rfl) ?_; (refine TL.ew (Wt.none rfl) rfl rfl (Ew.af rfl rfl rfl (fun w hw=>zbb _ _)) ?_;rintro _ _ ⟨rfl,rfl⟩);refine TL.run 1 rfl ?_;refine TL.ak rfl rfl rfl (fun h1=>?_) (fun h1=>?_)
 ·have p1:=h1; (try simp only [nfB] at p1);refine TL.yv (Wt.some rfl rfl rfl h1) rfl rfl (Yv.fieldAddr rfl rfl) ?_;refine TL.yv (Wt.some rfl rfl rfl h1) rfl rfl (Yv.ac 0 rfl rfl rfl rfl) ?_; (refine TL.ew (Wt.some rfl rfl rfl h1) rfl rfl (Ew.af rfl rfl rfl (fun w hw=>zbb _ _)) ?_;rintro _ _ ⟨rfl,rfl⟩);refine TL.y (Yv.am rfl rfl h1 rfl) ?_;refine TL.run 1 rfl ?_;refine TL.ak rfl rfl rfl (fun h2=>?_) (fun h2=>?_)
  ·have p2:=h2; (try simp only [nfB] at p2);refine TL.yv (Wt.some rfl rfl rfl h2) rfl rfl (Yv.fieldAddr rfl rfl) ?_;refine TL.yv (Wt.some rfl rfl rfl h2) rfl rfl (Yv.ac 0 rfl rfl rfl rfl) ?_;refine TL.yv (Wt.some rfl rfl rfl h2) rfl rfl (Yv.fieldAddr rfl rfl) ?_;refine TL.yv (Wt.some rfl rfl rfl h2) rfl rfl (Yv.ac 0 rfl rfl rfl rfl) ?_;refine TL.yv (Wt.some rfl rfl rfl h2) rfl rfl (Yv.au rfl) ?_;refine TL.y (Yv.am rfl rfl h2 rfl) ?_;refine TL.run 1 rfl ?_;refine TL.ak rfl rfl rfl (fun h3=>?_) (fun h3=>?_)
   ·have p3:=h3; (try simp only [nfB] at p3);refine TL.yv (Wt.some rfl rfl rfl h3) rfl rfl (Yv.fieldAddr rfl rfl) ?_;refine TL.yv (Wt.some rfl rfl rfl h3) rfl rfl (Yv.ac 0 rfl rfl rfl rfl) ?_; (refine TL.ew (Wt.some rfl rfl rfl h3) rfl rfl (Ew.af rfl rfl rfl (fun w hw=>zbJ _ _ _ _)) ?_;rintro _ _ ⟨rfl,rfl⟩);refine TL.y (Yv.am rfl rfl h3 rfl) ?_;refine TL.run 1 rfl ?_;refine TL.ak rfl rfl rfl (fun h4=>?_) (fun h4=>?_)
    ·have p4:=h4; (try simp only [nfB] at p4);refine TL.yv (Wt.some rfl rfl rfl h4) rfl rfl (Yv.fieldAddr rfl rfl) ?_;refine TL.yv (Wt.some rfl rfl rfl h4) rfl rfl (Yv.ac 0 rfl rfl rfl rfl) ?_;refine TL.yv (Wt.some rfl rfl rfl h4) rfl rfl (Yv.fieldAddr rfl rfl) ?_;refine TL.yv (Wt.some rfl rfl rfl h4) rfl rfl (Yv.ac 0 rfl rfl rfl rfl) ?_; (refine TL.ew (Wt.some rfl rfl rfl h4) rfl rfl (Ew.af rfl rfl rfl (fun w hw=>zcW _ _ _)) ?_;rintro _ _ ⟨rfl,rfl⟩);refine TL.y (Yv.am rfl rfl h4 rfl) ?_;refine TL.run 1 rfl ?_;refine TL.ns (T.ret ?_);refine K.ah rfl rfl (fun w' hw=>⟨?_,hw.isBelow⟩);exact zae (by simp only [Pr.ok, *,Bool.not_true,Bool.not_false,Bool.or_false,Bool.false_or,Bool.or_true,Bool.true_or,Bool.and_false,Bool.false_and,Bool.true_and,Bool.and_true,Bool.or_self,Bool.and_self,Bool.not_not,decide_true,decide_false,not_true_eq_false,not_false_eq_true,cond_true,cond_false])
    ·have p4:=h4; (try simp only [nfB] at p4);refine TL.off (Wt.not rfl rfl rfl h4) rfl rfl ?_;refine TL.off (Wt.not rfl rfl rfl h4) rfl rfl ?_;refine TL.off (Wt.not rfl rfl rfl h4) rfl rfl ?_;refine TL.off (Wt.not rfl rfl rfl h4) rfl rfl ?_;refine TL.off (Wt.not rfl rfl rfl h4) rfl rfl ?_;refine TL.y (Yv.an rfl rfl h4 rfl) ?_;refine TL.run 1 rfl ?_;refine TL.ns (T.ret ?_);refine K.ah rfl rfl (fun w' hw=>⟨?_,hw.isBelow⟩);exact zae (by simp only [Pr.ok, *,Bool.not_true,Bool.not_false,Bool.or_false,Bool.false_or,Bool.or_true,Bool.true_or,Bool.and_false,Bool.false_and,Bool.true_and,Bool.and_true,Bool.or_self,Bool.and_self,Bool.not_not,decide_true,decide_false,not_true_eq_false,not_false_eq_true,cond_true,cond_false])
   ·have p3:=h3; (try simp only [nfB] at p3);refine TL.off (Wt.not rfl rfl rfl h3) rfl rfl ?_;refine TL.off (Wt.not rfl rfl rfl h3) rfl rfl ?_;refine TL.off (Wt.not rfl rfl rfl h3) rfl rfl ?_;refine TL.y (Yv.an rfl rfl h3 rfl) ?_;refine TL.run 8 rfl ?_;refine TL.ns (T.ret ?_);refine K.ah rfl rfl (fun w' hw=>⟨?_,hw.isBelow⟩);exact zae (by simp only [Pr.ok, *,Bool.not_true,Bool.not_false,Bool.or_false,Bool.false_or,Bool.or_true,Bool.true_or,Bool.and_false,Bool.false_and,Bool.true_and,Bool.and_true,Bool.or_self,Bool.and_self,Bool.not_not,decide_true,decide_false,not_true_eq_false,not_false_eq_true,cond_true,cond_false])
  ·have p2:=h2; (try simp only [nfB] at p2);refine TL.off (Wt.not rfl rfl rfl h2) rfl rfl ?_;refine TL.off (Wt.not rfl rfl rfl h2) rfl rfl ?_;refine TL.off (Wt.not rfl rfl rfl h2) rfl rfl ?_;refine TL.off (Wt.not rfl rfl rfl h2) rfl rfl ?_;refine TL.off (Wt.not rfl rfl rfl h2) rfl rfl ?_;refine TL.y (Yv.an rfl rfl h2 rfl) ?_;refine TL.run 13 rfl ?_;refine TL.ns (T.ret ?_);refine K.ah rfl rfl (fun w' hw=>⟨?_,hw.isBelow⟩);exact zae (by simp only [Pr.ok, *,Bool.not_true,Bool.not_false,Bool.or_false,Bool.false_or,Bool.or_true,Bool.true_or,Bool.and_false,Bool.false_and,Bool.true_and,Bool.and_true,Bool.or_self,Bool.and_self,Bool.not_not,decide_true,decide_false,not_true_eq_false,not_false_eq_true,cond_true,cond_false])
 ·have p1:=h1; (try simp only [nfB] at p1);refine TL.off (Wt.not rfl rfl rfl h1) rfl rfl ?_;refine TL.off (Wt.not rfl rfl rfl h1) rfl rfl ?_;refine TL.off (Wt.not rfl rfl rfl h1) rfl rfl ?_;refine TL.y (Yv.an rfl rfl h1 rfl) ?_;refine TL.run 20 rfl ?_;refine TL.ns (T.ret ?_);refine K.ah rfl rfl (fun w' hw=>⟨?_,hw.isBelow⟩);exact zae (by simp only [Pr.ok, *,Bool.not_true,Bool.not_false,Bool.or_false,Bool.false_or,Bool.or_true,Bool.true_or,Bool.and_false,Bool.false_and,Bool.true_and,Bool.and_true,Bool.or_self,Bool.and_self,Bool.not_not,decide_true,decide_false,not_true_eq_false,not_false_eq_true,cond_true,cond_false])
theorem zdJ (x y:Pr)(w:World):Calls Tryd.prog 72 #[.agg (Pr.cells x).toArray, .agg (Pr.cells y).toArray] w fun e w'=>e= .returned (.int .i64 (x.cmp y))∧Below w.heap.size w w':=by
 refine zaa (M:=fun _=>False) (hs:=[]) Tryd.func72 rfl rfl rfl (Hp.refl _ _) ?_;simp only [Pr.cells];refine T.sr ?_; (refine TL.ew (Wt.none rfl) rfl rfl (Ew.aA rfl rfl) ?_;rintro _ _ ⟨g2,rfl,rfl⟩); (refine TL.ew (Wt.none rfl) rfl rfl (Ew.aA rfl rfl) ?_;rintro _ _ ⟨g3,rfl,rfl⟩);refine TL.run 1 rfl ?_;refine TL.ns (T.seq ?_);refine T.ay (.still 0 (.still 1 (.still 2 (.still 3 (.still 5 (.still 6 (.still 7 (.still 8 (.still 10 (.still 11 (.still 12 (.still 13 (.still 15 (.still 16 (.still 17 (.still 18 (.still 20 (.still 21 (.still 22 (.still 23 (.eff 4 (.eff 9 (.eff 14 (.eff 19 (.eff 24 (.eff 25 (.eff 26 (.still 27 .done)))))))))))))))))))))))))))) _ (by kernel_rfl) (List.Sublist.refl _) ?_;refine TS.y rfl (Yv.fieldAddr rfl rfl) ?_;refine TS.y rfl (Yv.ac 1 rfl rfl rfl rfl) ?_;refine TS.y rfl (Yv.fieldAddr rfl rfl) ?_;refine TS.y rfl (Yv.ac 0 rfl rfl rfl rfl) ?_;refine TS.y rfl (Yv.fieldAddr rfl rfl) ?_;refine TS.y rfl (Yv.ac 1 rfl rfl rfl rfl) ?_;refine TS.y rfl (Yv.fieldAddr rfl rfl) ?_;refine TS.y rfl (Yv.ac 0 rfl rfl rfl rfl) ?_;refine TS.y rfl (Yv.fieldAddr rfl rfl) ?_;refine TS.y rfl (Yv.ac 1 rfl rfl rfl rfl) ?_;refine TS.y rfl (Yv.fieldAddr rfl rfl) ?_;refine TS.y rfl (Yv.ac 0 rfl rfl rfl rfl) ?_;refine TS.y rfl (Yv.fieldAddr rfl rfl) ?_;refine TS.y rfl (Yv.ac 1 rfl rfl rfl rfl) ?_;refine TS.y rfl (Yv.fieldAddr rfl rfl) ?_;refine TS.y rfl (Yv.ac 0 rfl rfl rfl rfl) ?_;refine TS.y rfl (Yv.fieldAddr rfl rfl) ?_;refine TS.y rfl (Yv.ac 1 rfl rfl rfl rfl) ?_;refine TS.y rfl (Yv.fieldAddr rfl rfl) ?_;refine TS.y rfl (Yv.ac 0 rfl rfl rfl rfl) ?_;refine TS.eff ?_; (refine TSo.ew rfl (Wt.none rfl) rfl rfl (Ew.af rfl rfl rfl (fun w hw=>zax _ _ _)) ?_;rintro _ _ ⟨rfl,rfl⟩;refine ⟨Sx,?_⟩);refine TS.eff ?_; (refine TSo.ew rfl (Wt.none rfl) rfl rfl (Ew.af rfl rfl rfl (fun w hw=>zax _ _ _)) ?_;rintro _ _ ⟨rfl,rfl⟩;refine ⟨Sx,?_⟩);refine TS.eff ?_; (refine TSo.ew rfl (Wt.none rfl) rfl rfl (Ew.af rfl rfl rfl (fun w hw=>zax _ _ _)) ?_;rintro _ _ ⟨rfl,rfl⟩;refine ⟨Sx,?_⟩);refine TS.eff ?_; (refine TSo.ew rfl (Wt.none rfl) rfl rfl (Ew.af rfl rfl rfl (fun w hw=>zax _ _ _)) ?_;rintro _ _ ⟨rfl,rfl⟩;refine ⟨Sx,?_⟩);refine TS.eff ?_; (refine TSo.ew rfl (Wt.none rfl) rfl rfl (Ew.af rfl rfl rfl (fun w hw=>zax _ _ _)) ?_;rintro _ _ ⟨rfl,rfl⟩;refine ⟨Sx,?_⟩);refine TS.eff ?_; (refine TSo.ew rfl (Wt.none rfl) rfl rfl (Ew.buildSlice rfl rfl rfl (by decide)) ?_;rintro _ _ ⟨g30,rfl,rfl⟩;refine ⟨Sx,?_⟩);refine TS.eff ?_; (refine TSo.ew rfl (Wt.none rfl) rfl rfl (Ew.af rfl rfl rfl (fun w hw=>zhH [cmpI x.a y.a,cmpI x.b y.b,cmpI x.off y.off,cmpI x.lo y.lo,cmpI x.hi y.hi] _ w (SlOf.lit (enc:=Ie) (size:=1) (fun _=>rfl) _ (Ent.row_ok.1 (hw.get (i:=0) rfl)) rfl rfl) (by simp))) ?_;rintro _ _ ⟨rfl,rfl⟩;refine ⟨Sx,?_⟩);refine TS.run 1 rfl ?_;refine TS.done ?_;refine K.seq (T.ret ?_);refine K.ah rfl rfl (fun w' hw=>⟨?_,hw.isBelow⟩)
 rfl
theorem zfv (x:Ld)(w:World):Calls Tryd.prog 73 #[.agg (Ld.cells x).toArray] w fun e w'=>e= .returned (.bool x.ok)∧Below w.heap.size w w':=by
 refine zaa (M:=fun _=>False) (hs:=[]) Tryd.func73 rfl rfl rfl (Hp.refl _ _) ?_;simp only [Ld.cells];refine T.sr ?_; (refine TL.ew (Wt.none rfl) rfl rfl (Ew.aA rfl rfl) ?_;rintro _ _ ⟨g1,rfl,rfl⟩);refine TL.run 1 rfl ?_;refine TL.nx ?_;refine TL.y (Yv.fieldAddr rfl rfl) ?_;refine TL.y (Yv.ac 0 rfl rfl rfl rfl) ?_; (refine TL.ew (Wt.none rfl) rfl rfl (Ew.af rfl rfl rfl (fun w hw=>zbb _ _)) ?_;rintro _ _ ⟨rfl,rfl⟩);refine TL.run 1 rfl ?_;refine TL.ak rfl rfl rfl (fun h1=>?_) (fun h1=>?_)
 ·have p1:=h1; (try simp only [nfB] at p1);refine TL.yv (Wt.some rfl rfl rfl h1) rfl rfl (Yv.fieldAddr rfl rfl) ?_;refine TL.yv (Wt.some rfl rfl rfl h1) rfl rfl (Yv.ac 0 rfl rfl rfl rfl) ?_; (refine TL.ew (Wt.some rfl rfl rfl h1) rfl rfl (Ew.af rfl rfl rfl (fun w hw=>zbb _ _)) ?_;rintro _ _ ⟨rfl,rfl⟩);refine TL.y (Yv.am rfl rfl h1 rfl) ?_;refine TL.run 1 rfl ?_;refine TL.ak rfl rfl rfl (fun h2=>?_) (fun h2=>?_)
  ·have p2:=h2; (try simp only [nfB] at p2);refine TL.yv (Wt.some rfl rfl rfl h2) rfl rfl (Yv.fieldAddr rfl rfl) ?_;refine TL.yv (Wt.some rfl rfl rfl h2) rfl rfl (Yv.ac 0 rfl rfl rfl rfl) ?_;refine TL.yv (Wt.some rfl rfl rfl h2) rfl rfl (Yv.fieldAddr rfl rfl) ?_;refine TL.yv (Wt.some rfl rfl rfl h2) rfl rfl (Yv.ac 0 rfl rfl rfl rfl) ?_;refine TL.yv (Wt.some rfl rfl rfl h2) rfl rfl (Yv.au rfl) ?_;refine TL.y (Yv.am rfl rfl h2 rfl) ?_;refine TL.run 1 rfl ?_;refine TL.ak rfl rfl rfl (fun h3=>?_) (fun h3=>?_)
   ·have p3:=h3; (try simp only [nfB] at p3);refine TL.yv (Wt.some rfl rfl rfl h3) rfl rfl (Yv.fieldAddr rfl rfl) ?_;refine TL.yv (Wt.some rfl rfl rfl h3) rfl rfl (Yv.ac 0 rfl rfl rfl rfl) ?_; (refine TL.ew (Wt.some rfl rfl rfl h3) rfl rfl (Ew.af rfl rfl rfl (fun w hw=>zbJ _ _ _ _)) ?_;rintro _ _ ⟨rfl,rfl⟩);refine TL.y (Yv.am rfl rfl h3 rfl) ?_;refine TL.run 1 rfl ?_;refine TL.ak rfl rfl rfl (fun h4=>?_) (fun h4=>?_)
    ·have p4:=h4; (try simp only [nfB] at p4);refine TL.yv (Wt.some rfl rfl rfl h4) rfl rfl (Yv.fieldAddr rfl rfl) ?_;refine TL.yv (Wt.some rfl rfl rfl h4) rfl rfl (Yv.ac 0 rfl rfl rfl rfl) ?_;refine TL.yv (Wt.some rfl rfl rfl h4) rfl rfl (Yv.fieldAddr rfl rfl) ?_;refine TL.yv (Wt.some rfl rfl rfl h4) rfl rfl (Yv.ac 0 rfl rfl rfl rfl) ?_; (refine TL.ew (Wt.some rfl rfl rfl h4) rfl rfl (Ew.af rfl rfl rfl (fun w hw=>zcW _ _ _)) ?_;rintro _ _ ⟨rfl,rfl⟩);refine TL.y (Yv.am rfl rfl h4 rfl) ?_;refine TL.run 1 rfl ?_;refine TL.ns (T.ret ?_);refine K.ah rfl rfl (fun w' hw=>⟨?_,hw.isBelow⟩);exact zae (by simp only [Ld.ok, *,Bool.not_true,Bool.not_false,Bool.or_false,Bool.false_or,Bool.or_true,Bool.true_or,Bool.and_false,Bool.false_and,Bool.true_and,Bool.and_true,Bool.or_self,Bool.and_self,Bool.not_not,decide_true,decide_false,not_true_eq_false,not_false_eq_true,cond_true,cond_false])
    ·have p4:=h4; (try simp only [nfB] at p4);refine TL.off (Wt.not rfl rfl rfl h4) rfl rfl ?_;refine TL.off (Wt.not rfl rfl rfl h4) rfl rfl ?_;refine TL.off (Wt.not rfl rfl rfl h4) rfl rfl ?_;refine TL.off (Wt.not rfl rfl rfl h4) rfl rfl ?_;refine TL.off (Wt.not rfl rfl rfl h4) rfl rfl ?_;refine TL.y (Yv.an rfl rfl h4 rfl) ?_;refine TL.run 1 rfl ?_;refine TL.ns (T.ret ?_);refine K.ah rfl rfl (fun w' hw=>⟨?_,hw.isBelow⟩);exact zae (by simp only [Ld.ok, *,Bool.not_true,Bool.not_false,Bool.or_false,Bool.false_or,Bool.or_true,Bool.true_or,Bool.and_false,Bool.false_and,Bool.true_and,Bool.and_true,Bool.or_self,Bool.and_self,Bool.not_not,decide_true,decide_false,not_true_eq_false,not_false_eq_true,cond_true,cond_false])
   ·have p3:=h3; (try simp only [nfB] at p3);refine TL.off (Wt.not rfl rfl rfl h3) rfl rfl ?_;refine TL.off (Wt.not rfl rfl rfl h3) rfl rfl ?_;refine TL.off (Wt.not rfl rfl rfl h3) rfl rfl ?_;refine TL.y (Yv.an rfl rfl h3 rfl) ?_;refine TL.run 8 rfl ?_;refine TL.ns (T.ret ?_);refine K.ah rfl rfl (fun w' hw=>⟨?_,hw.isBelow⟩);exact zae (by simp only [Ld.ok, *,Bool.not_true,Bool.not_false,Bool.or_false,Bool.false_or,Bool.or_true,Bool.true_or,Bool.and_false,Bool.false_and,Bool.true_and,Bool.and_true,Bool.or_self,Bool.and_self,Bool.not_not,decide_true,decide_false,not_true_eq_false,not_false_eq_true,cond_true,cond_false])
  ·have p2:=h2; (try simp only [nfB] at p2);refine TL.off (Wt.not rfl rfl rfl h2) rfl rfl ?_;refine TL.off (Wt.not rfl rfl rfl h2) rfl rfl ?_;refine TL.off (Wt.not rfl rfl rfl h2) rfl rfl ?_;refine TL.off (Wt.not rfl rfl rfl h2) rfl rfl ?_;refine TL.off (Wt.not rfl rfl rfl h2) rfl rfl ?_;refine TL.y (Yv.an rfl rfl h2 rfl) ?_;refine TL.run 13 rfl ?_;refine TL.ns (T.ret ?_);refine K.ah rfl rfl (fun w' hw=>⟨?_,hw.isBelow⟩);exact zae (by simp only [Ld.ok, *,Bool.not_true,Bool.not_false,Bool.or_false,Bool.false_or,Bool.or_true,Bool.true_or,Bool.and_false,Bool.false_and,Bool.true_and,Bool.and_true,Bool.or_self,Bool.and_self,Bool.not_not,decide_true,decide_false,not_true_eq_false,not_false_eq_true,cond_true,cond_false])
 ·have p1:=h1; (try simp only [nfB] at p1);refine TL.off (Wt.not rfl rfl rfl h1) rfl rfl ?_;refine TL.off (Wt.not rfl rfl rfl h1) rfl rfl ?_;refine TL.off (Wt.not rfl rfl rfl h1) rfl rfl ?_;refine TL.y (Yv.an rfl rfl h1 rfl) ?_;refine TL.run 20 rfl ?_;refine TL.ns (T.ret ?_);refine K.ah rfl rfl (fun w' hw=>⟨?_,hw.isBelow⟩);exact zae (by simp only [Ld.ok, *,Bool.not_true,Bool.not_false,Bool.or_false,Bool.false_or,Bool.or_true,Bool.true_or,Bool.and_false,Bool.false_and,Bool.true_and,Bool.and_true,Bool.or_self,Bool.and_self,Bool.not_not,decide_true,decide_false,not_true_eq_false,not_false_eq_true,cond_true,cond_false])
theorem zdH (x y:Ld)(w:World):Calls Tryd.prog 75 #[.agg (Ld.cells x).toArray, .agg (Ld.cells y).toArray] w fun e w'=>e= .returned (.int .i64 (x.cmp y))∧Below w.heap.size w w':=by
 refine zaa (M:=fun _=>False) (hs:=[]) Tryd.func75 rfl rfl rfl (Hp.refl _ _) ?_;simp only [Ld.cells];refine T.sr ?_; (refine TL.ew (Wt.none rfl) rfl rfl (Ew.aA rfl rfl) ?_;rintro _ _ ⟨g2,rfl,rfl⟩); (refine TL.ew (Wt.none rfl) rfl rfl (Ew.aA rfl rfl) ?_;rintro _ _ ⟨g3,rfl,rfl⟩);refine TL.run 1 rfl ?_;refine TL.ns (T.seq ?_);refine T.ay (.still 0 (.still 1 (.still 2 (.still 3 (.still 5 (.still 6 (.still 7 (.still 8 (.still 10 (.still 11 (.still 12 (.still 13 (.still 15 (.still 16 (.still 17 (.still 18 (.still 20 (.still 21 (.still 22 (.still 23 (.eff 4 (.eff 9 (.eff 14 (.eff 19 (.eff 24 (.eff 25 (.eff 26 (.still 27 .done)))))))))))))))))))))))))))) _ (by kernel_rfl) (List.Sublist.refl _) ?_;refine TS.y rfl (Yv.fieldAddr rfl rfl) ?_;refine TS.y rfl (Yv.ac 1 rfl rfl rfl rfl) ?_;refine TS.y rfl (Yv.fieldAddr rfl rfl) ?_;refine TS.y rfl (Yv.ac 0 rfl rfl rfl rfl) ?_;refine TS.y rfl (Yv.fieldAddr rfl rfl) ?_;refine TS.y rfl (Yv.ac 1 rfl rfl rfl rfl) ?_;refine TS.y rfl (Yv.fieldAddr rfl rfl) ?_;refine TS.y rfl (Yv.ac 0 rfl rfl rfl rfl) ?_;refine TS.y rfl (Yv.fieldAddr rfl rfl) ?_;refine TS.y rfl (Yv.ac 1 rfl rfl rfl rfl) ?_;refine TS.y rfl (Yv.fieldAddr rfl rfl) ?_;refine TS.y rfl (Yv.ac 0 rfl rfl rfl rfl) ?_;refine TS.y rfl (Yv.fieldAddr rfl rfl) ?_;refine TS.y rfl (Yv.ac 1 rfl rfl rfl rfl) ?_;refine TS.y rfl (Yv.fieldAddr rfl rfl) ?_;refine TS.y rfl (Yv.ac 0 rfl rfl rfl rfl) ?_;refine TS.y rfl (Yv.fieldAddr rfl rfl) ?_;refine TS.y rfl (Yv.ac 1 rfl rfl rfl rfl) ?_;refine TS.y rfl (Yv.fieldAddr rfl rfl) ?_;refine TS.y rfl (Yv.ac 0 rfl rfl rfl rfl) ?_;refine TS.eff ?_; (refine TSo.ew rfl (Wt.none rfl) rfl rfl (Ew.af rfl rfl rfl (fun w hw=>zax _ _ _)) ?_;rintro _ _ ⟨rfl,rfl⟩;refine ⟨Sx,?_⟩);refine TS.eff ?_; (refine TSo.ew rfl (Wt.none rfl) rfl rfl (Ew.af rfl rfl rfl (fun w hw=>zax _ _ _)) ?_;rintro _ _ ⟨rfl,rfl⟩;refine ⟨Sx,?_⟩);refine TS.eff ?_; (refine TSo.ew rfl (Wt.none rfl) rfl rfl (Ew.af rfl rfl rfl (fun w hw=>zax _ _ _)) ?_;rintro _ _ ⟨rfl,rfl⟩;refine ⟨Sx,?_⟩);refine TS.eff ?_; (refine TSo.ew rfl (Wt.none rfl) rfl rfl (Ew.af rfl rfl rfl (fun w hw=>zax _ _ _)) ?_;rintro _ _ ⟨rfl,rfl⟩;refine ⟨Sx,?_⟩);refine TS.eff ?_; (refine TSo.ew rfl (Wt.none rfl) rfl rfl (Ew.af rfl rfl rfl (fun w hw=>zax _ _ _)) ?_;rintro _ _ ⟨rfl,rfl⟩;refine ⟨Sx,?_⟩);refine TS.eff ?_; (refine TSo.ew rfl (Wt.none rfl) rfl rfl (Ew.buildSlice rfl rfl rfl (by decide)) ?_;rintro _ _ ⟨g30,rfl,rfl⟩;refine ⟨Sx,?_⟩);refine TS.eff ?_; (refine TSo.ew rfl (Wt.none rfl) rfl rfl (Ew.af rfl rfl rfl (fun w hw=>zhH [cmpI x.to y.to,cmpI x.fr y.fr,cmpI x.wt y.wt,cmpI x.lo y.lo,cmpI x.hi y.hi] _ w (SlOf.lit (enc:=Ie) (size:=1) (fun _=>rfl) _ (Ent.row_ok.1 (hw.get (i:=0) rfl)) rfl rfl) (by simp))) ?_;rintro _ _ ⟨rfl,rfl⟩;refine ⟨Sx,?_⟩);refine TS.run 1 rfl ?_;refine TS.done ?_;refine K.seq (T.ret ?_);refine K.ah rfl rfl (fun w' hw=>⟨?_,hw.isBelow⟩)
 rfl
theorem zgc (x:Cp)(w:World):Calls Tryd.prog 76 #[.agg (Cp.cells x).toArray] w fun e w'=>e= .returned (.bool x.ok)∧Below w.heap.size w w':=by
 refine zaa (M:=fun _=>False) (hs:=[]) Tryd.func76 rfl rfl rfl (Hp.refl _ _) ?_;simp only [Cp.cells];refine T.sr ?_; (refine TL.ew (Wt.none rfl) rfl rfl (Ew.aA rfl rfl) ?_;rintro _ _ ⟨g1,rfl,rfl⟩);refine TL.run 1 rfl ?_;refine TL.nx ?_;refine TL.y (Yv.fieldAddr rfl rfl) ?_;refine TL.y (Yv.ac 0 rfl rfl rfl rfl) ?_; (refine TL.ew (Wt.none rfl) rfl rfl (Ew.af rfl rfl rfl (fun w hw=>zbb _ _)) ?_;rintro _ _ ⟨rfl,rfl⟩);refine TL.run 1 rfl ?_;refine TL.ak rfl rfl rfl (fun h1=>?_) (fun h1=>?_)
 ·have p1:=h1; (try simp only [nfB] at p1);refine TL.yv (Wt.some rfl rfl rfl h1) rfl rfl (Yv.fieldAddr rfl rfl) ?_;refine TL.yv (Wt.some rfl rfl rfl h1) rfl rfl (Yv.ac 0 rfl rfl rfl rfl) ?_; (refine TL.ew (Wt.some rfl rfl rfl h1) rfl rfl (Ew.af rfl rfl rfl (fun w hw=>zbJ _ _ _ _)) ?_;rintro _ _ ⟨rfl,rfl⟩);refine TL.y (Yv.am rfl rfl h1 rfl) ?_;refine TL.run 1 rfl ?_;refine TL.ak rfl rfl rfl (fun h2=>?_) (fun h2=>?_)
  ·have p2:=h2; (try simp only [nfB] at p2);refine TL.yv (Wt.some rfl rfl rfl h2) rfl rfl (Yv.fieldAddr rfl rfl) ?_;refine TL.yv (Wt.some rfl rfl rfl h2) rfl rfl (Yv.ac 0 rfl rfl rfl rfl) ?_;refine TL.yv (Wt.some rfl rfl rfl h2) rfl rfl (Yv.fieldAddr rfl rfl) ?_;refine TL.yv (Wt.some rfl rfl rfl h2) rfl rfl (Yv.ac 0 rfl rfl rfl rfl) ?_; (refine TL.ew (Wt.some rfl rfl rfl h2) rfl rfl (Ew.af rfl rfl rfl (fun w hw=>zcW _ _ _)) ?_;rintro _ _ ⟨rfl,rfl⟩);refine TL.y (Yv.am rfl rfl h2 rfl) ?_;refine TL.run 1 rfl ?_;refine TL.ns (T.ret ?_);refine K.ah rfl rfl (fun w' hw=>⟨?_,hw.isBelow⟩);exact zae (by simp only [Cp.ok, *,Bool.not_true,Bool.not_false,Bool.or_false,Bool.false_or,Bool.or_true,Bool.true_or,Bool.and_false,Bool.false_and,Bool.true_and,Bool.and_true,Bool.or_self,Bool.and_self,Bool.not_not,decide_true,decide_false,not_true_eq_false,not_false_eq_true,cond_true,cond_false])
  ·have p2:=h2; (try simp only [nfB] at p2);refine TL.off (Wt.not rfl rfl rfl h2) rfl rfl ?_;refine TL.off (Wt.not rfl rfl rfl h2) rfl rfl ?_;refine TL.off (Wt.not rfl rfl rfl h2) rfl rfl ?_;refine TL.off (Wt.not rfl rfl rfl h2) rfl rfl ?_;refine TL.off (Wt.not rfl rfl rfl h2) rfl rfl ?_;refine TL.y (Yv.an rfl rfl h2 rfl) ?_;refine TL.run 1 rfl ?_;refine TL.ns (T.ret ?_);refine K.ah rfl rfl (fun w' hw=>⟨?_,hw.isBelow⟩);exact zae (by simp only [Cp.ok, *,Bool.not_true,Bool.not_false,Bool.or_false,Bool.false_or,Bool.or_true,Bool.true_or,Bool.and_false,Bool.false_and,Bool.true_and,Bool.and_true,Bool.or_self,Bool.and_self,Bool.not_not,decide_true,decide_false,not_true_eq_false,not_false_eq_true,cond_true,cond_false])
 ·have p1:=h1; (try simp only [nfB] at p1);refine TL.off (Wt.not rfl rfl rfl h1) rfl rfl ?_;refine TL.off (Wt.not rfl rfl rfl h1) rfl rfl ?_;refine TL.off (Wt.not rfl rfl rfl h1) rfl rfl ?_;refine TL.y (Yv.an rfl rfl h1 rfl) ?_;refine TL.run 8 rfl ?_;refine TL.ns (T.ret ?_);refine K.ah rfl rfl (fun w' hw=>⟨?_,hw.isBelow⟩);exact zae (by simp only [Cp.ok, *,Bool.not_true,Bool.not_false,Bool.or_false,Bool.false_or,Bool.or_true,Bool.true_or,Bool.and_false,Bool.false_and,Bool.true_and,Bool.and_true,Bool.or_self,Bool.and_self,Bool.not_not,decide_true,decide_false,not_true_eq_false,not_false_eq_true,cond_true,cond_false])
theorem zeg (x y:Cp)(w:World):Calls Tryd.prog 78 #[.agg (Cp.cells x).toArray, .agg (Cp.cells y).toArray] w fun e w'=>e= .returned (.int .i64 (x.cmp y))∧Below w.heap.size w w':=by
 refine zaa (M:=fun _=>False) (hs:=[]) Tryd.func78 rfl rfl rfl (Hp.refl _ _) ?_;simp only [Cp.cells];refine T.sr ?_; (refine TL.ew (Wt.none rfl) rfl rfl (Ew.aA rfl rfl) ?_;rintro _ _ ⟨g2,rfl,rfl⟩); (refine TL.ew (Wt.none rfl) rfl rfl (Ew.aA rfl rfl) ?_;rintro _ _ ⟨g3,rfl,rfl⟩);refine TL.run 1 rfl ?_;refine TL.ns (T.seq ?_);refine T.ay (.still 0 (.still 1 (.still 2 (.still 3 (.still 5 (.still 6 (.still 7 (.still 8 (.still 10 (.still 11 (.still 12 (.still 13 (.still 15 (.still 16 (.still 17 (.still 18 (.eff 4 (.eff 9 (.eff 14 (.eff 19 (.eff 20 (.eff 21 (.still 22 .done))))))))))))))))))))))) _ (by kernel_rfl) (List.Sublist.refl _) ?_;refine TS.y rfl (Yv.fieldAddr rfl rfl) ?_;refine TS.y rfl (Yv.ac 1 rfl rfl rfl rfl) ?_;refine TS.y rfl (Yv.fieldAddr rfl rfl) ?_;refine TS.y rfl (Yv.ac 0 rfl rfl rfl rfl) ?_;refine TS.y rfl (Yv.fieldAddr rfl rfl) ?_;refine TS.y rfl (Yv.ac 1 rfl rfl rfl rfl) ?_;refine TS.y rfl (Yv.fieldAddr rfl rfl) ?_;refine TS.y rfl (Yv.ac 0 rfl rfl rfl rfl) ?_;refine TS.y rfl (Yv.fieldAddr rfl rfl) ?_;refine TS.y rfl (Yv.ac 1 rfl rfl rfl rfl) ?_;refine TS.y rfl (Yv.fieldAddr rfl rfl) ?_;refine TS.y rfl (Yv.ac 0 rfl rfl rfl rfl) ?_;refine TS.y rfl (Yv.fieldAddr rfl rfl) ?_;refine TS.y rfl (Yv.ac 1 rfl rfl rfl rfl) ?_;refine TS.y rfl (Yv.fieldAddr rfl rfl) ?_;refine TS.y rfl (Yv.ac 0 rfl rfl rfl rfl) ?_;refine TS.eff ?_; (refine TSo.ew rfl (Wt.none rfl) rfl rfl (Ew.af rfl rfl rfl (fun w hw=>zax _ _ _)) ?_;rintro _ _ ⟨rfl,rfl⟩;refine ⟨Sx,?_⟩);refine TS.eff ?_; (refine TSo.ew rfl (Wt.none rfl) rfl rfl (Ew.af rfl rfl rfl (fun w hw=>zax _ _ _)) ?_;rintro _ _ ⟨rfl,rfl⟩;refine ⟨Sx,?_⟩);refine TS.eff ?_; (refine TSo.ew rfl (Wt.none rfl) rfl rfl (Ew.af rfl rfl rfl (fun w hw=>zax _ _ _)) ?_;rintro _ _ ⟨rfl,rfl⟩;refine ⟨Sx,?_⟩);refine TS.eff ?_; (refine TSo.ew rfl (Wt.none rfl) rfl rfl (Ew.af rfl rfl rfl (fun w hw=>zax _ _ _)) ?_;rintro _ _ ⟨rfl,rfl⟩;refine ⟨Sx,?_⟩);refine TS.eff ?_; (refine TSo.ew rfl (Wt.none rfl) rfl rfl (Ew.buildSlice rfl rfl rfl (by decide)) ?_;rintro _ _ ⟨g25,rfl,rfl⟩;refine ⟨Sx,?_⟩);refine TS.eff ?_; (refine TSo.ew rfl (Wt.none rfl) rfl rfl (Ew.af rfl rfl rfl (fun w hw=>zhH [cmpI x.st y.st,cmpI x.mx y.mx,cmpI x.lo y.lo,cmpI x.hi y.hi] _ w (SlOf.lit (enc:=Ie) (size:=1) (fun _=>rfl) _ (Ent.row_ok.1 (hw.get (i:=0) rfl)) rfl rfl) (by simp))) ?_;rintro _ _ ⟨rfl,rfl⟩;refine ⟨Sx,?_⟩);refine TS.run 1 rfl ?_;refine TS.done ?_;refine K.seq (T.ret ?_);refine K.ah rfl rfl (fun w' hw=>⟨?_,hw.isBelow⟩)
 rfl
end Go.Proofs.YtbpkdjionfhohaaDoor
