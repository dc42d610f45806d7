/- Yc: shortened and put together by squeeze.py. -/
import Derived.Test.YtmnjbhkcfghebaaGreatDoorQ07
set_option maxRecDepth 100000
set_option maxHeartbeats 4000000
set_option linter.unusedVariables false
set_option linter.unusedSectionVars false
set_option linter.unusedSimpArgs false
namespace Go.Proofs.YtmnjbhkcfghebaaGreatDoor
open Go.RowKit
structure Gholder where
 Bidder:GBidder
 units:Int
deriving DecidableEq,Inhabited
def fY (F:Frz)(c:List Value)(x:Gholder):Prop:=∃(v3:Value),c=[.int .i64 x.Bidder.ID, .int .i64 x.Bidder.Eligibility, .int .i64 x.Bidder.Waivers,v3, .int .i64 x.units]∧SlC F v3 1 (x.Bidder.Blocks.map eI)
theorem Gholder.mono {F G:Frz}{c:List Value}{x:Gholder}(hle:F.Le G)(h:fY F c x):fY G c x:=by
 obtain ⟨v3,h0,h4⟩:=h;exact ⟨v3,h0,h4.mono hle⟩
theorem Gholder.len {F:Frz}{c:List Value}{x:Gholder}(h:fY F c x):c.length=5:=by
 obtain ⟨v3,h0,h4⟩:=h;subst h0;rfl
theorem Gholder.one {F:Frz}{c:List Value}{x:Gholder}(h:fY F c x):OneCs c:=by
 obtain ⟨v3,h0,h4⟩:=h;subst h0;haveI:=h4.oneC
 infer_instance
def ln (n:Int)(low:Int)(high:Int):Bool:=
 ((decide (low≤n))&&(decide (n≤high)))
theorem zcO (F0:Frz)(w:World)(hF0:F0.At w)(n:Int)(low:Int)(high:Int):Calls Tryz.prog 133 #[.int .i64 n, .int .i64 low, .int .i64 high] w fun e w'=>e= .returned (.bool (ln n low high))∧Below w.heap.size w w':=by
 obtain ⟨r,hk⟩:∃r,ln n low high=r:=⟨_,rfl⟩;rw [hk];unfold ln at hk;obtain ⟨S0,F1,rfl,hS0,hp0⟩:=eo hF0;refine dQ Tryz.func133 rfl rfl rfl hp0 ?_;refine eW ?_;refine c9 (ι:=Unit) (fun z=>[(6, .bool ((decide (low≤n))&&(decide (n≤high))))]) (fun z=>[.fr F1]) (fun z=>True) ?_ ?_
 ·refine lX ?_;refine dg rfl rfl rfl (fun h1=>?_) (fun h1=>?_)
  ·have p1:=of_decide_eq_true h1;refine lE ?_;exact q4x
  ·have p1:=of_decide_eq_false h1;refine lE ?_;exact q4y
 ·rintro _ _;refine T.ret ?_;subst hk;exact d8
def zb5 (x_:Int):Bool:=
 (decide (¬x_=x_))
theorem zeU (F0:Frz)(w:World)(hF0:F0.At w)(x_:Int):Calls Tryz.prog 202 #[.int .i64 x_] w fun e w'=>e= .returned (.bool (zb5 x_))∧Below w.heap.size w w':=by
 obtain ⟨r,hk⟩:∃r,zb5 x_=r:=⟨_,rfl⟩;rw [hk];unfold zb5 at hk;obtain ⟨S0,F1,rfl,hS0,hp0⟩:=eo hF0;refine dQ Tryz.func202 rfl rfl rfl hp0 ?_;refine eV ?_;refine eR ?_;refine kJ ?_;refine il ?_;subst hk;exact d8
def lC (x_:Int)(y:Int):Int:=
 (bif (zb5 x_) then
 (bif (zb5 y) then
 0
 else
 (-1))
 else
 (bif (zb5 y) then
 1
 else
 (bif decide (x_<y) then
 (-1)
 else
 (bif decide (y<x_) then
 1
 else
 0))))
theorem zeq (F0:Frz)(w:World)(hF0:F0.At w)(x_:Int)(y:Int):Calls Tryz.prog 136 #[.int .i64 x_, .int .i64 y] w fun e w'=>e= .returned (.int .i64 (lC x_ y))∧Below w.heap.size w w':=by
 obtain ⟨r,hk⟩:∃r,lC x_ y=r:=⟨_,rfl⟩;rw [hk];unfold lC at hk;obtain ⟨S0,F1,rfl,hS0,hp0⟩:=eo hF0;refine dQ Tryz.func136 rfl rfl rfl hp0 ?_;refine eV ?_;refine i0 ?_;refine cX (de rfl rfl rfl (fun w hw=>zeU _ w (hw.fr (i:=0) rfl) x_)) ?_;refine ee ?_;refine dy ?_;refine i0 ?_;refine cX (de rfl rfl rfl (fun w hw=>zeU _ w (hw.fr (i:=0) rfl) y)) ?_;refine ee ?_;refine dy ?_;refine je ?_;refine dZ ?_;refine T.cond rfl (fun h1=>?_) (fun h1=>?_)
 ·replace hk:=dr hk h1;refine iS ?_;refine dZ ?_;refine T.cond rfl (fun h2=>?_) (fun h2=>?_)
  ·replace hk:=dr hk h2;refine eV ?_;refine dz (T.ret (gk (gk ?_)));subst hk;exact d8
  ·replace hk:=dt hk h2;refine kO ?_;refine jt ?_;subst hk;exact d8
 ·replace hk:=dt hk h1;refine j0 ?_;refine dZ ?_;refine T.cond rfl (fun h3=>?_) (fun h3=>?_)
  ·replace hk:=dr hk h3;refine iQ ?_;subst hk;exact d8
  ·replace hk:=dt hk h3;refine j0 ?_;refine fP ?_;refine dz ?_;refine T.cond rfl (fun h4=>?_) (fun h4=>?_)
   ·have p4:=of_decide_eq_true h4;replace hk:=dr hk h4;refine iQ ?_;subst hk;exact d8
   ·have p4:=of_decide_eq_false h4;replace hk:=dt hk h4;refine j0 ?_;refine fP ?_;refine dz ?_;refine T.cond rfl (fun h5=>?_) (fun h5=>?_)
    ·have p5:=of_decide_eq_true h5;replace hk:=dr hk h5;refine iQ ?_;subst hk;exact d8
    ·have p5:=of_decide_eq_false h5;replace hk:=dt hk h5;refine kO ?_;refine il ?_;subst hk;exact d8
def zc8 (vals:List Int):Int:=
 dF (fun (_:Unit)=>
 0)
 (fun k1=>
 dq (fun (i_3:Nat) (next2:Unit→Int) (_:Unit)=>
 (bif decide (¬(nth vals i_3)=0) then
 (nth vals i_3)
 else
 next2 ()))
 (fun (_:Unit)=>
 k1 ()) (vals.length - 0) 0 ())
theorem zfL (F0:Frz)(w:World)(hF0:F0.At w)(vals:List Int)(vvals:Value)(hvals:SlC F0 vvals 1 (vals.map eI)):Calls Tryz.prog 135 #[vvals] w fun e w'=>e= .returned (.int .i64 (zc8 vals))∧Below w.heap.size w w':=by
 obtain ⟨r,hk⟩:∃r,zc8 vals=r:=⟨_,rfl⟩;rw [hk];unfold zc8 at hk;haveI:=hvals.oneC;obtain ⟨S0,F1,rfl,hS0,hp0⟩:=eo hF0;refine dQ Tryz.func135 rfl rfl rfl hp0 ?_;refine eV ?_;refine i0 ?_;refine j3 ?_;refine cS (dk rfl rfl hvals (List.length_map _)) ?_;have hm7:vals.length≤9223372036854775807:=(List.length_map _)▸hvals.max;refine dZ ?_;have hq:=d7 hk;clear hk;obtain ⟨k1,hk1,hk⟩:=hq; (try dsimp only at hk);refine c9 (ι:=Unit) (fun z=>[(3, .int .i64 0)]) (fun z=>[.fr F1]) (fun z=>k1 ()=r) ?_ ?_
 ·have hq:=fJ hk;clear hk;obtain ⟨f2,kk2,hf2,hkk2,hk⟩:=hq;refine eH ?_;refine T.loop (ι:=Nat) (fun z=>[(3, .int .i64 0),(6,vvals),(7, .int .i64 (vals.length:Int)),(8, .int .i64 (z:Int))]) (fun z=>[.fr F1]) (fun z=>dq f2 kk2 (vals.length - z) z ()=r) (fun z=>vals.length - z) 0 ?_ ?_ ?_ ?_
  ·exact hk
  ·exact jo
  ·exact eG
  ·rintro i_3 hk;refine eW ?_;refine T.cond rfl (fun h4=>?_) (fun h4=>?_)
   ·have p4:=of_decide_eq_true h4;rw [fF a7] at hk;generalize hn2:dq f2 kk2 (vals.length - (i_3+1)) (i_3+1)=next2 at hk;rw [←hf2] at hk; (try dsimp only at hk);refine j1 ?_;refine cS (df (i:=i_3) rfl rfl rfl hvals (List.length_map _) rfl a7) ?_;refine cS (dD 0 (i:=i_3) (j:=0) rfl rfl rfl hvals a7) ?_;refine dy ?_;refine mp ?_;refine dz ?_;refine T.cond rfl (fun h5=>?_) (fun h5=>?_)
    ·have p5:=of_decide_eq_true h5;replace hk:=dr hk h5;refine gO ?_;refine ky ?_;subst hk;exact d8
    ·have p5:=of_decide_eq_false h5;replace hk:=dt hk h5;refine q3T ?_;rw [←hn2] at hk;exact q4h
   ·have p4:=of_decide_eq_false h4;rw [fH a7,←hkk2] at hk; (try dsimp only at hk);refine eN ?_;exact cY () hk (.c .nil) (List.Sublist.refl _)
 ·rintro _ hk;rw [←hk1] at hk; (try dsimp only at hk);refine q3S ?_;subst hk;exact d8
def mq (a:GProduct)(b:GProduct):Int:=
 (zc8 [(lC a.Area b.Area),(lC a.Category b.Category)])
theorem zfV (F0:Frz)(w:World)(hF0:F0.At w)(a:GProduct)(b:GProduct):Calls Tryz.prog 134 #[.agg [.int .i64 a.Area, .int .i64 a.Category, .int .i64 a.Supply, .int .i64 a.Units, .int .i64 a.Reserve].toArray, .agg [.int .i64 b.Area, .int .i64 b.Category, .int .i64 b.Supply, .int .i64 b.Units, .int .i64 b.Reserve].toArray] w fun e w'=>e= .returned (.int .i64 (mq a b))∧Below w.heap.size w w':=by
 obtain ⟨r,hk⟩:∃r,mq a b=r:=⟨_,rfl⟩;rw [hk];unfold mq at hk;obtain ⟨S0,F1,rfl,hS0,hp0⟩:=eo hF0;refine dQ Tryz.func134 rfl rfl rfl hp0 ?_;refine iA ?_;rintro _ _ ⟨g2,rfl,rfl⟩;refine q3F ?_;rintro _ _ ⟨g3,rfl,rfl⟩;refine gD ?_;refine dS (sN 0 4 (sN 5 4 (.eff 4 (.eff 9 (.eff 10 (.eff 11 (.still 12 .done))))))) _ b0 (List.Sublist.refl _) ?_;refine jw ?_;refine iy ?_;refine jw ?_;refine iy ?_;refine dN ?_;refine dc rfl (cT) rfl rfl (de rfl rfl rfl (fun w hw=>zeq _ w (hw.fr (i:=2) rfl) a.Area b.Area)) ?_;refine gA ?_;refine dN ?_;refine dc rfl (cT) rfl rfl (de rfl rfl rfl (fun w hw=>zeq _ w (hw.fr (i:=2) rfl) a.Category b.Category)) ?_;refine gA ?_;refine dN ?_;refine q1h ?_;rintro _ _ ⟨g15,rfl,rfl⟩;refine jk ?_;refine i9 (fun w hw=>hw.freezeR (i:=3) (j:=0) a8 rfl rfl) ?_;rintro F2 ⟨le1_2,hz2⟩;refine fI ?_;have hfF2:SlC F2.toFrz (.slice (some ⟨g15,0,none⟩) 2 2) 1 ([(lC a.Area b.Area),(lC a.Category b.Category)].map eI):=(SlK.lit hz2 rfl (Nat.le_refl _) a8).toF (xs:=[(lC a.Area b.Area),(lC a.Category b.Category)]) rfl (fun _=>rfl);refine dN ?_;refine dc rfl (cT) rfl rfl (de rfl rfl rfl (fun w hw=>zfL _ w (hw.fr (i:=2) rfl) [(lC a.Area b.Area),(lC a.Category b.Category)] (.slice (some ⟨g15,0,none⟩) 2 2) hfF2)) ?_;refine ee ?_;refine q3v ?_;refine iM ?_;refine K.seq (T.ret ?_);subst hk;exact d8
def zcg (p:GProduct)(xf0_:Vec 64 Int):Option (Bool×Vec 64 Int):=
 (bif (((!(ln p.Area 0 63))||(!(ln p.Category 1 2)))||(!(ln p.Supply 1 12))) then
 some (false,xf0_)
 else
 dj (0≤p.Area∧p.Area<(64:Int)) <|
 some ((((decide ((Vec.get (Vec.put xf0_ p.Area.toNat (wI ((Vec.get xf0_ p.Area.toNat)+p.Supply))) p.Area.toNat)≤12))&&(ln p.Units 1 100000))&&(ln p.Reserve 0 549755813888)),(Vec.put xf0_ p.Area.toNat (wI ((Vec.get xf0_ p.Area.toNat)+p.Supply)))))
theorem zfU (F0:Frz)(w:World)(hF0:F0.At w)(p:GProduct)(xf0_:Vec 64 Int)(gf0_:Nat)(hO:Hp w (dG [.row gf0_ 179 (xf0_.1.map vI)]) [.row gf0_ 179 (xf0_.1.map vI)] w)(hA:∀g,dG [.row gf0_ 179 (xf0_.1.map vI)] g→¬F0.S g)(r:Bool×Vec 64 Int)(hr:zcg p xf0_=some r):Calls Tryz.prog 132 #[.agg [.int .i64 p.Area, .int .i64 p.Category, .int .i64 p.Supply, .int .i64 p.Units, .int .i64 p.Reserve].toArray, .pointer (some ⟨gf0_,0,none⟩)] w fun e w'=>∃(y:Unit),(True)∧e= .returned (.bool r.1)∧FxM F0 w (dG [.row gf0_ 179 (xf0_.1.map vI)]) F0 [.row gf0_ 179 (r.2.1.map vI)] w':=by
 have hk:=hr;unfold zcg at hk;obtain ⟨S0,F1,rfl,hS0,hp0⟩:=gl hF0 hO hA;refine dQ (hs:=[.row gf0_ 179 (xf0_.1.map vI), .fr F1]) Tryz.func132 rfl rfl rfl hp0 ?_;refine iA ?_;rintro _ _ ⟨g2,rfl,rfl⟩;refine kC ?_;refine c9 (ι:=Unit) (fun z=>[(1, .pointer (some ⟨gf0_,0,none⟩)),(2, .pointer (some ⟨g2,0,none⟩)),(19, .bool (((!(ln p.Area 0 63))||(!(ln p.Category 1 2)))||(!(ln p.Supply 1 12))))]) (fun z=>[.row g2 55 [.int .i64 p.Area, .int .i64 p.Category, .int .i64 p.Supply, .int .i64 p.Units, .int .i64 p.Reserve], .row gf0_ 179 (xf0_.1.map vI), .fr F1]) (fun z=>True) ?_ ?_
 ·refine gy ?_;refine gC ?_;refine cX (de rfl rfl rfl (fun w hw=>zcO _ w (hw.fr (i:=2) rfl) p.Area 0 63)) ?_;refine jN ?_;refine dg rfl rfl rfl (fun h1=>?_) (fun h1=>?_)
  ·refine TL.run 11 rfl ?_;refine fG ?_;exact cY () trivial (.c (.c (.b (eD (eD h1)).symm .nil))) (List.Sublist.refl _)
  ·refine gC ?_;refine cX (de rfl rfl rfl (fun w hw=>zcO _ w (hw.fr (i:=2) rfl) p.Category 1 2)) ?_;refine ee ?_;refine fP ?_;refine dg rfl rfl rfl (fun h2=>?_) (fun h2=>?_)
   ·refine lE ?_;exact cY () trivial (.c (.c (.b (eD (fw h1 h2)).symm .nil))) (List.Sublist.refl _)
   ·refine gC ?_;refine cX (de rfl rfl rfl (fun w hw=>zcO _ w (hw.fr (i:=2) rfl) p.Supply 1 12)) ?_;refine kZ ?_;exact cY () trivial (.c (.c (.b (fK (fw h1 h2)) .nil))) (List.Sublist.refl _)
 ·rintro _ _;refine T.cond rfl (fun h3=>?_) (fun h3=>?_)
  ·replace hk:=dr hk h3;refine iQ ?_;obtain rfl:=Option.some.inj hk;exact q4m
  ·replace hk:=dt hk h3;refine fN ?_;have hq:(0≤p.Area∧p.Area<(64:Int))∧_:=dB hk;clear hk;obtain ⟨g22,hk⟩:=hq; (try dsimp only at hk);refine dS (sN 0 3 (sN 4 2 (.eff 3 (sN 6 2 (.eff 8 .done))))) [.row g2 55 [.int .i64 p.Area, .int .i64 p.Category, .int .i64 p.Supply, .int .i64 p.Units, .int .i64 p.Reserve], .fr F1] b0 Sx ?_;refine iy ?_;refine cU rfl (dA (i:=p.Area.toNat) rfl rfl rfl a7 a7) ?_;refine iy ?_;refine dN ?_;refine dK rfl (cT) rfl rfl (di 1 rfl rfl rfl (fq a7 (Vec.cell (i:=p.Area.toNat) a7))) (fun w hw=>hw.sub Sx) ?_;refine cU rfl (dh (v:= .int .i64 (wI ((Vec.get xf0_ p.Area.toNat)+p.Supply)))) ?_;refine cU rfl (dA (i:=p.Area.toNat) rfl rfl rfl a7 a7) ?_;refine dN ?_;refine dT rfl (cT) rfl (eM 1 ((Vec.put xf0_ p.Area.toNat (wI ((Vec.get xf0_ p.Area.toNat)+p.Supply))).1.map vI) rfl rfl rfl rfl b7 (iU a7 (Vec.upd (x:=xf0_) (f:=vI) (i:=p.Area.toNat) (v:=wI ((Vec.get xf0_ p.Area.toNat)+p.Supply)) a7))) ?_;refine gA ?_;refine ma ?_;refine c9 (ι:=Unit) (fun z=>[(3, .bool (((decide ((Vec.get (Vec.put xf0_ p.Area.toNat (wI ((Vec.get xf0_ p.Area.toNat)+p.Supply))) p.Area.toNat)≤12))&&(ln p.Units 1 100000))&&(ln p.Reserve 0 549755813888)))]) (fun z=>[.row g2 55 [.int .i64 p.Area, .int .i64 p.Category, .int .i64 p.Supply, .int .i64 p.Units, .int .i64 p.Reserve], .row gf0_ 179 ((Vec.put xf0_ p.Area.toNat (wI ((Vec.get xf0_ p.Area.toNat)+p.Supply))).1.map vI), .fr F1]) (fun z=>True) ?_ ?_
   ·refine gy ?_;refine gC ?_;refine cS (dA (i:=p.Area.toNat) rfl rfl rfl a7 a7) ?_;refine cS (di 1 rfl rfl rfl (fq a7 (Vec.cell (i:=p.Area.toNat) a7))) ?_;refine ek ?_;refine dg rfl rfl rfl (fun h4=>?_) (fun h4=>?_)
    ·have p4:=of_decide_eq_true h4;refine gC ?_;refine cX (de rfl rfl rfl (fun w hw=>zcO _ w (hw.fr (i:=2) rfl) p.Units 1 100000)) ?_;refine jN ?_;refine dg rfl rfl rfl (fun h5=>?_) (fun h5=>?_)
     ·refine gC ?_;refine cX (de rfl rfl rfl (fun w hw=>zcO _ w (hw.fr (i:=2) rfl) p.Reserve 0 549755813888)) ?_;refine kZ ?_;exact cY () trivial (.b (kg (zfh h4 h5)) .nil) (List.Sublist.refl _)
     ·refine lE ?_;exact cY () trivial (.b (iL (zfh h4 h5)).symm .nil) (List.Sublist.refl _)
    ·have p4:=of_decide_eq_false h4;refine q31 ?_;exact cY () trivial (.b (iL (iL h4)).symm .nil) (List.Sublist.refl _)
   ·rintro _ _;refine T.ret ?_;obtain rfl:=Option.some.inj hk;exact q4m
def zaV (l:List GProduct)(x1c0_:Vec 64 Int):Option (Bool×Vec 64 Int):=
 dF (fun (c_1:Vec 64 Int)=>
 some (true,c_1))
 (fun k2=>
 dq (fun (i_5:Nat) (next4:Vec 64 Int→Option (Bool×Vec 64 Int)) (c_3:Vec 64 Int)=>
 (zcg (nth l i_5) c_3).bind fun r18=>
 (bif ((!r18.1)||((decide (0<(i_5:Int)))&&(decide (0≤(mq (nth l (((i_5:Int) - 1).toNat)) (nth l i_5)))))) then
 some (false,r18.2)
 else
 next4 r18.2))
 (fun (c_3:Vec 64 Int)=>
 k2 c_3) (l.length - 0) 0 x1c0_)
theorem zcy (F0:Frz)(w:World)(hF0:F0.At w)(l:List GProduct)(vl:Value)(hl:SlC F0 vl 5 (l.map cV))(x1c0_:Vec 64 Int)(g1c0_:Nat)(hO:Hp w (dG [.row g1c0_ 179 (x1c0_.1.map vI)]) [.row g1c0_ 179 (x1c0_.1.map vI)] w)(hA:∀g,dG [.row g1c0_ 179 (x1c0_.1.map vI)] g→¬F0.S g)(r:Bool×Vec 64 Int)(hr:zaV l x1c0_=some r):Calls Tryz.prog 131 #[vl, .func (.func 132) #[] #[.pointer (some ⟨g1c0_,0,none⟩)], .func (.func 134) #[] #[]] w fun e w'=>∃(y:Unit),(True)∧e= .returned (.bool r.1)∧FxM F0 w (dG [.row g1c0_ 179 (x1c0_.1.map vI)]) F0 [.row g1c0_ 179 (r.2.1.map vI)] w':=by
 have hk:=hr;unfold zaV at hk;haveI:=hl.oneC;obtain ⟨S0,F1,rfl,hS0,hp0⟩:=gl hF0 hO hA;refine dQ (hs:=[.row g1c0_ 179 (x1c0_.1.map vI), .fr F1]) Tryz.func131 rfl rfl rfl hp0 ?_;refine jQ ?_;refine q1V ?_;have hm10:l.length≤9223372036854775807:=(List.length_map _)▸hl.max;refine dZ ?_;have hq:=d7 hk;clear hk;obtain ⟨k2,hk2,hk⟩:=hq; (try dsimp only at hk);refine c9 (ι:=Vec 64 Int) (fun z=>[]) (fun z=>[.row g1c0_ 179 (z.1.map vI), .fr F1]) (fun z=>k2 z=some r) ?_ ?_
 ·have hq:=fJ hk;clear hk;obtain ⟨f4,kk4,hf4,hkk4,hk⟩:=hq;refine eH ?_;refine T.loop (ι:=Nat×Vec 64 Int) (fun z=>[(0,vl),(1, .func (.func 132) #[] #[.pointer (some ⟨g1c0_,0,none⟩)]),(2, .func (.func 134) #[] #[]),(9,vl),(10, .int .i64 (l.length:Int)),(11, .int .i64 (z.1:Int))]) (fun z=>[.row g1c0_ 179 (z.2.1.map vI), .fr F1]) (fun z=>dq f4 kk4 (l.length - z.1) z.1 z.2=some r) (fun z=>l.length - z.1) (0,x1c0_) ?_ ?_ ?_ ?_
  ·exact hk
  ·exact lZ
  ·exact eG
  ·rintro ⟨i_5,c_3⟩ hk; (try dsimp only at *);refine eW ?_;refine T.cond rfl (fun h6=>?_) (fun h6=>?_)
   ·have p6:=of_decide_eq_true h6;rw [fF a7] at hk;generalize hn4:dq f4 kk4 (l.length - (i_5+1)) (i_5+1)=next4 at hk;rw [←hf4] at hk; (try dsimp only at hk);refine kh ?_;refine cS (df (i:=i_5) rfl rfl rfl hl (List.length_map _) rfl a7) ?_;refine cS (iK 1 (i:=i_5) rfl rfl rfl hl a7) ?_;refine fW ?_;rintro _ _ ⟨g8,rfl,rfl⟩;refine dy ?_;refine gg ?_;refine fi ?_;have hq:=dw hk;clear hk;obtain ⟨r18,hr18,hk⟩:=hq; (try dsimp only at hk);refine c9 (ι:=Unit) (fun z=>[(0,vl),(1, .func (.func 132) #[] #[.pointer (some ⟨g1c0_,0,none⟩)]),(2, .func (.func 134) #[] #[]),(9,vl),(10, .int .i64 (l.length:Int)),(11, .int .i64 (i_5:Int)),(34, .bool ((!r18.1)||((decide (0<(i_5:Int)))&&(decide (0≤(mq (nth l (((i_5:Int) - 1).toNat)) (nth l i_5)))))))]) (fun z=>[.row g8 55 [.int .i64 ((nth l i_5).Area), .int .i64 ((nth l i_5).Category), .int .i64 ((nth l i_5).Supply), .int .i64 ((nth l i_5).Units), .int .i64 ((nth l i_5).Reserve)], .row g1c0_ 179 (r18.2.1.map vI), .fr F1]) (fun z=>True) ?_ ?_
    ·refine dS (sN 0 2 (.eff 2 (sN 3 12 (.eff 15 (sN 16 2 (.still 18 .done)))))) [.row g8 55 [.int .i64 ((nth l i_5).Area), .int .i64 ((nth l i_5).Category), .int .i64 ((nth l i_5).Supply), .int .i64 ((nth l i_5).Units), .int .i64 ((nth l i_5).Reserve)], .fr F1] b0 Sx ?_;refine fS ?_;refine q2f ?_;refine dN ?_;refine dc rfl (cT) rfl rfl (dI [1,2,0] [.row g1c0_ 179 (c_3.1.map vI)] [.row g8 55 [.int .i64 ((nth l i_5).Area), .int .i64 ((nth l i_5).Category), .int .i64 ((nth l i_5).Supply), .int .i64 ((nth l i_5).Units), .int .i64 ((nth l i_5).Reserve)]] rfl rfl rfl rfl a8 (fun w hw hw2 hF=>zfU _ w hF (nth l i_5) c_3 g1c0_ hw2.takes.1 hw2.takes.2 r18 hr18)) ?_;rintro _ _ ⟨⟨⟩, -,rfl,rfl⟩;refine ft ?_;refine q2F ?_;refine fe ?_;refine fk rfl rfl rfl rfl (fun h7=>?_) (fun h7=>?_)
     ·refine TS.run 10 rfl ?_;refine dN ?_;refine ly rfl (Wt.undef rfl rfl rfl) rfl rfl ?_;refine gI ?_;refine q2W ?_;exact cY () trivial (.c (.c (.c (.c (.c (.c (.b (eD h7).symm .nil))))))) (List.Sublist.refl _)
     ·refine gI ?_;refine fk rfl rfl rfl rfl (fun h8=>?_) (fun h8=>?_)
      ·have p8:=of_decide_eq_true h8;refine gI ?_;refine cU rfl (ki rfl rfl rfl a7) ?_;refine cU rfl (df (i:=((i_5:Int) - 1).toNat) rfl rfl rfl hl (List.length_map _) a7 a7) ?_;refine cU rfl (iK 1 (i:=((i_5:Int) - 1).toNat) rfl rfl rfl hl a7) ?_;refine q2f ?_;refine dN ?_;refine dc rfl (Wt.some) rfl rfl (de rfl rfl rfl (fun w hw=>zfV _ w (hw.fr (i:=1) rfl) (nth l (((i_5:Int) - 1).toNat)) (nth l i_5))) ?_;refine ee ?_;refine q2F ?_;refine gI ?_;refine q2W ?_;exact cY () trivial (.c (.c (.c (.c (.c (.c (.b (Eq.trans (kg h8) (fK h7)) .nil))))))) (List.Sublist.refl _)
      ·have p8:=of_decide_eq_false h8;refine TS.run 7 rfl ?_;refine q1R ?_;refine gI ?_;refine q2W ?_;exact cY () trivial (.c (.c (.c (.c (.c (.c (.b (fw h7 (iL h8)).symm .nil))))))) (List.Sublist.refl _)
    ·rintro _ _;refine T.cond rfl (fun h9=>?_) (fun h9=>?_)
     ·replace hk:=dr hk h9;refine eV ?_;refine ky ?_;obtain rfl:=Option.some.inj hk;exact q4m
     ·replace hk:=dt hk h9;refine q3T ?_;rw [←hn4] at hk;refine K.pick [1,2] rfl a8 ?_;exact K.next ((i_5+1),r18.2) hk b5 (.c (.c (.c (.c (.c (.c .nil)))))) (List.Sublist.refl _)
   ·have p6:=of_decide_eq_false h6;rw [fH a7,←hkk4] at hk; (try dsimp only at hk);refine eN ?_;exact cY c_3 hk .nil (List.Sublist.refl _)
 ·rintro c_1 hk;rw [←hk2] at hk; (try dsimp only at hk);refine kp ?_;obtain rfl:=Option.some.inj hk;exact lU
def zbO (l:List GProduct):Option Bool:=
 (zaV l (Vec.fill 64 0)).bind fun r6=>
 some r6.1
theorem zds (F0:Frz)(w:World)(hF0:F0.At w)(l:List GProduct)(vl:Value)(hl:SlC F0 vl 5 (l.map cV))(r:Bool)(hr:zbO l=some r):Calls Tryz.prog 51 #[vl] w fun e w'=>e= .returned (.bool r)∧Below w.heap.size w w':=by
 have hk:=hr;unfold zbO at hk;haveI:=hl.oneC;obtain ⟨S0,F1,rfl,hS0,hp0⟩:=eo hF0;refine dQ Tryz.func51 rfl rfl rfl hp0 ?_;refine eV ?_;refine eR ?_;refine cX (kj (l:=((Vec.fill 64 0).1.map vI)) rfl b0) ?_;rintro _ _ ⟨g3,rfl,rfl⟩;refine fi ?_;have hq:=dw hk;clear hk;obtain ⟨r6,hr6,hk⟩:=hq; (try dsimp only at hk);refine eO ?_;refine cX (dI [0,1] [.row g3 179 ((Vec.fill 64 0).1.map vI)] [] rfl rfl rfl rfl a8 (fun w hw hw2 hF=>zcy _ w hF l vl hl (Vec.fill 64 0) g3 hw2.takes.1 hw2.takes.2 r6 hr6)) ?_;rintro _ _ ⟨⟨⟩, -,rfl,rfl⟩;refine ft ?_;refine iw ?_;obtain rfl:=Option.some.inj hk;exact d8
def kD (l:List GProduct)(blocks:List Int):Bool:=
 (bif decide (¬(blocks.length:Int)=(l.length:Int)) then
 false
 else
 dF (fun (_:Unit)=>
 true)
 (fun k2=>
 dq (fun (i_4:Nat) (next3:Unit→Bool) (_:Unit)=>
 (bif ((decide ((nth blocks i_4)<0))||(decide ((nth l i_4).Supply<(nth blocks i_4)))) then
 false
 else
 next3 ()))
 (fun (_:Unit)=>
 k2 ()) (blocks.length - 0) 0 ()))
theorem zfP (F0:Frz)(w:World)(hF0:F0.At w)(l:List GProduct)(vl:Value)(hl:SlC F0 vl 5 (l.map cV))(blocks:List Int)(vblocks:Value)(hblocks:SlC F0 vblocks 1 (blocks.map eI)):Calls Tryz.prog 137 #[vl,vblocks] w fun e w'=>e= .returned (.bool (kD l blocks))∧Below w.heap.size w w':=by
 obtain ⟨r,hk⟩:∃r,kD l blocks=r:=⟨_,rfl⟩;rw [hk];unfold kD at hk;haveI:=hl.oneC;haveI:=hblocks.oneC;obtain ⟨S0,F1,rfl,hS0,hp0⟩:=eo hF0;refine dQ Tryz.func137 rfl rfl rfl hp0 ?_;refine jQ ?_;refine cS (dk rfl rfl hblocks (List.length_map _)) ?_;have hm8:blocks.length≤9223372036854775807:=(List.length_map _)▸hblocks.max;refine dy ?_;refine q1V ?_;have hm10:l.length≤9223372036854775807:=(List.length_map _)▸hl.max;refine dZ ?_;refine T.cond rfl (fun h1=>?_) (fun h1=>?_)
 ·have p1:=of_decide_eq_true h1;replace hk:=dr hk h1;refine iQ ?_;subst hk;exact d8
 ·have p1:=of_decide_eq_false h1;replace hk:=dt hk h1;refine j0 ?_;refine dy ?_;refine cS (dk rfl rfl hblocks (List.length_map _)) ?_;refine dZ ?_;have hq:=d7 hk;clear hk;obtain ⟨k2,hk2,hk⟩:=hq; (try dsimp only at hk);refine c9 (ι:=Unit) (fun z=>[]) (fun z=>[.fr F1]) (fun z=>k2 ()=r) ?_ ?_
  ·have hq:=fJ hk;clear hk;obtain ⟨f3,kk3,hf3,hkk3,hk⟩:=hq;refine eH ?_;refine T.loop (ι:=Nat) (fun z=>[(0,vl),(12,vblocks),(13, .int .i64 (blocks.length:Int)),(14, .int .i64 (z:Int))]) (fun z=>[.fr F1]) (fun z=>dq f3 kk3 (blocks.length - z) z ()=r) (fun z=>blocks.length - z) 0 ?_ ?_ ?_ ?_
   ·exact hk
   ·exact jo
   ·exact eG
   ·rintro i_4 hk;refine eW ?_;refine T.cond rfl (fun h5=>?_) (fun h5=>?_)
    ·have p5:=of_decide_eq_true h5;rw [fF a7] at hk;generalize hn3:dq f3 kk3 (blocks.length - (i_4+1)) (i_4+1)=next3 at hk;rw [←hf3] at hk; (try dsimp only at hk);refine kh ?_;refine cS (df (i:=i_4) rfl rfl rfl hblocks (List.length_map _) rfl a7) ?_;refine cS (dD 0 (i:=i_4) (j:=0) rfl rfl rfl hblocks a7) ?_;refine ek ?_;refine fi ?_;refine c9 (ι:=Unit) (fun z=>[(0,vl),(12,vblocks),(13, .int .i64 (blocks.length:Int)),(14, .int .i64 (i_4:Int)),(29, .bool ((decide ((nth blocks i_4)<0))||(decide ((nth l i_4).Supply<(nth blocks i_4)))))]) (fun z=>[.fr F1]) (fun z=>True) ?_ ?_
     ·refine ie ?_;refine dg rfl rfl rfl (fun h6=>?_) (fun h6=>?_)
      ·have p6:=of_decide_eq_true h6;refine TL.run 8 rfl ?_;refine fG ?_;exact cY () trivial (.c (.c (.c (.c (.b (eD h6).symm .nil))))) (List.Sublist.refl _)
      ·have p6:=of_decide_eq_false h6;refine fP ?_;refine cS (df (i:=i_4) rfl rfl rfl hl (List.length_map _) rfl a7) ?_;refine cS (fL rfl rfl hl (List.length_map _) a7) ?_;refine cS (dD 0 (i:=i_4) (j:=2) rfl rfl rfl hl a7) ?_;refine jZ ?_;exact cY () trivial (.c (.c (.c (.c (.b (fK h6) .nil))))) (List.Sublist.refl _)
     ·rintro _ _;refine T.cond rfl (fun h7=>?_) (fun h7=>?_)
      ·replace hk:=dr hk h7;refine eV ?_;refine ky ?_;subst hk;exact d8
      ·have p7:=h7; (try simp only [iC] at p7);replace hk:=dt hk h7;refine q3T ?_;rw [←hn3] at hk;exact K.next (i_4+1) hk a7 (.c (.c (.c (.c .nil)))) (List.Sublist.refl _)
    ·have p5:=of_decide_eq_false h5;rw [fH a7,←hkk3] at hk; (try dsimp only at hk);refine eN ?_;exact kY
  ·rintro _ hk;rw [←hk2] at hk; (try dsimp only at hk);refine kp ?_;subst hk;exact d8
def zcb (l:List GProduct)(blocks:List Int):Option Int:=
 dF (fun (sum_1:Int)=>
 some sum_1)
 (fun k2=>
 dq (fun (i_5:Nat) (next4:Int→Option Int) (sum_3:Int)=>
 dj (0≤(i_5:Int)∧(i_5:Int)<(l.length:Int)) <|
 next4 (wI (sum_3+(wI ((nth blocks i_5) * ((nth l i_5).Units))))))
 (fun (sum_3:Int)=>
 k2 sum_3) (blocks.length - 0) 0 0)
theorem zfk (F0:Frz)(w:World)(hF0:F0.At w)(l:List GProduct)(vl:Value)(hl:SlC F0 vl 5 (l.map cV))(blocks:List Int)(vblocks:Value)(hblocks:SlC F0 vblocks 1 (blocks.map eI))(r:Int)(hr:zcb l blocks=some r):Calls Tryz.prog 138 #[vl,vblocks] w fun e w'=>e= .returned (.int .i64 r)∧Below w.heap.size w w':=by
 have hk:=hr;unfold zcb at hk;haveI:=hl.oneC;haveI:=hblocks.oneC;obtain ⟨S0,F1,rfl,hS0,hp0⟩:=eo hF0;refine dQ Tryz.func138 rfl rfl rfl hp0 ?_;refine eV ?_;refine i0 ?_;refine j3 ?_;refine cS (dk rfl rfl hblocks (List.length_map _)) ?_;have hm9:blocks.length≤9223372036854775807:=(List.length_map _)▸hblocks.max;refine dZ ?_;have hq:=d7 hk;clear hk;obtain ⟨k2,hk2,hk⟩:=hq; (try dsimp only at hk);refine c9 (ι:=Int) (fun z=>[(5, .int .i64 z)]) (fun z=>[.fr F1]) (fun z=>k2 z=some r) ?_ ?_
 ·have hq:=fJ hk;clear hk;obtain ⟨f4,kk4,hf4,hkk4,hk⟩:=hq;refine eH ?_;refine T.loop (ι:=Nat×Int) (fun z=>[(0,vl),(5, .int .i64 z.2),(8,vblocks),(9, .int .i64 (blocks.length:Int)),(10, .int .i64 (z.1:Int))]) (fun z=>[.fr F1]) (fun z=>dq f4 kk4 (blocks.length - z.1) z.1 z.2=some r) (fun z=>blocks.length - z.1) (0,0) ?_ ?_ ?_ ?_
  ·exact hk
  ·exact kn
  ·exact eG
  ·rintro ⟨i_5,sum_3⟩ hk; (try dsimp only at *);refine eW ?_;refine T.cond rfl (fun h6=>?_) (fun h6=>?_)
   ·have p6:=of_decide_eq_true h6;rw [fF a7] at hk;generalize hn4:dq f4 kk4 (blocks.length - (i_5+1)) (i_5+1)=next4 at hk;rw [←hf4] at hk; (try dsimp only at hk);refine kh ?_;refine cS (df (i:=i_5) rfl rfl rfl hblocks (List.length_map _) rfl a7) ?_;refine cS (dD 0 (i:=i_5) (j:=0) rfl rfl rfl hblocks a7) ?_;refine kz ?_;have hq:(0≤(i_5:Int)∧(i_5:Int)<(l.length:Int))∧_:=dB hk;clear hk;obtain ⟨g19,hk⟩:=hq; (try dsimp only at hk);refine lX ?_;refine cS (df (i:=i_5) rfl rfl rfl hl (List.length_map _) rfl a7) ?_;refine cS (fL rfl rfl hl (List.length_map _) a7) ?_;refine cS (dD 0 (i:=i_5) (j:=3) rfl rfl rfl hl a7) ?_;refine cS (dh (v:= .int .i64 (wI ((nth blocks i_5) * ((nth l i_5).Units))))) ?_;refine cS (dh (v:= .int .i64 (wI (sum_3+(wI ((nth blocks i_5) * ((nth l i_5).Units))))))) ?_;refine dy ?_;refine jg ?_;rw [←hn4] at hk;exact K.next ((i_5+1),wI (sum_3+(wI ((nth blocks i_5) * ((nth l i_5).Units))))) hk b5 (.c (.c (.c (.c (.c .nil))))) (List.Sublist.refl _)
   ·have p6:=of_decide_eq_false h6;rw [fH a7,←hkk4] at hk; (try dsimp only at hk);refine eN ?_;exact cY sum_3 hk (.c .nil) (List.Sublist.refl _)
 ·rintro sum_1 hk;rw [←hk2] at hk; (try dsimp only at hk);refine q3S ?_;obtain rfl:=Option.some.inj hk;exact d8
def j6 (l:List GProduct)(bidders:List GBidder):Option Bool:=
 dF (fun (x_1:Bool)=>
 (bif x_1 then
 some false
 else
 dF (fun (_:Unit)=>
 some true)
 (fun k5=>
 dq (fun (i_8:Nat) (next7:Int→Option Bool) (last_6:Int)=>
 (bif ((decide ((nth bidders i_8).ID≤last_6))||(decide (32≤(nth bidders i_8).ID))) then
 some false
 else
 (bif ((((decide ((nth bidders i_8).Eligibility<0))||(decide (76800000<(nth bidders i_8).Eligibility)))||(decide ((nth bidders i_8).Waivers<0)))||(decide (3<(nth bidders i_8).Waivers))) then
 some false
 else
 dF (fun (x_16:Bool)=>
 (bif x_16 then
 some false
 else
 next7 ((nth bidders i_8).ID)))
 (fun k17=>
 (bif !(kD l ((nth bidders i_8).Blocks)) then
 k17 true
 else
 (zcb l ((nth bidders i_8).Blocks)).bind fun r58=>
 k17 (decide ((nth bidders i_8).Eligibility<r58)))))))
 (fun (last_6:Int)=>
 k5 ()) (bidders.length - 0) 0 (-1))))
 (fun k2=>
 (bif decide (32<(bidders.length:Int)) then
 k2 true
 else
 (zbO l).bind fun r13=>
 k2 (!r13)))
theorem zcq (F0:Frz)(w:World)(hF0:F0.At w)(l:List GProduct)(vl:Value)(hl:SlC F0 vl 5 (l.map cV))(bidders:List GBidder)(vbidders:Value)(cbidders:List (List Value))(hbidders:SlD cR F0 vbidders 4 cbidders bidders)(r:Bool)(hr:j6 l bidders=some r):Calls Tryz.prog 52 #[vl,vbidders] w fun e w'=>e= .returned (.bool r)∧Below w.heap.size w w':=by
 have hk:=hr;unfold j6 at hk;haveI:=hl.oneC;haveI:=hbidders.1.oneC;obtain ⟨S0,F1,rfl,hS0,hp0⟩:=eo hF0;refine dQ Tryz.func52 rfl rfl rfl hp0 ?_;refine eV ?_;refine iT ?_; (try dsimp only at hk);have hq:=d7 hk;clear hk;obtain ⟨k2,hk2,hk⟩:=hq; (try dsimp only at hk);refine c9 (ι:=Bool) (fun z=>[(0,vl),(1,vbidders),(15, .bool z)]) (fun z=>[.fr F1]) (fun z=>k2 z=some r) ?_ ?_
 ·refine ef ?_;refine q27 ?_;have hm9:bidders.length≤9223372036854775807:=hbidders.2.1▸hbidders.1.max;refine ek ?_;refine dg rfl rfl rfl (fun h3=>?_) (fun h3=>?_)
  ·have p3:=of_decide_eq_true h3;replace hk:=dr hk h3;refine jH ?_;exact q4r
  ·have p3:=of_decide_eq_false h3;replace hk:=dt hk h3;refine dy ?_;have hq:=dw hk;clear hk;obtain ⟨r13,hr13,hk⟩:=hq;refine cX (de rfl rfl rfl (fun w hw=>zds _ w (hw.fr (i:=0) rfl) l vl hl r13 hr13)) ?_;refine kZ ?_;exact cY (!r13) hk (.c (.c (.c .nil))) (List.Sublist.refl _)
 ·rintro x_1 hk;rw [←hk2] at hk; (try dsimp only at hk);refine T.cond rfl (fun h4=>?_) (fun h4=>?_)
  ·replace hk:=dr hk h4;refine iQ ?_;obtain rfl:=Option.some.inj hk;exact d8
  ·replace hk:=dt hk h4;refine kO ?_;refine j3 ?_;refine q27 ?_;have hm17:bidders.length≤9223372036854775807:=hbidders.2.1▸hbidders.1.max;refine dZ ?_;have hq:=d7 hk;clear hk;obtain ⟨k5,hk5,hk⟩:=hq; (try dsimp only at hk);refine c9 (ι:=Unit) (fun z=>[]) (fun z=>[.fr F1]) (fun z=>k5 ()=some r) ?_ ?_
   ·have hq:=fJ hk;clear hk;obtain ⟨f7,kk7,hf7,hkk7,hk⟩:=hq;refine eH ?_;refine T.loop (ι:=Nat×Int) (fun z=>[(0,vl),(5, .int .i64 z.2),(16,vbidders),(17, .int .i64 (bidders.length:Int)),(18, .int .i64 (z.1:Int))]) (fun z=>[.fr F1]) (fun z=>dq f7 kk7 (bidders.length - z.1) z.1 z.2=some r) (fun z=>bidders.length - z.1) (0,(-1)) ?_ ?_ ?_ ?_
    ·exact hk
    ·exact kn
    ·exact eG
    ·rintro ⟨i_8,last_6⟩ hk; (try dsimp only at *);refine eW ?_;refine T.cond rfl (fun h9=>?_) (fun h9=>?_)
     ·have p9:=of_decide_eq_true h9;rw [fF a7] at hk;generalize hn7:dq f7 kk7 (bidders.length - (i_8+1)) (i_8+1)=next7 at hk;rw [←hf7] at hk; (try dsimp only at hk);refine j1 ?_;refine cS (df (i:=i_8) rfl rfl rfl hbidders.1 hbidders.2.1 rfl a7) ?_;refine cS (fv 0 (i:=i_8) (j:=0) rfl rfl rfl hbidders.1 hbidders.2.1 a7 rfl (eP (hbidders.2.2 i_8 a7))) ?_;have hd21_3:=(eL (hbidders.2.2 i_8 a7)).2;haveI:=hd21_3.oneC;refine fW ?_;rintro _ _ ⟨g7,rfl,rfl⟩;refine gg ?_;refine iT ?_;refine c9 (ι:=Unit) (fun z=>[(0,vl),(7, .pointer (some ⟨g7,0,none⟩)),(16,vbidders),(17, .int .i64 (bidders.length:Int)),(18, .int .i64 (i_8:Int)),(30, .bool ((decide ((nth bidders i_8).ID≤last_6))||(decide (32≤(nth bidders i_8).ID))))]) (fun z=>[.row g7 57 [.int .i64 ((nth bidders i_8).ID), .int .i64 ((nth bidders i_8).Eligibility), .int .i64 ((nth bidders i_8).Waivers),(nth (nth cbidders i_8) 3)], .fr F1]) (fun z=>True) ?_ ?_
      ·refine gy ?_;refine kN ?_;refine dg rfl rfl rfl (fun h10=>?_) (fun h10=>?_)
       ·have p10:=of_decide_eq_true h10;refine jH ?_;exact cY () trivial (.c (.c (.c (.c (.c (.b (eD h10).symm .nil)))))) (List.Sublist.refl _)
       ·have p10:=of_decide_eq_false h10;refine gC ?_;refine jZ ?_;exact cY () trivial (.c (.c (.c (.c (.c (.b (fK h10) .nil)))))) (List.Sublist.refl _)
      ·rintro _ _;refine T.cond rfl (fun h11=>?_) (fun h11=>?_)
       ·replace hk:=dr hk h11;refine lf ?_;obtain rfl:=Option.some.inj hk;exact d8
       ·have p11:=h11; (try simp only [iC] at p11);replace hk:=dt hk h11;refine q2z ?_;refine c9 (ι:=Unit) (fun z=>[(0,vl),(7, .pointer (some ⟨g7,0,none⟩)),(16,vbidders),(17, .int .i64 (bidders.length:Int)),(18, .int .i64 (i_8:Int)),(48, .bool ((((decide ((nth bidders i_8).Eligibility<0))||(decide (76800000<(nth bidders i_8).Eligibility)))||(decide ((nth bidders i_8).Waivers<0)))||(decide (3<(nth bidders i_8).Waivers))))]) (fun z=>[.row g7 57 [.int .i64 ((nth bidders i_8).ID), .int .i64 ((nth bidders i_8).Eligibility), .int .i64 ((nth bidders i_8).Waivers),(nth (nth cbidders i_8) 3)], .fr F1]) (fun z=>True) ?_ ?_
        ·refine gy ?_;refine gC ?_;refine ek ?_;refine dg rfl rfl rfl (fun h12=>?_) (fun h12=>?_)
         ·have p12:=of_decide_eq_true h12;refine TL.run 14 rfl ?_;refine fG ?_;exact cY () trivial (.c (.c (.c (.c (.c (.b (eD (eD (eD h12))).symm .nil)))))) (List.Sublist.refl _)
         ·have p12:=of_decide_eq_false h12;refine kN ?_;refine dg rfl rfl rfl (fun h13=>?_) (fun h13=>?_)
          ·have p13:=of_decide_eq_true h13;refine TL.run 9 rfl ?_;refine fG ?_;exact cY () trivial (.c (.c (.c (.c (.c (.b (eD (eD (fw h12 h13))).symm .nil)))))) (List.Sublist.refl _)
          ·have p13:=of_decide_eq_false h13;refine kN ?_;refine dg rfl rfl rfl (fun h14=>?_) (fun h14=>?_)
           ·have p14:=of_decide_eq_true h14;refine jH ?_;exact cY () trivial (.c (.c (.c (.c (.c (.b (eD (fw (fw h12 h13) h14)).symm .nil)))))) (List.Sublist.refl _)
           ·have p14:=of_decide_eq_false h14;refine gC ?_;refine jZ ?_;exact cY () trivial (.c (.c (.c (.c (.c (.b (fK (fw (fw h12 h13) h14)) .nil)))))) (List.Sublist.refl _)
        ·rintro _ _;refine T.cond rfl (fun h15=>?_) (fun h15=>?_)
         ·replace hk:=dr hk h15;refine lf ?_;obtain rfl:=Option.some.inj hk;exact d8
         ·have p15:=h15; (try simp only [iC] at p15);replace hk:=dt hk h15;refine q2z ?_; (try dsimp only at hk);have hq:=d7 hk;clear hk;obtain ⟨k17,hk17,hk⟩:=hq; (try dsimp only at hk);refine c9 (ι:=Bool) (fun z=>[(0,vl),(7, .pointer (some ⟨g7,0,none⟩)),(16,vbidders),(17, .int .i64 (bidders.length:Int)),(18, .int .i64 (i_8:Int)),(62, .bool z)]) (fun z=>[.row g7 57 [.int .i64 ((nth bidders i_8).ID), .int .i64 ((nth bidders i_8).Eligibility), .int .i64 ((nth bidders i_8).Waivers),(nth (nth cbidders i_8) 3)], .fr F1]) (fun z=>k17 z=some r) ?_ ?_
          ·refine dS (sN 0 3 (.eff 3 (sN 4 5 (sN 10 2 (.eff 9 (.still 12 (.still 13 .done))))))) _ b0 (List.Sublist.refl _) ?_;refine fS ?_;refine iy ?_;refine dN ?_;refine dc rfl (cT) rfl rfl (de rfl rfl rfl (fun w hw=>zfP _ w (hw.fr (i:=1) rfl) l vl hl ((nth bidders i_8).Blocks) (nth (nth cbidders i_8) 3) hd21_3)) ?_;refine gA ?_;refine fe ?_;refine fk rfl rfl rfl rfl (fun h18=>?_) (fun h18=>?_)
           ·replace hk:=dr hk h18;refine TS.run 5 rfl ?_;refine q1R ?_;refine lL ?_;exact cY true hk (.c (.c (.c (.c (.c (.c .nil)))))) (List.Sublist.refl _)
           ·replace hk:=dt hk h18;refine fS ?_;refine iy ?_;refine iy ?_;refine dN ?_;have hq:=dw hk;clear hk;obtain ⟨r58,hr58,hk⟩:=hq;refine dc rfl (Wt.some) rfl rfl (de rfl rfl rfl (fun w hw=>zfk _ w (hw.fr (i:=1) rfl) l vl hl ((nth bidders i_8).Blocks) (nth (nth cbidders i_8) 3) hd21_3 r58 hr58)) ?_;refine gA ?_;refine lL ?_;exact cY (decide ((nth bidders i_8).Eligibility<r58)) hk (.c (.c (.c (.c (.c (.c .nil)))))) (List.Sublist.refl _)
          ·rintro x_16 hk;rw [←hk17] at hk; (try dsimp only at hk);refine T.cond rfl (fun h19=>?_) (fun h19=>?_)
           ·replace hk:=dr hk h19;refine lf ?_;obtain rfl:=Option.some.inj hk;exact d8
           ·replace hk:=dt hk h19;refine T.skip (K.seq (T.region ?_));refine kA ?_;refine jg ?_;rw [←hn7] at hk;refine kH ?_;exact K.next ((i_8+1),(nth bidders i_8).ID) hk b5 (.c (.c (.c (.c (.c .nil))))) (List.Sublist.refl _)
     ·have p9:=of_decide_eq_false h9;rw [fH a7,←hkk7] at hk; (try dsimp only at hk);refine eN ?_;exact kY
   ·rintro _ hk;rw [←hk5] at hk; (try dsimp only at hk);refine kp ?_;obtain rfl:=Option.some.inj hk;exact d8
def zcx (x_:GBidder)(xf0_:GBid):Bool:=
 (decide (x_.ID=xf0_.Bidder))
theorem zff (F0:Frz)(w:World)(hF0:F0.At w)(x_:GBidder)(vx__3:Value)(hx__3:SlC F0 vx__3 1 (x_.Blocks.map eI))(xf0_:GBid)(gf0_:Nat)(vf0_4:Value)(hf0_4:SlC F0 vf0_4 1 (xf0_.Point.Num.Digits.map (eK .u8)))(vf0_6:Value)(hf0_6:SlC F0 vf0_6 1 (xf0_.Point.Den.Digits.map (eK .u8)))(hO:Hp w (dG [.row gf0_ 79 [.int .i64 xf0_.Bidder, .int .i64 xf0_.Product, .int .i64 xf0_.Change, .bool xf0_.Point.Num.Neg,vf0_4, .bool xf0_.Point.Den.Neg,vf0_6]]) [.row gf0_ 79 [.int .i64 xf0_.Bidder, .int .i64 xf0_.Product, .int .i64 xf0_.Change, .bool xf0_.Point.Num.Neg,vf0_4, .bool xf0_.Point.Den.Neg,vf0_6]] w)(hA:∀g,dG [.row gf0_ 79 [.int .i64 xf0_.Bidder, .int .i64 xf0_.Product, .int .i64 xf0_.Change, .bool xf0_.Point.Num.Neg,vf0_4, .bool xf0_.Point.Den.Neg,vf0_6]] g→¬F0.S g):Calls Tryz.prog 141 #[.agg [.int .i64 x_.ID, .int .i64 x_.Eligibility, .int .i64 x_.Waivers,vx__3].toArray, .pointer (some ⟨gf0_,0,none⟩)] w fun e w'=>∃(y:Unit),(True)∧e= .returned (.bool (zcx x_ xf0_))∧FxM F0 w (dG [.row gf0_ 79 [.int .i64 xf0_.Bidder, .int .i64 xf0_.Product, .int .i64 xf0_.Change, .bool xf0_.Point.Num.Neg,vf0_4, .bool xf0_.Point.Den.Neg,vf0_6]]) F0 [.row gf0_ 79 [.int .i64 xf0_.Bidder, .int .i64 xf0_.Product, .int .i64 xf0_.Change, .bool xf0_.Point.Num.Neg,vf0_4, .bool xf0_.Point.Den.Neg,vf0_6]] w':=by
 obtain ⟨r,hk⟩:∃r,zcx x_ xf0_=r:=⟨_,rfl⟩;rw [hk];unfold zcx at hk;haveI:=hx__3.oneC;haveI:=hf0_4.oneC;haveI:=hf0_6.oneC;obtain ⟨S0,F1,rfl,hS0,hp0⟩:=gl hF0 hO hA;refine dQ (hs:=[.row gf0_ 79 [.int .i64 xf0_.Bidder, .int .i64 xf0_.Product, .int .i64 xf0_.Change, .bool xf0_.Point.Num.Neg,vf0_4, .bool xf0_.Point.Den.Neg,vf0_6], .fr F1]) Tryz.func141 rfl rfl rfl hp0 ?_;refine iA ?_;rintro _ _ ⟨g2,rfl,rfl⟩;refine dy ?_;refine eR ?_;refine gC ?_;refine kP ?_;refine mf ?_;subst hk;exact q4m
def zax (s:List GBidder)(x1c0_:GBid):Int:=
 dF (fun (_:Unit)=>
 (-1))
 (fun k1=>
 dq (fun (i_3:Nat) (next2:Unit→Int) (_:Unit)=>
 (bif (zcx (nth s i_3) x1c0_) then
 (i_3:Int)
 else
 next2 ()))
 (fun (_:Unit)=>
 k1 ()) (s.length - 0) 0 ())
theorem zbK (F0:Frz)(w:World)(hF0:F0.At w)(s:List GBidder)(vs:Value)(cs:List (List Value))(hs:SlD cR F0 vs 4 cs s)(x1c0_:GBid)(g1c0_:Nat)(v1c0_4:Value)(h1c0_4:SlC F0 v1c0_4 1 (x1c0_.Point.Num.Digits.map (eK .u8)))(v1c0_6:Value)(h1c0_6:SlC F0 v1c0_6 1 (x1c0_.Point.Den.Digits.map (eK .u8)))(hO:Hp w (dG [.row g1c0_ 79 [.int .i64 x1c0_.Bidder, .int .i64 x1c0_.Product, .int .i64 x1c0_.Change, .bool x1c0_.Point.Num.Neg,v1c0_4, .bool x1c0_.Point.Den.Neg,v1c0_6]]) [.row g1c0_ 79 [.int .i64 x1c0_.Bidder, .int .i64 x1c0_.Product, .int .i64 x1c0_.Change, .bool x1c0_.Point.Num.Neg,v1c0_4, .bool x1c0_.Point.Den.Neg,v1c0_6]] w)(hA:∀g,dG [.row g1c0_ 79 [.int .i64 x1c0_.Bidder, .int .i64 x1c0_.Product, .int .i64 x1c0_.Change, .bool x1c0_.Point.Num.Neg,v1c0_4, .bool x1c0_.Point.Den.Neg,v1c0_6]] g→¬F0.S g):Calls Tryz.prog 118 #[vs, .func (.func 141) #[] #[.pointer (some ⟨g1c0_,0,none⟩)]] w fun e w'=>∃(y:Unit),(True)∧e= .returned (.int .i64 (zax s x1c0_))∧FxM F0 w (dG [.row g1c0_ 79 [.int .i64 x1c0_.Bidder, .int .i64 x1c0_.Product, .int .i64 x1c0_.Change, .bool x1c0_.Point.Num.Neg,v1c0_4, .bool x1c0_.Point.Den.Neg,v1c0_6]]) F0 [.row g1c0_ 79 [.int .i64 x1c0_.Bidder, .int .i64 x1c0_.Product, .int .i64 x1c0_.Change, .bool x1c0_.Point.Num.Neg,v1c0_4, .bool x1c0_.Point.Den.Neg,v1c0_6]] w':=by
 obtain ⟨r,hk⟩:∃r,zax s x1c0_=r:=⟨_,rfl⟩;rw [hk];unfold zax at hk;haveI:=hs.1.oneC;haveI:=h1c0_4.oneC;haveI:=h1c0_6.oneC;obtain ⟨S0,F1,rfl,hS0,hp0⟩:=gl hF0 hO hA;refine dQ (hs:=[.row g1c0_ 79 [.int .i64 x1c0_.Bidder, .int .i64 x1c0_.Product, .int .i64 x1c0_.Change, .bool x1c0_.Point.Num.Neg,v1c0_4, .bool x1c0_.Point.Den.Neg,v1c0_6], .fr F1]) Tryz.func118 rfl rfl rfl hp0 ?_;refine jQ ?_;refine cS (dk rfl rfl hs.1 hs.2.1) ?_;have hm7:s.length≤9223372036854775807:=hs.2.1▸hs.1.max;refine dZ ?_;have hq:=d7 hk;clear hk;obtain ⟨k1,hk1,hk⟩:=hq; (try dsimp only at hk);refine c9 (ι:=Unit) (fun z=>[]) (fun z=>[.row g1c0_ 79 [.int .i64 x1c0_.Bidder, .int .i64 x1c0_.Product, .int .i64 x1c0_.Change, .bool x1c0_.Point.Num.Neg,v1c0_4, .bool x1c0_.Point.Den.Neg,v1c0_6], .fr F1]) (fun z=>k1 ()=r) ?_ ?_
 ·have hq:=fJ hk;clear hk;obtain ⟨f2,kk2,hf2,hkk2,hk⟩:=hq;refine eH ?_;refine T.loop (ι:=Nat) (fun z=>[(0,vs),(1, .func (.func 141) #[] #[.pointer (some ⟨g1c0_,0,none⟩)]),(7, .int .i64 (s.length:Int)),(8, .int .i64 (z:Int))]) (fun z=>[.row g1c0_ 79 [.int .i64 x1c0_.Bidder, .int .i64 x1c0_.Product, .int .i64 x1c0_.Change, .bool x1c0_.Point.Num.Neg,v1c0_4, .bool x1c0_.Point.Den.Neg,v1c0_6], .fr F1]) (fun z=>dq f2 kk2 (s.length - z) z ()=r) (fun z=>s.length - z) 0 ?_ ?_ ?_ ?_
  ·exact hk
  ·exact jo
  ·exact eG
  ·rintro i_3 hk;refine eW ?_;refine T.cond rfl (fun h4=>?_) (fun h4=>?_)
   ·have p4:=of_decide_eq_true h4;rw [fF a7] at hk;generalize hn2:dq f2 kk2 (s.length - (i_3+1)) (i_3+1)=next2 at hk;rw [←hf2] at hk; (try dsimp only at hk);refine q2j ?_;have hd15_3:=(eL (hs.2.2 i_3 a7)).2;haveI:=hd15_3.oneC;refine cX (dI [0,1] [.row g1c0_ 79 [.int .i64 x1c0_.Bidder, .int .i64 x1c0_.Product, .int .i64 x1c0_.Change, .bool x1c0_.Point.Num.Neg,v1c0_4, .bool x1c0_.Point.Den.Neg,v1c0_6]] [] rfl rfl rfl rfl a8 (fun w hw hw2 hF=>zff _ w hF (nth s i_3) (nth (nth cs i_3) 3) hd15_3 x1c0_ g1c0_ v1c0_4 h1c0_4 v1c0_6 h1c0_6 hw2.takes.1 hw2.takes.2)) ?_;rintro _ _ ⟨⟨⟩, -,rfl,rfl⟩;refine lY ?_;refine T.cond rfl (fun h5=>?_) (fun h5=>?_)
    ·replace hk:=dr hk h5;refine gO ?_;refine ky ?_;subst hk;exact lU
    ·replace hk:=dt hk h5;refine q3T ?_;rw [←hn2] at hk;exact q4h
   ·have p4:=of_decide_eq_false h4;rw [fH a7,←hkk2] at hk; (try dsimp only at hk);refine eN ?_;exact kY
 ·rintro _ hk;rw [←hk1] at hk; (try dsimp only at hk);refine kp ?_;subst hk;exact lU
def zao (s:List GBidder)(x1c0_:GBid):Bool:=
 (decide (0≤(zax s x1c0_)))
theorem zbH (F0:Frz)(w:World)(hF0:F0.At w)(s:List GBidder)(vs:Value)(cs:List (List Value))(hs:SlD cR F0 vs 4 cs s)(x1c0_:GBid)(g1c0_:Nat)(v1c0_4:Value)(h1c0_4:SlC F0 v1c0_4 1 (x1c0_.Point.Num.Digits.map (eK .u8)))(v1c0_6:Value)(h1c0_6:SlC F0 v1c0_6 1 (x1c0_.Point.Den.Digits.map (eK .u8)))(hO:Hp w (dG [.row g1c0_ 79 [.int .i64 x1c0_.Bidder, .int .i64 x1c0_.Product, .int .i64 x1c0_.Change, .bool x1c0_.Point.Num.Neg,v1c0_4, .bool x1c0_.Point.Den.Neg,v1c0_6]]) [.row g1c0_ 79 [.int .i64 x1c0_.Bidder, .int .i64 x1c0_.Product, .int .i64 x1c0_.Change, .bool x1c0_.Point.Num.Neg,v1c0_4, .bool x1c0_.Point.Den.Neg,v1c0_6]] w)(hA:∀g,dG [.row g1c0_ 79 [.int .i64 x1c0_.Bidder, .int .i64 x1c0_.Product, .int .i64 x1c0_.Change, .bool x1c0_.Point.Num.Neg,v1c0_4, .bool x1c0_.Point.Den.Neg,v1c0_6]] g→¬F0.S g):Calls Tryz.prog 140 #[vs, .func (.func 141) #[] #[.pointer (some ⟨g1c0_,0,none⟩)]] w fun e w'=>∃(y:Unit),(True)∧e= .returned (.bool (zao s x1c0_))∧FxM F0 w (dG [.row g1c0_ 79 [.int .i64 x1c0_.Bidder, .int .i64 x1c0_.Product, .int .i64 x1c0_.Change, .bool x1c0_.Point.Num.Neg,v1c0_4, .bool x1c0_.Point.Den.Neg,v1c0_6]]) F0 [.row g1c0_ 79 [.int .i64 x1c0_.Bidder, .int .i64 x1c0_.Product, .int .i64 x1c0_.Change, .bool x1c0_.Point.Num.Neg,v1c0_4, .bool x1c0_.Point.Den.Neg,v1c0_6]] w':=by
 obtain ⟨r,hk⟩:∃r,zao s x1c0_=r:=⟨_,rfl⟩;rw [hk];unfold zao at hk;haveI:=hs.1.oneC;haveI:=h1c0_4.oneC;haveI:=h1c0_6.oneC;obtain ⟨S0,F1,rfl,hS0,hp0⟩:=gl hF0 hO hA;refine dQ (hs:=[.row g1c0_ 79 [.int .i64 x1c0_.Bidder, .int .i64 x1c0_.Product, .int .i64 x1c0_.Change, .bool x1c0_.Point.Num.Neg,v1c0_4, .bool x1c0_.Point.Den.Neg,v1c0_6], .fr F1]) Tryz.func140 rfl rfl rfl hp0 ?_;refine eV ?_;refine lV ?_;refine cX (dI [0,1] [.row g1c0_ 79 [.int .i64 x1c0_.Bidder, .int .i64 x1c0_.Product, .int .i64 x1c0_.Change, .bool x1c0_.Point.Num.Neg,v1c0_4, .bool x1c0_.Point.Den.Neg,v1c0_6]] [] rfl rfl rfl rfl a8 (fun w hw hw2 hF=>zbK _ w hF s vs cs hs x1c0_ g1c0_ v1c0_4 h1c0_4 v1c0_6 h1c0_6 hw2.takes.1 hw2.takes.2)) ?_;rintro _ _ ⟨⟨⟩, -,rfl,rfl⟩;refine ft ?_;refine mf ?_;subst hk;exact lU
def zco (l:List GProduct)(bidders:List GBidder)(bids:List GBid):Option Bool:=
 dF (fun (x_1:Bool)=>
 (bif x_1 then
 some false
 else
 dF (fun (_:Unit)=>
 some true)
 (fun k5=>
 dq (fun (i_8:Nat) (next7:Int→Option Bool) (last_6:Int)=>
 (bif (((decide ((nth bids i_8).Bidder<last_6))||(decide ((nth bids i_8).Product<0)))||(decide ((l.length:Int)≤(nth bids i_8).Product))) then
 some false
 else
 (bif (((decide ((nth bids i_8).Change<(-12)))||(decide (12<(nth bids i_8).Change)))||(decide ((nth bids i_8).Change=0))) then
 some false
 else
 (bif !(zao bidders (nth bids i_8)) then
 some false
 else
 next7 ((nth bids i_8).Bidder)))))
 (fun (last_6:Int)=>
 k5 ()) (bids.length - 0) 0 0)))
 (fun k2=>
 (bif decide (128<(bids.length:Int)) then
 k2 true
 else
 (j6 l bidders).bind fun r16=>
 k2 (!r16)))
theorem zfJ (F0:Frz)(w:World)(hF0:F0.At w)(l:List GProduct)(vl:Value)(hl:SlC F0 vl 5 (l.map cV))(bidders:List GBidder)(vbidders:Value)(cbidders:List (List Value))(hbidders:SlD cR F0 vbidders 4 cbidders bidders)(bids:List GBid)(vbids:Value)(cbids:List (List Value))(hbids:SlD cW F0 vbids 7 cbids bids)(r:Bool)(hr:zco l bidders bids=some r):Calls Tryz.prog 58 #[vl,vbidders,vbids] w fun e w'=>e= .returned (.bool r)∧Below w.heap.size w w':=by
 have hk:=hr;unfold zco at hk;haveI:=hl.oneC;haveI:=hbidders.1.oneC;haveI:=hbids.1.oneC;obtain ⟨S0,F1,rfl,hS0,hp0⟩:=eo hF0;refine dQ Tryz.func58 rfl rfl rfl hp0 ?_;refine eV ?_;refine iT ?_; (try dsimp only at hk);have hq:=d7 hk;clear hk;obtain ⟨k2,hk2,hk⟩:=hq; (try dsimp only at hk);refine c9 (ι:=Bool) (fun z=>[(0,vl),(1,vbidders),(2,vbids),(18, .bool z)]) (fun z=>[.fr F1]) (fun z=>k2 z=some r) ?_ ?_
 ·refine ef ?_;refine q3C ?_;have hm11:bids.length≤9223372036854775807:=hbids.2.1▸hbids.1.max;refine ek ?_;refine dg rfl rfl rfl (fun h3=>?_) (fun h3=>?_)
  ·have p3:=of_decide_eq_true h3;replace hk:=dr hk h3;refine lE ?_;exact cY true hk (.c (.c (.c (.c .nil)))) (List.Sublist.refl _)
  ·have p3:=of_decide_eq_false h3;replace hk:=dt hk h3;refine ek ?_;have hq:=dw hk;clear hk;obtain ⟨r16,hr16,hk⟩:=hq;refine cX (de rfl rfl rfl (fun w hw=>zcq _ w (hw.fr (i:=0) rfl) l vl hl bidders vbidders cbidders hbidders r16 hr16)) ?_;refine kZ ?_;exact cY (!r16) hk (.c (.c (.c (.c .nil)))) (List.Sublist.refl _)
 ·rintro x_1 hk;rw [←hk2] at hk; (try dsimp only at hk);refine T.cond rfl (fun h4=>?_) (fun h4=>?_)
  ·replace hk:=dr hk h4;refine iQ ?_;obtain rfl:=Option.some.inj hk;exact d8
  ·replace hk:=dt hk h4;refine kO ?_;refine j3 ?_;refine q3C ?_;have hm20:bids.length≤9223372036854775807:=hbids.2.1▸hbids.1.max;refine dZ ?_;have hq:=d7 hk;clear hk;obtain ⟨k5,hk5,hk⟩:=hq; (try dsimp only at hk);refine c9 (ι:=Unit) (fun z=>[]) (fun z=>[.fr F1]) (fun z=>k5 ()=some r) ?_ ?_
   ·have hq:=fJ hk;clear hk;obtain ⟨f7,kk7,hf7,hkk7,hk⟩:=hq;refine eH ?_;refine T.loop (ι:=Nat×Int) (fun z=>[(0,vl),(1,vbidders),(7, .int .i64 z.2),(19,vbids),(20, .int .i64 (bids.length:Int)),(21, .int .i64 (z.1:Int))]) (fun z=>[.fr F1]) (fun z=>dq f7 kk7 (bids.length - z.1) z.1 z.2=some r) (fun z=>bids.length - z.1) (0,0) ?_ ?_ ?_ ?_
    ·exact hk
    ·exact lZ
    ·exact eG
    ·rintro ⟨i_8,last_6⟩ hk; (try dsimp only at *);refine eW ?_;refine T.cond rfl (fun h9=>?_) (fun h9=>?_)
     ·have p9:=of_decide_eq_true h9;rw [fF a7] at hk;generalize hn7:dq f7 kk7 (bids.length - (i_8+1)) (i_8+1)=next7 at hk;rw [←hf7] at hk; (try dsimp only at hk);refine j1 ?_;refine cS (df (i:=i_8) rfl rfl rfl hbids.1 hbids.2.1 rfl a7) ?_;refine cS (fv 0 (i:=i_8) (j:=0) rfl rfl rfl hbids.1 hbids.2.1 a7 rfl (eC (hbids.2.2 i_8 a7))) ?_;have hd24_4:=(fo (hbids.2.2 i_8 a7)).2;haveI:=hd24_4.oneC;have hd24_6:=(fj (hbids.2.2 i_8 a7)).2;haveI:=hd24_6.oneC;refine fW ?_;rintro _ _ ⟨g9,rfl,rfl⟩;refine gg ?_;refine iT ?_;refine c9 (ι:=Unit) (fun z=>[(0,vl),(1,vbidders),(9, .pointer (some ⟨g9,0,none⟩)),(19,vbids),(20, .int .i64 (bids.length:Int)),(21, .int .i64 (i_8:Int)),(40, .bool (((decide ((nth bids i_8).Bidder<last_6))||(decide ((nth bids i_8).Product<0)))||(decide ((l.length:Int)≤(nth bids i_8).Product))))]) (fun z=>[.row g9 79 [.int .i64 ((nth bids i_8).Bidder), .int .i64 ((nth bids i_8).Product), .int .i64 ((nth bids i_8).Change), .bool ((nth bids i_8).Point.Num.Neg),(nth (nth cbids i_8) 4), .bool ((nth bids i_8).Point.Den.Neg),(nth (nth cbids i_8) 6)], .fr F1]) (fun z=>True) ?_ ?_
      ·refine gy ?_;refine kN ?_;refine dg rfl rfl rfl (fun h10=>?_) (fun h10=>?_)
       ·have p10:=of_decide_eq_true h10;refine TL.run 11 rfl ?_;refine fG ?_;exact cY () trivial (.c (.c (.c (.c (.c (.c (.b (eD (eD h10)).symm .nil))))))) (List.Sublist.refl _)
       ·have p10:=of_decide_eq_false h10;refine kN ?_;refine dg rfl rfl rfl (fun h11=>?_) (fun h11=>?_)
        ·have p11:=of_decide_eq_true h11;refine q3b ?_;exact cY () trivial (.c (.c (.c (.c (.c (.c (.b (eD (fw h10 h11)).symm .nil))))))) (List.Sublist.refl _)
        ·have p11:=of_decide_eq_false h11;refine kA ?_;refine q1V ?_;have hm38:l.length≤9223372036854775807:=(List.length_map _)▸hl.max;refine jZ ?_;exact cY () trivial (.c (.c (.c (.c (.c (.c (.b (fK (fw h10 h11)) .nil))))))) (List.Sublist.refl _)
      ·rintro _ _;have hm38:l.length≤9223372036854775807:=(List.length_map _)▸hl.max;refine T.cond rfl (fun h12=>?_) (fun h12=>?_)
       ·replace hk:=dr hk h12;refine lf ?_;obtain rfl:=Option.some.inj hk;exact d8
       ·have p12:=h12; (try simp only [iC] at p12);replace hk:=dt hk h12;refine q2z ?_;refine c9 (ι:=Unit) (fun z=>[(0,vl),(1,vbidders),(9, .pointer (some ⟨g9,0,none⟩)),(19,vbids),(20, .int .i64 (bids.length:Int)),(21, .int .i64 (i_8:Int)),(53, .bool (((decide ((nth bids i_8).Change<(-12)))||(decide (12<(nth bids i_8).Change)))||(decide ((nth bids i_8).Change=0))))]) (fun z=>[.row g9 79 [.int .i64 ((nth bids i_8).Bidder), .int .i64 ((nth bids i_8).Product), .int .i64 ((nth bids i_8).Change), .bool ((nth bids i_8).Point.Num.Neg),(nth (nth cbids i_8) 4), .bool ((nth bids i_8).Point.Den.Neg),(nth (nth cbids i_8) 6)], .fr F1]) (fun z=>True) ?_ ?_
        ·refine gy ?_;refine gC ?_;refine ek ?_;refine dg rfl rfl rfl (fun h13=>?_) (fun h13=>?_)
         ·have p13:=of_decide_eq_true h13;refine TL.run 9 rfl ?_;refine fG ?_;exact cY () trivial (.c (.c (.c (.c (.c (.c (.b (eD (eD h13)).symm .nil))))))) (List.Sublist.refl _)
         ·have p13:=of_decide_eq_false h13;refine kN ?_;refine dg rfl rfl rfl (fun h14=>?_) (fun h14=>?_)
          ·have p14:=of_decide_eq_true h14;refine jH ?_;exact cY () trivial (.c (.c (.c (.c (.c (.c (.b (eD (fw h13 h14)).symm .nil))))))) (List.Sublist.refl _)
          ·have p14:=of_decide_eq_false h14;refine gC ?_;refine jZ ?_;exact cY () trivial (.c (.c (.c (.c (.c (.c (.b (fK (fw h13 h14)) .nil))))))) (List.Sublist.refl _)
        ·rintro _ _;refine T.cond rfl (fun h15=>?_) (fun h15=>?_)
         ·replace hk:=dr hk h15;refine lf ?_;obtain rfl:=Option.some.inj hk;exact d8
         ·have p15:=h15; (try simp only [iC] at p15);replace hk:=dt hk h15;refine j0 ?_;refine ek ?_;refine cX (dI [0,1] [.row g9 79 [.int .i64 ((nth bids i_8).Bidder), .int .i64 ((nth bids i_8).Product), .int .i64 ((nth bids i_8).Change), .bool ((nth bids i_8).Point.Num.Neg),(nth (nth cbids i_8) 4), .bool ((nth bids i_8).Point.Den.Neg),(nth (nth cbids i_8) 6)]] [] rfl rfl rfl rfl a8 (fun w hw hw2 hF=>zbH _ w hF bidders vbidders cbidders hbidders (nth bids i_8) g9 (nth (nth cbids i_8) 4) hd24_4 (nth (nth cbids i_8) 6) hd24_6 hw2.takes.1 hw2.takes.2)) ?_;rintro _ _ ⟨⟨⟩, -,rfl,rfl⟩;refine ft ?_;refine dZ ?_;refine T.cond rfl (fun h16=>?_) (fun h16=>?_)
          ·replace hk:=dr hk h16;refine lf ?_;obtain rfl:=Option.some.inj hk;exact d8
          ·replace hk:=dt hk h16;refine T.skip (K.seq (T.region ?_));refine kA ?_;refine jg ?_;rw [←hn7] at hk;refine kH ?_;exact K.next ((i_8+1),(nth bids i_8).Bidder) hk b5 (.c (.c (.c (.c (.c (.c .nil)))))) (List.Sublist.refl _)
     ·have p9:=of_decide_eq_false h9;rw [fH a7,←hkk7] at hk; (try dsimp only at hk);refine eN ?_;exact kY
   ·rintro _ hk;rw [←hk5] at hk; (try dsimp only at hk);refine kp ?_;obtain rfl:=Option.some.inj hk;exact d8
def zct (l:List GProduct)(bidders:List GBidder):Option (List Int×Int):=
 (j6 l bidders).bind fun r13=>
 (bif !r13 then
 some ([],2)
 else
 dj (dm l.length 8) <|
 dF (fun (l_2:List Int)=>
 some (l_2,0))
 (fun k3=>
 dq (fun (i_6:Nat) (next5:List Int→Option (List Int×Int)) (l_4:List Int)=>
 dq (fun (i_10:Nat) (next9:List Int→Option (List Int×Int)) (l_8:List Int)=>
 dj (0≤(i_10:Int)∧(i_10:Int)<(l_8.length:Int)) <|
 next9 (l_8.set i_10 (wI ((nth l_8 i_10)+(nth ((nth bidders i_6).Blocks) i_10)))))
 (fun (l_8:List Int)=>
 next5 l_8) ((((nth bidders i_6).Blocks).length) - 0) 0 l_4)
 (fun (l_4:List Int)=>
 k3 l_4) (bidders.length - 0) 0 (List.replicate l.length (0:Int))))
theorem zet (F0:Frz)(w:World)(hF0:F0.At w)(l:List GProduct)(vl:Value)(hl:SlC F0 vl 5 (l.map cV))(bidders:List GBidder)(vbidders:Value)(cbidders:List (List Value))(hbidders:SlD cR F0 vbidders 4 cbidders bidders)(r:List Int×Int)(hr:zct l bidders=some r):Calls Tryz.prog 67 #[vl,vbidders] w fun e w'=>∃(y:Value),(True)∧e= .returned (.tuple #[y, .int .i64 r.2])∧FxM F0 w (dG []) F0 [.sl y 3 1 r.1.length (r.1.flatMap eI)] w':=by
 have hk:=hr;unfold zct at hk;haveI:=hl.oneC;haveI:=hbidders.1.oneC;obtain ⟨S0,F1,rfl,hS0,hp0⟩:=eo hF0;rw [zhq];refine dQ Tryz.func67 rfl rfl rfl hp0 ?_;refine gO ?_;refine iT ?_;have hq:=dw hk;clear hk;obtain ⟨r13,hr13,hk⟩:=hq; (try dsimp only at hk);refine eO ?_;refine cX (de rfl rfl rfl (fun w hw=>zcq _ w (hw.fr (i:=0) rfl) l vl hl bidders vbidders cbidders hbidders r13 hr13)) ?_;refine mw ?_;refine T.cond rfl (fun h1=>?_) (fun h1=>?_)
 ·replace hk:=dr hk h1;refine kM ?_;refine K.slNil 3 1 ?_;obtain rfl:=Option.some.inj hk;exact fh rfl rfl rfl (fun w' hw=>⟨(.slice none 0 0),trivial,rfl,dp (hw.pick (idx:=[0,1]) rfl a8) hS0 (Frz.Le.refl _)⟩)
 ·replace hk:=dt hk h1;refine fN ?_;have hq:(dm l.length 8)∧_:=dB hk;clear hk;obtain ⟨g17,hk⟩:=hq; (try dsimp only at hk);refine ef ?_;refine q1V ?_;have hm16:l.length≤9223372036854775807:=(List.length_map _)▸hl.max;refine cX (fZ (n':=l.length) (enc:=eI) (u:=(0:Int)) rfl rfl rfl rfl g17 a8 a8 (fun _=>rfl) rfl) ?_;rintro v17 _ ⟨hv17,rfl⟩;refine km ?_;intro iv17 hmv17;refine li ?_;refine q27 ?_;have hm19:bidders.length≤9223372036854775807:=hbidders.2.1▸hbidders.1.max;refine dZ ?_;have hq:=d7 hk;clear hk;obtain ⟨k3,hk3,hk⟩:=hq; (try dsimp only at hk);refine c9 (ι:=List Int) (fun z=>[(6,v17)]) (fun z=>[.sl v17 3 1 z.length (z.flatMap eI), .fr F1]) (fun z=>k3 z=some r) ?_ ?_
  ·have hq:=fJ hk;clear hk;obtain ⟨f5,kk5,hf5,hkk5,hk⟩:=hq;refine eH ?_;refine T.loop (ι:=Nat×List Int) (fun z=>[(6,v17),(18,vbidders),(19, .int .i64 (bidders.length:Int)),(20, .int .i64 (z.1:Int))]) (fun z=>[.sl v17 3 1 z.2.length (z.2.flatMap eI), .fr F1]) (fun z=>dq f5 kk5 (bidders.length - z.1) z.1 z.2=some r) (fun z=>bidders.length - z.1) (0,(List.replicate l.length (0:Int))) ?_ ?_ ?_ ?_
   ·exact hk
   ·exact jo
   ·exact eG
   ·rintro ⟨i_6,l_4⟩ hk; (try dsimp only at *);refine eW ?_;refine T.cond rfl (fun h7=>?_) (fun h7=>?_)
    ·have p7:=of_decide_eq_true h7;rw [fF a7] at hk;generalize hn5:dq f5 kk5 (bidders.length - (i_6+1)) (i_6+1)=next5 at hk;rw [←hf5] at hk; (try dsimp only at hk);refine j1 ?_;refine cS (df (i:=i_6) rfl rfl rfl hbidders.1 hbidders.2.1 rfl a7) ?_;refine cS (fv 1 (i:=i_6) (j:=0) rfl rfl rfl hbidders.1 hbidders.2.1 a7 rfl (eP (hbidders.2.2 i_6 a7))) ?_;have hd23_3:=(eL (hbidders.2.2 i_6 a7)).2;haveI:=hd23_3.oneC;refine fW ?_;rintro _ _ ⟨g8,rfl,rfl⟩;refine gg ?_;refine eR ?_;refine gC ?_;refine cS (dk rfl rfl hd23_3 (List.length_map _)) ?_;have hm26:((nth bidders i_6).Blocks).length≤9223372036854775807:=(List.length_map _)▸hd23_3.max;refine dZ ?_;have hq:=fJ hk;clear hk;obtain ⟨f9,kk9,hf9,hkk9,hk⟩:=hq;refine eH ?_;refine T.pick [1,2] rfl a8 ?_;refine T.loop (ι:=Nat×List Int) (fun z=>[(6,v17),(18,vbidders),(19, .int .i64 (bidders.length:Int)),(20, .int .i64 (i_6:Int)),(25,(nth (nth cbidders i_6) 3)),(26, .int .i64 (((nth bidders i_6).Blocks).length:Int)),(27, .int .i64 (z.1:Int))]) (fun z=>[.sl v17 3 1 z.2.length (z.2.flatMap eI), .fr F1]) (fun z=>dq f9 kk9 ((((nth bidders i_6).Blocks).length) - z.1) z.1 z.2=some r) (fun z=>(((nth bidders i_6).Blocks).length) - z.1) (0,l_4) ?_ ?_ ?_ ?_
     ·exact hk
     ·exact q4k
     ·exact eG
     ·rintro ⟨i_10,l_8⟩ hk; (try dsimp only at *);refine eW ?_;refine T.cond rfl (fun h11=>?_) (fun h11=>?_)
      ·have p11:=of_decide_eq_true h11;rw [fF a7] at hk;generalize hn9:dq f9 kk9 ((((nth bidders i_6).Blocks).length) - (i_10+1)) (i_10+1)=next9 at hk;rw [←hf9] at hk; (try dsimp only at hk);refine kh ?_;refine cS (df (i:=i_10) rfl rfl rfl hd23_3 (List.length_map _) rfl a7) ?_;refine cS (dD 1 (i:=i_10) (j:=0) rfl rfl rfl hd23_3 a7) ?_;refine kz ?_;have hq:(0≤(i_10:Int)∧(i_10:Int)<(l_8.length:Int))∧_:=dB hk;clear hk;obtain ⟨g34,hk⟩:=hq; (try dsimp only at hk);refine eO ?_;refine cS (dL 0 (i:=i_10) rfl rfl rfl rfl rfl a7) ?_;refine cS (eg 0 rfl rfl rfl a7 (gK (enc:=eI) (i:=i_10) (j:=0) (fun _=>rfl) a7 a8)) ?_;refine dy ?_;refine cS (dh (v:= .int .i64 (wI ((nth l_8 i_10)+(nth ((nth bidders i_6).Blocks) i_10))))) ?_;refine cS (dL 0 (i:=i_10) rfl rfl rfl rfl rfl a7) ?_;refine dM (ez 0 (k':=(l_8.set i_10 (wI ((nth l_8 i_10)+(nth ((nth bidders i_6).Blocks) i_10)))).length) (l':=(l_8.set i_10 (wI ((nth l_8 i_10)+(nth ((nth bidders i_6).Blocks) i_10)))).flatMap eI) rfl rfl rfl rfl a7 (ik (enc:=eI) (xs:=l_8) (i:=i_10) (j:=0) (size:=1) (fun _=>rfl) a7 a8 a7) (ij (enc:=eI) (xs:=l_8) (i:=i_10) (j:=0) (size:=1) (x:=(wI ((nth l_8 i_10)+(nth ((nth bidders i_6).Blocks) i_10)))) (fun _=>rfl) a7 a8 a7 rfl) (List.length_set ..)) ?_;refine ee ?_;refine jg ?_;rw [←hn9] at hk;exact K.next ((i_10+1),(l_8.set i_10 (wI ((nth l_8 i_10)+(nth ((nth bidders i_6).Blocks) i_10))))) hk b5 (.c (.c (.c (.c (.c (.c (.c .nil))))))) (List.Sublist.refl _)
      ·have p11:=of_decide_eq_false h11;rw [fH a7,←hkk9] at hk; (try dsimp only at hk);refine q3p ?_;refine jh ?_;rw [←hn5] at hk;exact K.next ((i_6+1),l_8) hk b5 (.c (.c (.c (.c .nil)))) (List.Sublist.refl _)
    ·have p7:=of_decide_eq_false h7;rw [fH a7,←hkk5] at hk; (try dsimp only at hk);refine eN ?_;exact q4q
  ·rintro l_2 hk;rw [←hk3] at hk; (try dsimp only at hk);refine jO ?_;refine il ?_;obtain rfl:=Option.some.inj hk;exact fh rfl rfl rfl (fun w' hw=>⟨v17,trivial,rfl,dp (hw.pick (idx:=[0,1]) rfl a8) hS0 (Frz.Le.refl _)⟩)
def zdN (l:List GProduct)(blocks:List Int):Option Bool:=
 (zbO l).bind fun r6=>
 some (r6&&(kD l blocks))
theorem zgR (F0:Frz)(w:World)(hF0:F0.At w)(l:List GProduct)(vl:Value)(hl:SlC F0 vl 5 (l.map cV))(blocks:List Int)(vblocks:Value)(hblocks:SlC F0 vblocks 1 (blocks.map eI))(r:Bool)(hr:zdN l blocks=some r):Calls Tryz.prog 241 #[vl,vblocks] w fun e w'=>e= .returned (.bool r)∧Below w.heap.size w w':=by
 have hk:=hr;unfold zdN at hk;haveI:=hl.oneC;haveI:=hblocks.oneC;obtain ⟨S0,F1,rfl,hS0,hp0⟩:=eo hF0;refine dQ Tryz.func241 rfl rfl rfl hp0 ?_;refine eW ?_;have hq:=dw hk;clear hk;obtain ⟨r6,hr6,hk⟩:=hq; (try dsimp only at hk);refine c9 (ι:=Unit) (fun z=>[(4, .bool (r6&&(kD l blocks)))]) (fun z=>[.fr F1]) (fun z=>True) ?_ ?_
 ·refine ef ?_;refine cX (de rfl rfl rfl (fun w hw=>zds _ w (hw.fr (i:=0) rfl) l vl hl r6 hr6)) ?_;refine ee ?_;refine dy ?_;refine dg rfl rfl rfl (fun h1=>?_) (fun h1=>?_)
  ·refine ek ?_;refine cX (de rfl rfl rfl (fun w hw=>zfP _ w (hw.fr (i:=0) rfl) l vl hl blocks vblocks hblocks)) ?_;refine kZ ?_;exact q4x
  ·refine lE ?_;exact q4y
 ·rintro _ _;refine T.ret ?_;obtain rfl:=Option.some.inj hk;exact d8
def zdM (l:List GProduct)(blocks:List Int):Option (Int×Int):=
 (zdN l blocks).bind fun r8=>
 (bif !r8 then
 some (0,2)
 else
 (zcb l blocks).bind fun r12=>
 some (r12,0))
theorem zgQ (F0:Frz)(w:World)(hF0:F0.At w)(l:List GProduct)(vl:Value)(hl:SlC F0 vl 5 (l.map cV))(blocks:List Int)(vblocks:Value)(hblocks:SlC F0 vblocks 1 (blocks.map eI))(r:Int×Int)(hr:zdM l blocks=some r):Calls Tryz.prog 209 #[vl,vblocks] w fun e w'=>e= .returned (.tuple #[.int .i64 r.1, .int .i64 r.2])∧Below w.heap.size w w':=by
 have hk:=hr;unfold zdM at hk;haveI:=hl.oneC;haveI:=hblocks.oneC;obtain ⟨S0,F1,rfl,hS0,hp0⟩:=eo hF0;refine dQ Tryz.func209 rfl rfl rfl hp0 ?_;refine gO ?_;refine iT ?_;have hq:=dw hk;clear hk;obtain ⟨r8,hr8,hk⟩:=hq; (try dsimp only at hk);refine eO ?_;refine cX (de rfl rfl rfl (fun w hw=>zgR _ w (hw.fr (i:=0) rfl) l vl hl blocks vblocks hblocks r8 hr8)) ?_;refine mw ?_;refine T.cond rfl (fun h1=>?_) (fun h1=>?_)
 ·replace hk:=dr hk h1;refine kM ?_;obtain rfl:=Option.some.inj hk;exact kW
 ·replace hk:=dt hk h1;refine fN ?_;have hq:=dw hk;clear hk;obtain ⟨r12,hr12,hk⟩:=hq; (try dsimp only at hk);refine eO ?_;refine cX (de rfl rfl rfl (fun w hw=>zfk _ w (hw.fr (i:=0) rfl) l vl hl blocks vblocks hblocks r12 hr12)) ?_;refine jN ?_;refine il ?_;obtain rfl:=Option.some.inj hk;exact kW
def zch (l:List GProduct)(b:GBidder):Option (Gholder×Bool):=
 (j6 l [b]).bind fun r11=>
 (bif !r11 then
 some ((Gholder.mk (GBidder.mk 0 0 0 []) 0),false)
 else
 (zdM l b.Blocks).bind fun r18=>
 some ((Gholder.mk (GBidder.mk b.ID b.Eligibility b.Waivers b.Blocks) r18.1),decide (r18.2=0)))
theorem zek (F0:Frz)(w:World)(hF0:F0.At w)(l:List GProduct)(vl:Value)(hl:SlC F0 vl 5 (l.map cV))(b:GBidder)(vb_3:Value)(hb_3:SlC F0 vb_3 1 (b.Blocks.map eI))(r:Gholder×Bool)(hr:zch l b=some r):Calls Tryz.prog 151 #[vl, .agg [.int .i64 b.ID, .int .i64 b.Eligibility, .int .i64 b.Waivers,vb_3].toArray] w fun e w'=>∃(y:Value) (G:Frz),(SlC G y 1 (r.1.Bidder.Blocks.map eI))∧e= .returned (.tuple #[.agg [.int .i64 r.1.Bidder.ID, .int .i64 r.1.Bidder.Eligibility, .int .i64 r.1.Bidder.Waivers,y, .int .i64 r.1.units].toArray, .bool r.2])∧Fx F0 w G w':=by
 have hk:=hr;unfold zch at hk;haveI:=hl.oneC;haveI:=hb_3.oneC;obtain ⟨S0,F1,rfl,hS0,hp0⟩:=eo hF0;refine dQ Tryz.func151 rfl rfl rfl hp0 ?_;refine iA ?_;rintro _ _ ⟨g3,rfl,rfl⟩;refine fW ?_;rintro _ _ ⟨g4,rfl,rfl⟩;refine kC ?_;have hq:=dw hk;clear hk;obtain ⟨r11,hr11,hk⟩:=hq; (try dsimp only at hk);refine ef ?_;refine q2g ?_;refine iz ?_;rintro _ _ ⟨g10,rfl,rfl⟩;have hl10:OwnD cR F1.toFrz 4 [[.int .i64 b.ID, .int .i64 b.Eligibility, .int .i64 b.Waivers,vb_3]] [b]:=(fB (OwnD.nil _ _ 4) ⟨_,rfl,hb_3⟩);refine gX (fun w hw=>hw.freezeR (i:=3) (j:=0) a8 rfl rfl) ?_;rintro F2 ⟨le1_2,hz2⟩;refine fI ?_;have hf2:SlD cR F2.toFrz (.slice (some ⟨g10,0,none⟩) 1 1) 4 [[.int .i64 b.ID, .int .i64 b.Eligibility, .int .i64 b.Waivers,vb_3]] [b]:=(SlK.lit hz2 rfl (Nat.le_refl _) a8).toD (OwnD.mono (rep:=cR) (fun _ _ _ _=>GBidder.mono) hl10 le1_2) rfl;refine cX (de rfl rfl rfl (fun w hw=>zcq _ w (hw.fr (i:=2) rfl) l vl (SlC.mono hl le1_2) [b] (.slice (some ⟨g10,0,none⟩) 1 1) [[.int .i64 b.ID, .int .i64 b.Eligibility, .int .i64 b.Waivers,vb_3]] hf2 r11 hr11)) ?_;refine mw ?_;refine T.cond rfl (fun h1=>?_) (fun h1=>?_)
 ·replace hk:=dr hk h1;refine q3G ?_;refine gg ?_;refine lw ?_;obtain rfl:=Option.some.inj hk;exact iE 0 rfl rfl rfl rfl rfl (fun w' hw=>⟨(.slice none 0 0),F2.toFrz,(SlC.nil _ 1),rfl,dU hw (i:=2) rfl hS0 le1_2⟩)
 ·replace hk:=dt hk h1;refine fN ?_;have hq:=dw hk;clear hk;obtain ⟨r18,hr18,hk⟩:=hq; (try dsimp only at hk);refine ef ?_;refine kP ?_;refine cX (de rfl rfl rfl (fun w hw=>zgQ _ w (hw.fr (i:=2) rfl) l vl (SlC.mono hl le1_2) b.Blocks vb_3 (SlC.mono hb_3 le1_2) r18 hr18)) ?_;refine ee ?_;refine io ?_;refine eR ?_;refine q2g ?_;refine dy ?_;refine jE ?_;refine ek ?_;refine gg ?_;refine iw ?_;obtain rfl:=Option.some.inj hk;exact iE 0 rfl rfl rfl rfl rfl (fun w' hw=>⟨vb_3,F2.toFrz,(SlC.mono hb_3 le1_2),rfl,dU hw (i:=2) rfl hS0 le1_2⟩)
def j2 (n:Int)(low:Int)(high:Int):Bool:=
 ((decide (low≤n))&&(decide (n≤high)))
theorem zcf (F0:Frz)(w:World)(hF0:F0.At w)(n:Int)(low:Int)(high:Int):Calls Tryz.prog 152 #[.int .i64 n, .int .i64 low, .int .i64 high] w fun e w'=>e= .returned (.bool (j2 n low high))∧Below w.heap.size w w':=by
 obtain ⟨r,hk⟩:∃r,j2 n low high=r:=⟨_,rfl⟩;rw [hk];unfold j2 at hk;obtain ⟨S0,F1,rfl,hS0,hp0⟩:=eo hF0;refine dQ Tryz.func152 rfl rfl rfl hp0 ?_;refine eW ?_;refine c9 (ι:=Unit) (fun z=>[(6, .bool ((decide (low≤n))&&(decide (n≤high))))]) (fun z=>[.fr F1]) (fun z=>True) ?_ ?_
 ·refine lX ?_;refine dg rfl rfl rfl (fun h1=>?_) (fun h1=>?_)
  ·have p1:=of_decide_eq_true h1;refine lE ?_;exact q4x
  ·have p1:=of_decide_eq_false h1;refine lE ?_;exact q4y
 ·rintro _ _;refine T.ret ?_;subst hk;exact d8
def zaW (h_:Gholder)(l:List GProduct)(product:Int):Option Int:=
 dj (0≤product∧product<(l.length:Int)) <|
 dj (0≤product∧product<(h_.Bidder.Blocks.length:Int)) <|
 dj (0≤wI (h_.Bidder.Eligibility - h_.units)∧wI (h_.Bidder.Eligibility - h_.units)≤9223372036854775807∧1≤(nth l product.toNat).Units) <|
 some (min (wI (((nth l product.toNat).Supply) - (nth h_.Bidder.Blocks product.toNat))) ((wI (h_.Bidder.Eligibility - h_.units)) / ((nth l product.toNat).Units)))
theorem zcm (F0:Frz)(w:World)(hF0:F0.At w)(h_:Gholder)(vh__3:Value)(hh__3:SlC F0 vh__3 1 (h_.Bidder.Blocks.map eI))(l:List GProduct)(vl:Value)(hl:SlC F0 vl 5 (l.map cV))(product:Int)(r:Int)(hr:zaW h_ l product=some r):Calls Tryz.prog 153 #[.agg [.int .i64 h_.Bidder.ID, .int .i64 h_.Bidder.Eligibility, .int .i64 h_.Bidder.Waivers,vh__3, .int .i64 h_.units].toArray,vl, .int .i64 product] w fun e w'=>e= .returned (.int .i64 r)∧Below w.heap.size w w':=by
 have hk:=hr;unfold zaW at hk;haveI:=hh__3.oneC;haveI:=hl.oneC;obtain ⟨S0,F1,rfl,hS0,hp0⟩:=eo hF0;refine dQ Tryz.func153 rfl rfl rfl hp0 ?_;refine iA ?_;rintro _ _ ⟨g3,rfl,rfl⟩;refine gD ?_;have hq:(0≤product∧product<(l.length:Int))∧_:=dB hk;clear hk;obtain ⟨g10,hk⟩:=hq; (try dsimp only at hk);refine eO ?_;refine cS (df (i:=product.toNat) rfl rfl rfl hl (List.length_map _) a7 a7) ?_;refine cS (iK 1 (i:=product.toNat) rfl rfl rfl hl a7) ?_;refine fW ?_;rintro _ _ ⟨g7,rfl,rfl⟩;refine gg ?_;refine fi ?_;have hq:(0≤product∧product<(h_.Bidder.Blocks.length:Int))∧_:=dB hk;clear hk;obtain ⟨g18,hk⟩:=hq;have hq:(0≤wI (h_.Bidder.Eligibility - h_.units)∧wI (h_.Bidder.Eligibility - h_.units)≤9223372036854775807∧1≤(nth l product.toNat).Units)∧_:=dB hk;clear hk;obtain ⟨g29,hk⟩:=hq; (try dsimp only at hk);refine q17 ?_;refine iy ?_;refine jf ?_;refine jw ?_;refine fS ?_;refine cU rfl (df (i:=product.toNat) rfl rfl rfl hh__3 (List.length_map _) a7 a7) ?_;refine cU rfl (dD 2 (i:=product.toNat) (j:=0) rfl rfl rfl hh__3 a7) ?_;refine cU rfl (dh (v:= .int .i64 (wI (((nth l product.toNat).Supply) - (nth h_.Bidder.Blocks product.toNat))))) ?_;refine jf ?_;refine jw ?_;refine jw ?_;refine cU rfl (dh (v:= .int .i64 (wI (h_.Bidder.Eligibility - h_.units)))) ?_;refine iy ?_;refine cU rfl (gc (a:=wI (h_.Bidder.Eligibility - h_.units)) (b:=(nth l product.toNat).Units) rfl rfl rfl g29) ?_;refine cU rfl (Yv.min2 rfl rfl rfl) ?_;refine iM ?_;refine K.seq (T.ret ?_);obtain rfl:=Option.some.inj hk;exact d8
def zcD (l:List GProduct)(b:GBidder)(product:Int):Option (Int×Int):=
 (zch l b).bind fun r13=>
 (bif ((!r13.2)||(!(j2 product 0 (wI ((l.length:Int) - 1))))) then
 some (0,2)
 else
 (zaW r13.1 l product).bind fun r29=>
 some (r29,0))
theorem zgG (F0:Frz)(w:World)(hF0:F0.At w)(l:List GProduct)(vl:Value)(hl:SlC F0 vl 5 (l.map cV))(b:GBidder)(vb_3:Value)(hb_3:SlC F0 vb_3 1 (b.Blocks.map eI))(product:Int)(r:Int×Int)(hr:zcD l b product=some r):Calls Tryz.prog 69 #[vl, .agg [.int .i64 b.ID, .int .i64 b.Eligibility, .int .i64 b.Waivers,vb_3].toArray, .int .i64 product] w fun e w'=>e= .returned (.tuple #[.int .i64 r.1, .int .i64 r.2])∧Below w.heap.size w w':=by
 have hk:=hr;unfold zcD at hk;haveI:=hl.oneC;haveI:=hb_3.oneC;obtain ⟨S0,F1,rfl,hS0,hp0⟩:=eo hF0;refine dQ Tryz.func69 rfl rfl rfl hp0 ?_;refine iA ?_;rintro _ _ ⟨g4,rfl,rfl⟩;refine ek ?_;refine fi ?_;have hq:=dw hk;clear hk;obtain ⟨r13,hr13,hk⟩:=hq; (try dsimp only at hk);refine ef ?_;refine jB ?_;refine cX (dl 1 rfl rfl rfl rfl (fun w hw hF=>zek _ w hF l vl hl b vb_3 hb_3 r13 hr13)) ?_;rintro _ _ ⟨v13_0_3,F2,le1_2,hf13_0_3,rfl,rfl⟩;haveI:=hf13_0_3.oneC;refine l9 ?_;rintro _ _ ⟨g8,rfl,rfl⟩;refine gg ?_;refine kC ?_;refine c9 (ι:=Unit) (fun z=>[(0,vl),(2, .int .i64 product),(8, .pointer (some ⟨g8,0,none⟩)),(25, .bool ((!r13.2)||(!(j2 product 0 (wI ((l.length:Int) - 1))))))]) (fun z=>[.row g8 199 [.int .i64 r13.1.Bidder.ID, .int .i64 r13.1.Bidder.Eligibility, .int .i64 r13.1.Bidder.Waivers,v13_0_3, .int .i64 r13.1.units], .row g4 57 [.int .i64 b.ID, .int .i64 b.Eligibility, .int .i64 b.Waivers,vb_3], .fr F2]) (fun z=>True) ?_ ?_
 ·refine ie ?_;refine dg rfl rfl rfl (fun h1=>?_) (fun h1=>?_)
  ·refine TL.run 7 rfl ?_;refine fG ?_;exact cY () trivial (.c (.c (.c (.b (eD h1).symm .nil)))) (List.Sublist.refl _)
  ·refine ek ?_;refine q23 ?_;have hm21:l.length≤9223372036854775807:=(List.length_map _)▸(SlC.mono hl le1_2).max;refine q33 ?_;exact cY () trivial (.c (.c (.c (.b (Eq.trans (congrArg not (by rw [show wI ((l.length:Int) - 1)=((l.length:Int) - 1) from IntWalk.i64_in _ a7])) (fK h1)) .nil)))) (List.Sublist.refl _)
 ·rintro _ _;refine T.cond rfl (fun h2=>?_) (fun h2=>?_)
  ·replace hk:=dr hk h2;refine kM ?_;obtain rfl:=Option.some.inj hk;exact kW
  ·replace hk:=dt hk h2;refine fN ?_;have hq:=dw hk;clear hk;obtain ⟨r29,hr29,hk⟩:=hq; (try dsimp only at hk);refine gy ?_;refine jB ?_;refine ek ?_;refine cX (de rfl rfl rfl (fun w hw=>zcm _ w (hw.fr (i:=2) rfl) r13.1 v13_0_3 hf13_0_3 l vl (SlC.mono hl le1_2) product r29 hr29)) ?_;refine jN ?_;refine il ?_;obtain rfl:=Option.some.inj hk;exact kW
def zcT (l:List GProduct)(total:List Int):Option (List Int×Int):=
 (zbO l).bind fun r10=>
 (bif ((!r10)||(decide (¬(total.length:Int)=(l.length:Int)))) then
 some ([],2)
 else
 dj (dm l.length 8) <|
 dF (fun (l_3:List Int)=>
 some (l_3,0))
 (fun k4=>
 dq (fun (i_7:Nat) (next6:List Int→Option (List Int×Int)) (l_5:List Int)=>
 (bif ((decide ((nth total i_7)<0))||(decide (384<(nth total i_7)))) then
 some ([],2)
 else
 dj (0≤(i_7:Int)∧(i_7:Int)<(l_5.length:Int)) <|
 next6 (l_5.set i_7 (max (wI ((nth total i_7) - ((nth l i_7).Supply))) 0))))
 (fun (l_5:List Int)=>
 k4 l_5) (total.length - 0) 0 (List.replicate l.length (0:Int))))
theorem zgK (F0:Frz)(w:World)(hF0:F0.At w)(l:List GProduct)(vl:Value)(hl:SlC F0 vl 5 (l.map cV))(total:List Int)(vtotal:Value)(htotal:SlC F0 vtotal 1 (total.map eI))(r:List Int×Int)(hr:zcT l total=some r):Calls Tryz.prog 114 #[vl,vtotal] w fun e w'=>∃(y:Value) (G:Frz),(SlC G y 1 (r.1.map eI))∧e= .returned (.tuple #[y, .int .i64 r.2])∧Fx F0 w G w':=by
 have hk:=hr;unfold zcT at hk;haveI:=hl.oneC;haveI:=htotal.oneC;obtain ⟨S0,F1,rfl,hS0,hp0⟩:=eo hF0;refine dQ Tryz.func114 rfl rfl rfl hp0 ?_;refine gO ?_;refine iT ?_;have hq:=dw hk;clear hk;obtain ⟨r10,hr10,hk⟩:=hq; (try dsimp only at hk);refine c9 (ι:=Unit) (fun z=>[(0,vl),(1,vtotal),(18, .bool ((!r10)||(decide (¬(total.length:Int)=(l.length:Int)))))]) (fun z=>[.fr F1]) (fun z=>True) ?_ ?_
 ·refine ef ?_;refine cX (de rfl rfl rfl (fun w hw=>zds _ w (hw.fr (i:=0) rfl) l vl hl r10 hr10)) ?_;refine jN ?_;refine dg rfl rfl rfl (fun h1=>?_) (fun h1=>?_)
  ·refine q3b ?_;exact cY () trivial (.c (.c (.b (eD h1).symm .nil))) (List.Sublist.refl _)
  ·refine dy ?_;refine cS (dk rfl rfl htotal (List.length_map _)) ?_;have hm14:total.length≤9223372036854775807:=(List.length_map _)▸htotal.max;refine dy ?_;refine q1V ?_;have hm16:l.length≤9223372036854775807:=(List.length_map _)▸hl.max;refine jZ ?_;exact cY () trivial (.c (.c (.b (fK h1) .nil))) (List.Sublist.refl _)
 ·rintro _ _;have hm14:total.length≤9223372036854775807:=(List.length_map _)▸htotal.max;have hm16:l.length≤9223372036854775807:=(List.length_map _)▸hl.max;refine T.cond rfl (fun h2=>?_) (fun h2=>?_)
  ·replace hk:=dr hk h2;refine kM ?_;obtain rfl:=Option.some.inj hk;exact q4F
  ·have p2:=h2; (try simp only [iC] at p2);replace hk:=dt hk h2;refine fN ?_;have hq:(dm l.length 8)∧_:=dB hk;clear hk;obtain ⟨g21,hk⟩:=hq; (try dsimp only at hk);refine ef ?_;refine q1V ?_;refine cX (fZ (n':=l.length) (enc:=eI) (u:=(0:Int)) rfl rfl rfl rfl g21 a8 a8 (fun _=>rfl) rfl) ?_;rintro v21 _ ⟨hv21,rfl⟩;refine km ?_;intro iv21 hmv21;refine li ?_;refine cS (dk rfl rfl htotal (List.length_map _)) ?_;refine dZ ?_;have hq:=d7 hk;clear hk;obtain ⟨k4,hk4,hk⟩:=hq; (try dsimp only at hk);refine c9 (ι:=List Int) (fun z=>[(6,v21)]) (fun z=>[.sl v21 3 1 z.length (z.flatMap eI), .fr F1]) (fun z=>k4 z=some r) ?_ ?_
   ·have hq:=fJ hk;clear hk;obtain ⟨f6,kk6,hf6,hkk6,hk⟩:=hq;refine eH ?_;refine T.loop (ι:=Nat×List Int) (fun z=>[(0,vl),(6,v21),(22,vtotal),(23, .int .i64 (total.length:Int)),(24, .int .i64 (z.1:Int))]) (fun z=>[.sl v21 3 1 z.2.length (z.2.flatMap eI), .fr F1]) (fun z=>dq f6 kk6 (total.length - z.1) z.1 z.2=some r) (fun z=>total.length - z.1) (0,(List.replicate l.length (0:Int))) ?_ ?_ ?_ ?_
    ·exact hk
    ·exact kn
    ·exact eG
    ·rintro ⟨i_7,l_5⟩ hk; (try dsimp only at *);refine eW ?_;refine T.cond rfl (fun h8=>?_) (fun h8=>?_)
     ·have p8:=of_decide_eq_true h8;rw [fF a7] at hk;generalize hn6:dq f6 kk6 (total.length - (i_7+1)) (i_7+1)=next6 at hk;rw [←hf6] at hk; (try dsimp only at hk);refine kh ?_;refine cS (df (i:=i_7) rfl rfl rfl htotal (List.length_map _) rfl a7) ?_;refine cS (dD 1 (i:=i_7) (j:=0) rfl rfl rfl htotal a7) ?_;refine ek ?_;refine iT ?_;refine c9 (ι:=Unit) (fun z=>[(0,vl),(6,v21),(7, .int .i64 (i_7:Int)),(8, .int .i64 (nth total i_7)),(22,vtotal),(23, .int .i64 (total.length:Int)),(24, .int .i64 (i_7:Int)),(34, .bool ((decide ((nth total i_7)<0))||(decide (384<(nth total i_7)))))]) (fun z=>[.sl v21 3 1 l_5.length (l_5.flatMap eI), .fr F1]) (fun z=>True) ?_ ?_
      ·refine ie ?_;refine dg rfl rfl rfl (fun h9=>?_) (fun h9=>?_)
       ·have p9:=of_decide_eq_true h9;refine q3P ?_;exact cY () trivial (.c (.c (.c (.c (.c (.c (.c (.b (eD h9).symm .nil)))))))) (List.Sublist.refl _)
       ·have p9:=of_decide_eq_false h9;refine q3P ?_;exact cY () trivial (.c (.c (.c (.c (.c (.c (.c (.b (fK h9) .nil)))))))) (List.Sublist.refl _)
      ·rintro _ _;refine T.cond rfl (fun h10=>?_) (fun h10=>?_)
       ·replace hk:=dr hk h10;refine gO ?_;refine q3x ?_;obtain rfl:=Option.some.inj hk;exact fh rfl rfl rfl (fun w' hw=>⟨(.slice none 0 0),F1.toFrz,(SlC.nil _ 1),rfl,dU hw (i:=1) rfl hS0 (Frz.Le.refl _)⟩)
       ·have p10:=h10; (try simp only [iC] at p10);replace hk:=dt hk h10;refine T.skip (K.seq ?_);have hq:(0≤(i_7:Int)∧(i_7:Int)<(l_5.length:Int))∧_:=dB hk;clear hk;obtain ⟨g45,hk⟩:=hq; (try dsimp only at hk);refine gy ?_;refine io ?_;refine cS (df (i:=i_7) rfl rfl rfl hl (List.length_map _) rfl a7) ?_;refine cS (fL rfl rfl hl (List.length_map _) a7) ?_;refine cS (dD 1 (i:=i_7) (j:=2) rfl rfl rfl hl a7) ?_;refine cS (dh (v:= .int .i64 (wI ((nth total i_7) - ((nth l i_7).Supply))))) ?_;refine cS (Yv.max2 rfl rfl rfl) ?_;refine cS (dL 0 (i:=i_7) rfl rfl rfl rfl rfl a7) ?_;refine dM (ez 0 (k':=(l_5.set i_7 (max (wI ((nth total i_7) - ((nth l i_7).Supply))) 0)).length) (l':=(l_5.set i_7 (max (wI ((nth total i_7) - ((nth l i_7).Supply))) 0)).flatMap eI) rfl rfl rfl rfl a7 (ik (enc:=eI) (xs:=l_5) (i:=i_7) (j:=0) (size:=1) (fun _=>rfl) a7 a8 a7) (ij (enc:=eI) (xs:=l_5) (i:=i_7) (j:=0) (size:=1) (x:=(max (wI ((nth total i_7) - ((nth l i_7).Supply))) 0)) (fun _=>rfl) a7 a8 a7 rfl) (List.length_set ..)) ?_;refine ee ?_;refine jg ?_;rw [←hn6] at hk;exact K.next ((i_7+1),(l_5.set i_7 (max (wI ((nth total i_7) - ((nth l i_7).Supply))) 0))) hk b5 (.c (.c (.c (.c (.c .nil))))) (List.Sublist.refl _)
     ·have p8:=of_decide_eq_false h8;rw [fH a7,←hkk6] at hk; (try dsimp only at hk);refine eN ?_;exact cY l_5 hk (.c .nil) (List.Sublist.refl _)
   ·rintro l_3 hk;rw [←hk4] at hk; (try dsimp only at hk);refine jO ?_;refine q2x ?_;rintro F2 ⟨le1_2,hz2⟩;refine fI ?_;have hfF2:=hz2.toF rfl (fun _=>rfl);haveI:=hfF2.oneC;obtain rfl:=Option.some.inj hk;exact fh rfl rfl rfl (fun w' hw=>⟨v21,F2.toFrz,hfF2,rfl,dU hw (i:=0) rfl hS0 le1_2⟩)
def zcJ (eligibility:Int)(percent:Int):Option (Int×Int):=
 (bif ((!(j2 eligibility 0 76800000))||(!(j2 percent 1 100))) then
 some (0,2)
 else
 dj (0≤wI ((wI (eligibility*percent))+99)∧wI ((wI (eligibility*percent))+99)≤9223372036854775807∧1≤(100:Int)) <|
 some (((wI ((wI (eligibility*percent))+99)) / 100),0))
theorem zfq (F0:Frz)(w:World)(hF0:F0.At w)(eligibility:Int)(percent:Int)(r:Int×Int)(hr:zcJ eligibility percent=some r):Calls Tryz.prog 240 #[.int .i64 eligibility, .int .i64 percent] w fun e w'=>e= .returned (.tuple #[.int .i64 r.1, .int .i64 r.2])∧Below w.heap.size w w':=by
 have hk:=hr;unfold zcJ at hk;obtain ⟨S0,F1,rfl,hS0,hp0⟩:=eo hF0;refine dQ Tryz.func240 rfl rfl rfl hp0 ?_;refine gO ?_;refine iT ?_;refine c9 (ι:=Unit) (fun z=>[(0, .int .i64 eligibility),(1, .int .i64 percent),(13, .bool ((!(j2 eligibility 0 76800000))||(!(j2 percent 1 100))))]) (fun z=>[.fr F1]) (fun z=>True) ?_ ?_
 ·refine ef ?_;refine cX (de rfl rfl rfl (fun w hw=>zcf _ w (hw.fr (i:=0) rfl) eligibility 0 76800000)) ?_;refine jN ?_;refine dg rfl rfl rfl (fun h1=>?_) (fun h1=>?_)
  ·refine jH ?_;exact cY () trivial (.c (.c (.b (eD h1).symm .nil))) (List.Sublist.refl _)
  ·refine dy ?_;refine cX (de rfl rfl rfl (fun w hw=>zcf _ w (hw.fr (i:=0) rfl) percent 1 100)) ?_;refine kZ ?_;exact cY () trivial (.c (.c (.b (fK h1) .nil))) (List.Sublist.refl _)
 ·rintro _ _;refine T.cond rfl (fun h2=>?_) (fun h2=>?_)
  ·replace hk:=dr hk h2;refine kM ?_;obtain rfl:=Option.some.inj hk;exact kW
  ·replace hk:=dt hk h2;refine fN ?_;have hq:(0≤wI ((wI (eligibility*percent))+99)∧wI ((wI (eligibility*percent))+99)≤9223372036854775807∧1≤(100:Int))∧_:=dB hk;clear hk;obtain ⟨g18,hk⟩:=hq; (try dsimp only at hk);refine lX ?_;refine cS (gc rfl rfl rfl g18) ?_;refine mf ?_;obtain rfl:=Option.some.inj hk;exact kW
def zcX (eligibility:Int)(waivers:Int)(activity:Int)(percent:Int):Option (Int×Int×Int):=
 (zcJ eligibility percent).bind fun r16=>
 (bif (((decide (¬r16.2=0))||(!(j2 waivers 0 3)))||(!(j2 activity 0 eligibility))) then
 some (0,0,2)
 else
 (bif decide (r16.1≤activity) then
 some (eligibility,waivers,0)
 else
 (bif decide (0<waivers) then
 some (eligibility,wI (waivers - 1),0)
 else
 dj (0≤wI (activity*100)∧wI (activity*100)≤9223372036854775807∧1≤percent) <|
 some (((wI (activity*100)) / percent),0,0))))
theorem zgt (F0:Frz)(w:World)(hF0:F0.At w)(eligibility:Int)(waivers:Int)(activity:Int)(percent:Int)(r:Int×Int×Int)(hr:zcX eligibility waivers activity percent=some r):Calls Tryz.prog 208 #[.int .i64 eligibility, .int .i64 waivers, .int .i64 activity, .int .i64 percent] w fun e w'=>e= .returned (.tuple #[.int .i64 r.1, .int .i64 r.2.1, .int .i64 r.2.2])∧Below w.heap.size w w':=by
 have hk:=hr;unfold zcX at hk;obtain ⟨S0,F1,rfl,hS0,hp0⟩:=eo hF0;refine dQ Tryz.func208 rfl rfl rfl hp0 ?_;refine jO ?_;refine fi ?_;have hq:=dw hk;clear hk;obtain ⟨r16,hr16,hk⟩:=hq; (try dsimp only at hk);refine eO ?_;refine cX (de rfl rfl rfl (fun w hw=>zfq _ w (hw.fr (i:=0) rfl) eligibility percent r16 hr16)) ?_;refine ee ?_;refine io ?_;refine iT ?_;refine c9 (ι:=Unit) (fun z=>[(0, .int .i64 eligibility),(1, .int .i64 waivers),(2, .int .i64 activity),(3, .int .i64 percent),(11, .int .i64 r16.1),(31, .bool (((decide (¬r16.2=0))||(!(j2 waivers 0 3)))||(!(j2 activity 0 eligibility))))]) (fun z=>[.fr F1]) (fun z=>True) ?_ ?_
 ·refine ie ?_;refine dg rfl rfl rfl (fun h1=>?_) (fun h1=>?_)
  ·have p1:=of_decide_eq_true h1;refine q31 ?_;exact cY () trivial (.c (.c (.c (.c (.c (.b (eD (eD h1)).symm .nil)))))) (List.Sublist.refl _)
  ·have p1:=of_decide_eq_false h1;refine dy ?_;refine cX (de rfl rfl rfl (fun w hw=>zcf _ w (hw.fr (i:=0) rfl) waivers 0 3)) ?_;refine ee ?_;refine fP ?_;refine dg rfl rfl rfl (fun h2=>?_) (fun h2=>?_)
   ·refine lE ?_;exact cY () trivial (.c (.c (.c (.c (.c (.b (eD (fw h1 h2)).symm .nil)))))) (List.Sublist.refl _)
   ·refine ek ?_;refine cX (de rfl rfl rfl (fun w hw=>zcf _ w (hw.fr (i:=0) rfl) activity 0 eligibility)) ?_;refine kZ ?_;exact cY () trivial (.c (.c (.c (.c (.c (.b (fK (fw h1 h2)) .nil)))))) (List.Sublist.refl _)
 ·rintro _ _;refine T.cond rfl (fun h3=>?_) (fun h3=>?_)
  ·replace hk:=dr hk h3;refine jO ?_;refine jt ?_;obtain rfl:=Option.some.inj hk;exact q4u
  ·have p3:=h3; (try simp only [iC] at p3);replace hk:=dt hk h3;refine j1 ?_;refine kJ ?_;refine dz ?_;refine T.cond rfl (fun h4=>?_) (fun h4=>?_)
   ·have p4:=of_decide_eq_true h4;replace hk:=dr hk h4;refine dY ?_;refine io ?_;refine dz (T.ret (gp (gk ?_)));obtain rfl:=Option.some.inj hk;exact q4u
   ·have p4:=of_decide_eq_false h4;replace hk:=dt hk h4;refine jO ?_;refine dz ?_;refine T.cond rfl (fun h5=>?_) (fun h5=>?_)
    ·have p5:=of_decide_eq_true h5;replace hk:=dr hk h5;refine dY ?_;refine TL.run 6 rfl ?_;refine dz (T.ret (gp (gk ?_)));obtain rfl:=Option.some.inj hk;exact q4u
    ·have p5:=of_decide_eq_false h5;replace hk:=dt hk h5;refine T.skip (fA (K.seq (T.seq ?_)));have hq:(0≤wI (activity*100)∧wI (activity*100)≤9223372036854775807∧1≤percent)∧_:=dB hk;clear hk;obtain ⟨g47,hk⟩:=hq; (try dsimp only at hk);refine ie ?_;refine cS (gc rfl rfl rfl g47) ?_;refine fP ?_;refine il ?_;obtain rfl:=Option.some.inj hk;exact q4u
def zcA (l:List GProduct)(b:GBidder)(percent:Int):Option (GBidder×Int):=
 (zch l b).bind fun r16=>
 (bif !r16.2 then
 some ((GBidder.mk 0 0 0 []),2)
 else
 (zcX r16.1.Bidder.Eligibility r16.1.Bidder.Waivers r16.1.units percent).bind fun r32=>
 (bif decide (¬r32.2.2=0) then
 some ((GBidder.mk 0 0 0 []),r32.2.2)
 else
 dj (dm r16.1.Bidder.Blocks.length 8) <|
 some ((GBidder.mk r16.1.Bidder.ID r32.1 r32.2.1 r16.1.Bidder.Blocks),0)))
theorem zeH (F0:Frz)(w:World)(hF0:F0.At w)(l:List GProduct)(vl:Value)(hl:SlC F0 vl 5 (l.map cV))(b:GBidder)(vb_3:Value)(hb_3:SlC F0 vb_3 1 (b.Blocks.map eI))(percent:Int)(r:GBidder×Int)(hr:zcA l b percent=some r):Calls Tryz.prog 150 #[vl, .agg [.int .i64 b.ID, .int .i64 b.Eligibility, .int .i64 b.Waivers,vb_3].toArray, .int .i64 percent] w fun e w'=>∃(y:Value) (G:Frz),(SlC G y 1 (r.1.Blocks.map eI))∧e= .returned (.tuple #[.agg [.int .i64 r.1.ID, .int .i64 r.1.Eligibility, .int .i64 r.1.Waivers,y].toArray, .int .i64 r.2])∧Fx F0 w G w':=by
 have hk:=hr;unfold zcA at hk;haveI:=hl.oneC;haveI:=hb_3.oneC;obtain ⟨S0,F1,rfl,hS0,hp0⟩:=eo hF0;refine dQ Tryz.func150 rfl rfl rfl hp0 ?_;refine iA ?_;rintro _ _ ⟨g4,rfl,rfl⟩;refine fW ?_;rintro _ _ ⟨g6,rfl,rfl⟩;refine gD ?_;have hq:=dw hk;clear hk;obtain ⟨r16,hr16,hk⟩:=hq; (try dsimp only at hk);refine ef ?_;refine q2g ?_;refine cX (dl 2 rfl rfl rfl rfl (fun w hw hF=>zek _ w hF l vl hl b vb_3 hb_3 r16 hr16)) ?_;rintro _ _ ⟨v16_0_3,F2,le1_2,hf16_0_3,rfl,rfl⟩;haveI:=hf16_0_3.oneC;refine l9 ?_;rintro _ _ ⟨g8,rfl,rfl⟩;refine gg ?_;refine q3W ?_;refine T.cond rfl (fun h1=>?_) (fun h1=>?_)
 ·replace hk:=dr hk h1;refine q3G ?_;refine mo ?_;refine lw ?_;obtain rfl:=Option.some.inj hk;exact q4G
 ·replace hk:=dt hk h1;refine fN ?_;have hq:=dw hk;clear hk;obtain ⟨r32,hr32,hk⟩:=hq; (try dsimp only at hk);refine mr ?_;refine gC ?_;refine gn ?_;refine gC ?_;refine kA ?_;refine cX (de rfl rfl rfl (fun w hw=>zgt _ w (hw.fr (i:=3) rfl) r16.1.Bidder.Eligibility r16.1.Bidder.Waivers r16.1.units percent r32 hr32)) ?_;refine ee ?_;refine TL.run 7 rfl ?_;refine lS ?_;refine T.cond rfl (fun h2=>?_) (fun h2=>?_)
  ·have p2:=of_decide_eq_true h2;replace hk:=dr hk h2;refine q3G ?_;refine dy ?_;refine mo ?_;refine lw ?_;obtain rfl:=Option.some.inj hk;exact q4G
  ·have p2:=of_decide_eq_false h2;replace hk:=dt hk h2;refine fN ?_;have hq:(dm r16.1.Bidder.Blocks.length 8)∧_:=dB hk;clear hk;obtain ⟨g48,hk⟩:=hq; (try dsimp only at hk);refine dS (sN 0 8 (.eff 8 (.still 9 (.eff 10 (.still 11 .done))))) [.row g8 199 [.int .i64 r16.1.Bidder.ID, .int .i64 r16.1.Bidder.Eligibility, .int .i64 r16.1.Bidder.Waivers,v16_0_3, .int .i64 r16.1.units], .row g4 57 [.int .i64 b.ID, .int .i64 b.Eligibility, .int .i64 b.Waivers,vb_3], .fr F2] b0 Sx ?_;refine jf ?_;refine iy ?_;refine lQ ?_;refine iy ?_;refine dN ?_;refine dc rfl (cT) rfl rfl (dl 3 rfl rfl rfl rfl (fun w hw hF=>zgl _ w hF r16.1.Bidder.Blocks v16_0_3 hf16_0_3 g48)) ?_;rintro _ _ ⟨v48_,F3,le2_3,hf48,hq,rfl⟩;obtain rfl:=hq.symm;have le1_3:=le1_2.trans le2_3;haveI:=hf48.oneC;refine ⟨(fun w hw=>(hw.frLe (i:=3) rfl le2_3).sub Sx),?_⟩;refine cU rfl (Yv.build rfl rfl) ?_;refine dN ?_;refine dT rfl (cT) rfl (fD 1) ?_;refine ee ?_;refine ⟨(fun w hw=>(hw.frLe (i:=3) rfl le2_3).sub Sx),?_⟩;refine iM ?_;refine K.seq (T.ret ?_);obtain rfl:=Option.some.inj hk;exact iE 1 rfl rfl rfl rfl rfl (fun w' hw=>⟨v48_,F3.toFrz,hf48,rfl,dU hw (i:=3) rfl hS0 le1_3⟩)
def zcK (l:List GProduct)(b:GBidder)(product:Int)(change:Int):Option (Int×Int):=
 (zch l b).bind fun r15=>
 (bif ((!r15.2)||(!(j2 product 0 (wI ((l.length:Int) - 1))))) then
 some (0,2)
 else
 (bif decide (0<change) then
 (zaW r15.1 l product).bind fun r34=>
 some ((min change r34),0)
 else
 dj (0≤product∧product<(r15.1.Bidder.Blocks.length:Int)) <|
 some ((max change (wI (0 - (nth r15.1.Bidder.Blocks product.toNat)))),0)))
theorem zge (F0:Frz)(w:World)(hF0:F0.At w)(l:List GProduct)(vl:Value)(hl:SlC F0 vl 5 (l.map cV))(b:GBidder)(vb_3:Value)(hb_3:SlC F0 vb_3 1 (b.Blocks.map eI))(product:Int)(change:Int)(r:Int×Int)(hr:zcK l b product change=some r):Calls Tryz.prog 207 #[vl, .agg [.int .i64 b.ID, .int .i64 b.Eligibility, .int .i64 b.Waivers,vb_3].toArray, .int .i64 product, .int .i64 change] w fun e w'=>e= .returned (.tuple #[.int .i64 r.1, .int .i64 r.2])∧Below w.heap.size w w':=by
 have hk:=hr;unfold zcK at hk;haveI:=hl.oneC;haveI:=hb_3.oneC;obtain ⟨S0,F1,rfl,hS0,hp0⟩:=eo hF0;refine dQ Tryz.func207 rfl rfl rfl hp0 ?_;refine iA ?_;rintro _ _ ⟨g5,rfl,rfl⟩;refine ek ?_;refine fi ?_;have hq:=dw hk;clear hk;obtain ⟨r15,hr15,hk⟩:=hq; (try dsimp only at hk);refine ef ?_;refine jB ?_;refine cX (dl 1 rfl rfl rfl rfl (fun w hw hF=>zek _ w hF l vl hl b vb_3 hb_3 r15 hr15)) ?_;rintro _ _ ⟨v15_0_3,F2,le1_2,hf15_0_3,rfl,rfl⟩;haveI:=hf15_0_3.oneC;refine l9 ?_;rintro _ _ ⟨g10,rfl,rfl⟩;refine gg ?_;refine kC ?_;refine c9 (ι:=Unit) (fun z=>[(0,vl),(2, .int .i64 product),(3, .int .i64 change),(10, .pointer (some ⟨g10,0,none⟩)),(27, .bool ((!r15.2)||(!(j2 product 0 (wI ((l.length:Int) - 1))))))]) (fun z=>[.row g10 199 [.int .i64 r15.1.Bidder.ID, .int .i64 r15.1.Bidder.Eligibility, .int .i64 r15.1.Bidder.Waivers,v15_0_3, .int .i64 r15.1.units], .row g5 57 [.int .i64 b.ID, .int .i64 b.Eligibility, .int .i64 b.Waivers,vb_3], .fr F2]) (fun z=>True) ?_ ?_
 ·refine ie ?_;refine dg rfl rfl rfl (fun h1=>?_) (fun h1=>?_)
  ·refine TL.run 7 rfl ?_;refine fG ?_;exact cY () trivial (.c (.c (.c (.c (.b (eD h1).symm .nil))))) (List.Sublist.refl _)
  ·refine ek ?_;refine q23 ?_;have hm23:l.length≤9223372036854775807:=(List.length_map _)▸(SlC.mono hl le1_2).max;refine q33 ?_;exact cY () trivial (.c (.c (.c (.c (.b (Eq.trans (congrArg not (by rw [show wI ((l.length:Int) - 1)=((l.length:Int) - 1) from IntWalk.i64_in _ a7])) (fK h1)) .nil))))) (List.Sublist.refl _)
 ·rintro _ _;refine T.cond rfl (fun h2=>?_) (fun h2=>?_)
  ·replace hk:=dr hk h2;refine kM ?_;obtain rfl:=Option.some.inj hk;exact kW
  ·replace hk:=dt hk h2;refine j0 ?_;refine kz ?_;refine T.cond rfl (fun h3=>?_) (fun h3=>?_)
   ·have p3:=of_decide_eq_true h3;replace hk:=dr hk h3;refine T.seq ?_;have hq:=dw hk;clear hk;obtain ⟨r34,hr34,hk⟩:=hq; (try dsimp only at hk);refine ef ?_;refine jB ?_;refine ek ?_;refine cX (de rfl rfl rfl (fun w hw=>zcm _ w (hw.fr (i:=2) rfl) r15.1 v15_0_3 hf15_0_3 l vl (SlC.mono hl le1_2) product r34 hr34)) ?_;refine ee ?_;refine cS (Yv.min2 rfl rfl rfl) ?_;refine ek ?_;refine jt ?_;obtain rfl:=Option.some.inj hk;exact kW
   ·have p3:=of_decide_eq_false h3;replace hk:=dt hk h3;refine fN ?_;have hq:(0≤product∧product<(r15.1.Bidder.Blocks.length:Int))∧_:=dB hk;clear hk;obtain ⟨g41,hk⟩:=hq; (try dsimp only at hk);refine ef ?_;refine gn ?_;refine kA ?_;refine cS (df (i:=product.toNat) rfl rfl rfl hf15_0_3 (List.length_map _) a7 a7) ?_;refine cS (dD 2 (i:=product.toNat) (j:=0) rfl rfl rfl hf15_0_3 a7) ?_;refine cS (gY) ?_;refine cS (Yv.max2 rfl rfl rfl) ?_;refine mf ?_;obtain rfl:=Option.some.inj hk;exact kW
end Go.Proofs.YtmnjbhkcfghebaaGreatDoor
