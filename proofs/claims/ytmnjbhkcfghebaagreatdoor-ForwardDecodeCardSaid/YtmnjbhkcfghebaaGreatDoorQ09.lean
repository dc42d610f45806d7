/- Yc: shortened and put together by squeeze.py. -/
import Derived.Test.YtmnjbhkcfghebaaGreatDoorQ08
set_option maxRecDepth 100000
set_option maxHeartbeats 4000000
set_option linter.unusedVariables false
set_option linter.unusedSectionVars false
set_option linter.unusedSimpArgs false
namespace Go.Proofs.YtmnjbhkcfghebaaGreatDoor
open Go.RowKit
structure Gholder where
 Bidder:GBidder
 units:Int
deriving DecidableEq,Inhabited
def gw (F:Frz)(c:List Value)(x:Gholder):Prop:=∃(v3:Value),c=[.int .i64 x.Bidder.ID, .int .i64 x.Bidder.Eligibility, .int .i64 x.Bidder.Waivers,v3, .int .i64 x.units]∧SlC F v3 1 (x.Bidder.Blocks.map eI)
theorem Gholder.mono {F G:Frz}{c:List Value}{x:Gholder}(hle:F.Le G)(h:gw F c x):gw G c x:=by
 obtain ⟨v3,h0,h4⟩:=h;exact ⟨v3,h0,h4.mono hle⟩
theorem Gholder.len {F:Frz}{c:List Value}{x:Gholder}(h:gw F c x):c.length=5:=by
 obtain ⟨v3,h0,h4⟩:=h;subst h0;rfl
theorem Gholder.one {F:Frz}{c:List Value}{x:Gholder}(h:gw F c x):OneCs c:=by
 obtain ⟨v3,h0,h4⟩:=h;subst h0;haveI:=h4.oneC
 infer_instance
def lI (n:Int)(low:Int)(high:Int):Bool:=
 ((decide (low≤n))&&(decide (n≤high)))
theorem zc5 (F0:Frz)(w:World)(hF0:F0.At w)(n:Int)(low:Int)(high:Int):Calls Tryz.prog 133 #[.int .i64 n, .int .i64 low, .int .i64 high] w fun e w'=>e= .returned (.bool (lI n low high))∧Below w.heap.size w w':=by
 obtain ⟨r,hk⟩:∃r,lI n low high=r:=⟨_,rfl⟩;rw [hk];unfold lI at hk;obtain ⟨S0,F1,rfl,hS0,hp0⟩:=eH hF0;refine dT Tryz.func133 rfl rfl rfl hp0 ?_;refine ft ?_;refine dk (ι:=Unit) (fun z=>[(6, .bool ((decide (low≤n))&&(decide (n≤high))))]) (fun z=>[.fr F1]) (fun z=>True) ?_ ?_
 ·refine lC ?_;refine dp rfl rfl rfl (fun h1=>?_) (fun h1=>?_)
  ·have p1:=of_decide_eq_true h1;refine kw ?_;exact q4M
  ·have p1:=of_decide_eq_false h1;refine kw ?_;exact q4N
 ·refine mv ?_;subst hk;exact eB
def zcs (x_:Int):Bool:=
 (decide (¬x_=x_))
theorem zfm (F0:Frz)(w:World)(hF0:F0.At w)(x_:Int):Calls Tryz.prog 202 #[.int .i64 x_] w fun e w'=>e= .returned (.bool (zcs x_))∧Below w.heap.size w w':=by
 obtain ⟨r,hk⟩:∃r,zcs x_=r:=⟨_,rfl⟩;rw [hk];unfold zcs at hk;obtain ⟨S0,F1,rfl,hS0,hp0⟩:=eH hF0;refine dT Tryz.func202 rfl rfl rfl hp0 ?_;refine jE ?_;refine iv ?_;refine ik ?_;subst hk;exact eB
def mh (x_:Int)(y:Int):Int:=
 (bif (zcs x_) then
 (bif (zcs y) then
 0
 else
 (-1))
 else
 (bif (zcs y) then
 1
 else
 (bif decide (x_<y) then
 (-1)
 else
 (bif decide (y<x_) then
 1
 else
 0))))
theorem zeN (F0:Frz)(w:World)(hF0:F0.At w)(x_:Int)(y:Int):Calls Tryz.prog 136 #[.int .i64 x_, .int .i64 y] w fun e w'=>e= .returned (.int .i64 (mh x_ y))∧Below w.heap.size w w':=by
 obtain ⟨r,hk⟩:∃r,mh x_ y=r:=⟨_,rfl⟩;rw [hk];unfold mh at hk;obtain ⟨S0,F1,rfl,hS0,hp0⟩:=eH hF0;refine dT Tryz.func136 rfl rfl rfl hp0 ?_;refine jE ?_;refine dH ?_;refine de (dj rfl rfl rfl (fun w hw=>zfm _ w (hw.fr (i:=0) rfl) x_)) ?_;refine eA ?_;refine iw ?_;refine dH ?_;refine de (dj rfl rfl rfl (fun w hw=>zfm _ w (hw.fr (i:=0) rfl) y)) ?_;refine eA ?_;refine q3i ?_;refine ez ?_;refine T.cond rfl (fun h1=>?_) (fun h1=>?_)
 ·replace hk:=dt hk h1;refine ju ?_;refine ez ?_;refine T.cond rfl (fun h2=>?_) (fun h2=>?_)
  ·replace hk:=dt hk h2;refine q3N ?_;subst hk;exact eB
  ·replace hk:=dw hk h2;refine iz ?_;refine iV ?_;subst hk;exact eB
 ·replace hk:=dw hk h1;refine jQ ?_;refine ez ?_;refine T.cond rfl (fun h3=>?_) (fun h3=>?_)
  ·replace hk:=dt hk h3;refine iu ?_;subst hk;exact eB
  ·replace hk:=dw hk h3;refine jQ ?_;refine lX ?_;refine T.cond rfl (fun h4=>?_) (fun h4=>?_)
   ·have p4:=of_decide_eq_true h4;replace hk:=dt hk h4;refine iu ?_;subst hk;exact eB
   ·have p4:=of_decide_eq_false h4;replace hk:=dw hk h4;refine jQ ?_;refine lX ?_;refine T.cond rfl (fun h5=>?_) (fun h5=>?_)
    ·have p5:=of_decide_eq_true h5;replace hk:=dt hk h5;refine iu ?_;subst hk;exact eB
    ·have p5:=of_decide_eq_false h5;replace hk:=dw hk h5;refine iz ?_;refine gW ?_;subst hk;exact eB
def zdQ (vals:List Int):Int:=
 dO (fun (_:Unit)=>
 0)
 (fun k1=>
 dN (fun (i_3:Nat) (next2:Unit→Int) (_:Unit)=>
 (bif decide (¬(nth vals i_3)=0) then
 (nth vals i_3)
 else
 next2 ()))
 (fun (_:Unit)=>
 k1 ()) (vals.length - 0) 0 ())
theorem zgg (F0:Frz)(w:World)(hF0:F0.At w)(vals:List Int)(vvals:Value)(hvals:SlC F0 vvals 1 (vals.map eI)):Calls Tryz.prog 135 #[vvals] w fun e w'=>e= .returned (.int .i64 (zdQ vals))∧Below w.heap.size w w':=by
 obtain ⟨r,hk⟩:∃r,zdQ vals=r:=⟨_,rfl⟩;rw [hk];unfold zdQ at hk;haveI:=hvals.oneC;obtain ⟨S0,F1,rfl,hS0,hp0⟩:=eH hF0;refine dT Tryz.func135 rfl rfl rfl hp0 ?_;refine jE ?_;refine jb ?_;refine cY (dE rfl rfl hvals (List.length_map _)) ?_;have hm7:vals.length≤9223372036854775807:=(List.length_map _)▸hvals.max;refine ez ?_;have hq:=ek hk;clear hk;obtain ⟨k1,hk1,hk⟩:=hq; (try dsimp only at hk);refine dk (ι:=Unit) (fun z=>[(3, .int .i64 0)]) (fun z=>[.fr F1]) (fun z=>k1 ()=r) ?_ ?_
 ·have hq:=fX hk;clear hk;obtain ⟨f2,kk2,hf2,hkk2,hk⟩:=hq;refine ff ?_;refine T.loop (ι:=Nat) (fun z=>[(3, .int .i64 0),(6,vvals),(7, .int .i64 (vals.length:Int)),(8, .int .i64 (z:Int))]) (fun z=>[.fr F1]) (fun z=>dN f2 kk2 (vals.length - z) z ()=r) (fun z=>vals.length - z) 0 ?_ ?_ ?_ ?_
  ·exact hk
  ·exact jB
  ·exact fa
  ·rintro i_3 hk;refine ft ?_;refine T.cond rfl (fun h4=>?_) (fun h4=>?_)
   ·have p4:=of_decide_eq_true h4;rw [fW a6] at hk;generalize hn2:dN f2 kk2 (vals.length - (i_3+1)) (i_3+1)=next2 at hk;rw [←hf2] at hk; (try dsimp only at hk);refine jc ?_;refine cY (dA (i:=i_3) rfl rfl rfl hvals (List.length_map _) rfl a6) ?_;refine cY (dR 0 (i:=i_3) (j:=0) rfl rfl rfl hvals a6) ?_;refine iw ?_;refine lX ?_;refine T.cond rfl (fun h5=>?_) (fun h5=>?_)
    ·have p5:=of_decide_eq_true h5;replace hk:=dt hk h5;refine gS ?_;refine kE ?_;subst hk;exact eB
    ·have p5:=of_decide_eq_false h5;replace hk:=dw hk h5;refine mm ?_;rw [←hn2] at hk;exact q4H
   ·have p4:=of_decide_eq_false h4;rw [fY a6,←hkk2] at hk; (try dsimp only at hk);refine fi ?_;exact q4F
 ·rintro _ hk;rw [←hk1] at hk; (try dsimp only at hk);refine lW ?_;subst hk;exact eB
def zcR (a:GProduct)(b:GProduct):Int:=
 (zdQ [(mh a.Area b.Area),(mh a.Category b.Category)])
theorem zgj (F0:Frz)(w:World)(hF0:F0.At w)(a:GProduct)(b:GProduct):Calls Tryz.prog 134 #[.agg [.int .i64 a.Area, .int .i64 a.Category, .int .i64 a.Supply, .int .i64 a.Units, .int .i64 a.Reserve].toArray, .agg [.int .i64 b.Area, .int .i64 b.Category, .int .i64 b.Supply, .int .i64 b.Units, .int .i64 b.Reserve].toArray] w fun e w'=>e= .returned (.int .i64 (zcR a b))∧Below w.heap.size w w':=by
 obtain ⟨r,hk⟩:∃r,zcR a b=r:=⟨_,rfl⟩;rw [hk];unfold zcR at hk;obtain ⟨S0,F1,rfl,hS0,hp0⟩:=eH hF0;refine dT Tryz.func134 rfl rfl rfl hp0 ?_;refine gY ?_;rintro _ _ ⟨g2,rfl,rfl⟩;refine lk ?_;rintro _ _ ⟨g3,rfl,rfl⟩;refine gj ?_;refine ef (sN 0 4 (sN 5 4 (.eff 4 (.eff 9 (.eff 10 (.eff 11 (.still 12 .done))))))) _ a8 (List.Sublist.refl _) ?_;refine kG ?_;refine ip ?_;refine kG ?_;refine ip ?_;refine d7 ?_;refine dl rfl (c9) rfl rfl (dj rfl rfl rfl (fun w hw=>zeN _ w (hw.fr (i:=2) rfl) a.Area b.Area)) ?_;refine jY ?_;refine d7 ?_;refine dl rfl (c9) rfl rfl (dj rfl rfl rfl (fun w hw=>zeN _ w (hw.fr (i:=2) rfl) a.Category b.Category)) ?_;refine jY ?_;refine d7 ?_;refine q1i ?_;rintro _ _ ⟨g15,rfl,rfl⟩;refine it ?_;refine jo (fun w hw=>hw.freezeR (i:=3) (j:=0) a7 rfl rfl) ?_;rintro F2 ⟨le1_2,hz2⟩;refine fQ ?_;have hfF2:SlC F2.toFrz (.slice (some ⟨g15,0,none⟩) 2 2) 1 ([(mh a.Area b.Area),(mh a.Category b.Category)].map eI):=(SlK.lit hz2 rfl (Nat.le_refl _) a7).toF (xs:=[(mh a.Area b.Area),(mh a.Category b.Category)]) rfl (fun _=>rfl);refine d7 ?_;refine dl rfl (c9) rfl rfl (dj rfl rfl rfl (fun w hw=>zgg _ w (hw.fr (i:=2) rfl) [(mh a.Area b.Area),(mh a.Category b.Category)] (.slice (some ⟨g15,0,none⟩) 2 2) hfF2)) ?_;refine eA ?_;refine q29 ?_;refine q4l ?_;subst hk;exact eB
def zd0 (p:GProduct)(xf0_:Vec 64 Int):Option (Bool×Vec 64 Int):=
 (bif (((!(lI p.Area 0 63))||(!(lI p.Category 1 2)))||(!(lI p.Supply 1 12))) then
 some (false,xf0_)
 else
 dB (0≤p.Area∧p.Area<(64:Int)) <|
 some ((((decide ((Vec.get (Vec.put xf0_ p.Area.toNat (wI ((Vec.get xf0_ p.Area.toNat)+p.Supply))) p.Area.toNat)≤12))&&(lI p.Units 1 100000))&&(lI p.Reserve 0 549755813888)),(Vec.put xf0_ p.Area.toNat (wI ((Vec.get xf0_ p.Area.toNat)+p.Supply)))))
theorem zgt (F0:Frz)(w:World)(hF0:F0.At w)(p:GProduct)(xf0_:Vec 64 Int)(gf0_:Nat)(hO:Hp w (dD [.row gf0_ 179 (xf0_.1.map vI)]) [.row gf0_ 179 (xf0_.1.map vI)] w)(hA:∀g,dD [.row gf0_ 179 (xf0_.1.map vI)] g→¬F0.S g)(r:Bool×Vec 64 Int)(hr:zd0 p xf0_=some r):Calls Tryz.prog 132 #[.agg [.int .i64 p.Area, .int .i64 p.Category, .int .i64 p.Supply, .int .i64 p.Units, .int .i64 p.Reserve].toArray, .pointer (some ⟨gf0_,0,none⟩)] w fun e w'=>∃(y:Unit),(True)∧e= .returned (.bool r.1)∧FxM F0 w (dD [.row gf0_ 179 (xf0_.1.map vI)]) F0 [.row gf0_ 179 (r.2.1.map vI)] w':=by
 have hk:=hr;unfold zd0 at hk;obtain ⟨S0,F1,rfl,hS0,hp0⟩:=fN hF0 hO hA;refine dT (hs:=[.row gf0_ 179 (xf0_.1.map vI), .fr F1]) Tryz.func132 rfl rfl rfl hp0 ?_;refine gY ?_;rintro _ _ ⟨g2,rfl,rfl⟩;refine jr ?_;refine dk (ι:=Unit) (fun z=>[(1, .pointer (some ⟨gf0_,0,none⟩)),(2, .pointer (some ⟨g2,0,none⟩)),(19, .bool (((!(lI p.Area 0 63))||(!(lI p.Category 1 2)))||(!(lI p.Supply 1 12))))]) (fun z=>[.row g2 55 [.int .i64 p.Area, .int .i64 p.Category, .int .i64 p.Supply, .int .i64 p.Units, .int .i64 p.Reserve], .row gf0_ 179 (xf0_.1.map vI), .fr F1]) (fun z=>True) ?_ ?_
 ·refine fu ?_;refine gh ?_;refine de (dj rfl rfl rfl (fun w hw=>zc5 _ w (hw.fr (i:=2) rfl) p.Area 0 63)) ?_;refine jt ?_;refine dp rfl rfl rfl (fun h1=>?_) (fun h1=>?_)
  ·refine TL.run 11 rfl ?_;refine fM ?_;exact dg () trivial (.c (.c (.b (fO (fO h1)).symm .nil))) (List.Sublist.refl _)
  ·refine gh ?_;refine de (dj rfl rfl rfl (fun w hw=>zc5 _ w (hw.fr (i:=2) rfl) p.Category 1 2)) ?_;refine eA ?_;refine fU ?_;refine dp rfl rfl rfl (fun h2=>?_) (fun h2=>?_)
   ·refine kw ?_;exact dg () trivial (.c (.c (.b (fO (gH h1 h2)).symm .nil))) (List.Sublist.refl _)
   ·refine gh ?_;refine de (dj rfl rfl rfl (fun w hw=>zc5 _ w (hw.fr (i:=2) rfl) p.Supply 1 12)) ?_;refine jH ?_;exact dg () trivial (.c (.c (.b (gE (gH h1 h2)) .nil))) (List.Sublist.refl _)
 ·rintro _ _;refine T.cond rfl (fun h3=>?_) (fun h3=>?_)
  ·replace hk:=dt hk h3;refine iu ?_;obtain rfl:=Option.some.inj hk;exact q4O
  ·replace hk:=dw hk h3;refine fV ?_;have hq:(0≤p.Area∧p.Area<(64:Int))∧_:=dJ hk;clear hk;obtain ⟨g22,hk⟩:=hq; (try dsimp only at hk);refine ef (sN 0 3 (sN 4 2 (.eff 3 (sN 6 2 (.eff 8 .done))))) [.row g2 55 [.int .i64 p.Area, .int .i64 p.Category, .int .i64 p.Supply, .int .i64 p.Units, .int .i64 p.Reserve], .fr F1] a8 Sx ?_;refine ip ?_;refine dc rfl (dL (i:=p.Area.toNat) rfl rfl rfl a6 a6) ?_;refine ip ?_;refine d7 ?_;refine dV rfl (c9) rfl rfl (dM 1 rfl rfl rfl (fI a6 (Vec.cell (i:=p.Area.toNat) a6))) (fun w hw=>hw.sub Sx) ?_;refine dc rfl (dq (v:= .int .i64 (wI ((Vec.get xf0_ p.Area.toNat)+p.Supply)))) ?_;refine dc rfl (dL (i:=p.Area.toNat) rfl rfl rfl a6 a6) ?_;refine d7 ?_;refine eo rfl (c9) rfl (fj 1 ((Vec.put xf0_ p.Area.toNat (wI ((Vec.get xf0_ p.Area.toNat)+p.Supply))).1.map vI) rfl rfl rfl rfl b6 (jf a6 (Vec.upd (x:=xf0_) (f:=vI) (i:=p.Area.toNat) (v:=wI ((Vec.get xf0_ p.Area.toNat)+p.Supply)) a6))) ?_;refine kj ?_;refine lh ?_;refine dk (ι:=Unit) (fun z=>[(3, .bool (((decide ((Vec.get (Vec.put xf0_ p.Area.toNat (wI ((Vec.get xf0_ p.Area.toNat)+p.Supply))) p.Area.toNat)≤12))&&(lI p.Units 1 100000))&&(lI p.Reserve 0 549755813888)))]) (fun z=>[.row g2 55 [.int .i64 p.Area, .int .i64 p.Category, .int .i64 p.Supply, .int .i64 p.Units, .int .i64 p.Reserve], .row gf0_ 179 ((Vec.put xf0_ p.Area.toNat (wI ((Vec.get xf0_ p.Area.toNat)+p.Supply))).1.map vI), .fr F1]) (fun z=>True) ?_ ?_
   ·refine fu ?_;refine gh ?_;refine cY (dL (i:=p.Area.toNat) rfl rfl rfl a6 a6) ?_;refine cY (dM 1 rfl rfl rfl (fI a6 (Vec.cell (i:=p.Area.toNat) a6))) ?_;refine ep ?_;refine dp rfl rfl rfl (fun h4=>?_) (fun h4=>?_)
    ·have p4:=of_decide_eq_true h4;refine gh ?_;refine de (dj rfl rfl rfl (fun w hw=>zc5 _ w (hw.fr (i:=2) rfl) p.Units 1 100000)) ?_;refine jt ?_;refine dp rfl rfl rfl (fun h5=>?_) (fun h5=>?_)
     ·refine gh ?_;refine de (dj rfl rfl rfl (fun w hw=>zc5 _ w (hw.fr (i:=2) rfl) p.Reserve 0 549755813888)) ?_;refine jH ?_;exact dg () trivial (.b (iX (me h4 h5)) .nil) (List.Sublist.refl _)
     ·refine kw ?_;exact dg () trivial (.b (gQ (me h4 h5)).symm .nil) (List.Sublist.refl _)
    ·have p4:=of_decide_eq_false h4;refine q3T ?_;exact dg () trivial (.b (gQ (gQ h4)).symm .nil) (List.Sublist.refl _)
   ·refine mv ?_;obtain rfl:=Option.some.inj hk;exact q4O
def za8 (l:List GProduct)(x1c0_:Vec 64 Int):Option (Bool×Vec 64 Int):=
 dO (fun (c_1:Vec 64 Int)=>
 some (true,c_1))
 (fun k2=>
 dN (fun (i_5:Nat) (next4:Vec 64 Int→Option (Bool×Vec 64 Int)) (c_3:Vec 64 Int)=>
 (zd0 (nth l i_5) c_3).bind fun r18=>
 (bif ((!r18.1)||((decide (0<(i_5:Int)))&&(decide (0≤(zcR (nth l (((i_5:Int) - 1).toNat)) (nth l i_5)))))) then
 some (false,r18.2)
 else
 next4 r18.2))
 (fun (c_3:Vec 64 Int)=>
 k2 c_3) (l.length - 0) 0 x1c0_)
theorem zcL (F0:Frz)(w:World)(hF0:F0.At w)(l:List GProduct)(vl:Value)(hl:SlC F0 vl 5 (l.map dh))(x1c0_:Vec 64 Int)(g1c0_:Nat)(hO:Hp w (dD [.row g1c0_ 179 (x1c0_.1.map vI)]) [.row g1c0_ 179 (x1c0_.1.map vI)] w)(hA:∀g,dD [.row g1c0_ 179 (x1c0_.1.map vI)] g→¬F0.S g)(r:Bool×Vec 64 Int)(hr:za8 l x1c0_=some r):Calls Tryz.prog 131 #[vl, .func (.func 132) #[] #[.pointer (some ⟨g1c0_,0,none⟩)], .func (.func 134) #[] #[]] w fun e w'=>∃(y:Unit),(True)∧e= .returned (.bool r.1)∧FxM F0 w (dD [.row g1c0_ 179 (x1c0_.1.map vI)]) F0 [.row g1c0_ 179 (r.2.1.map vI)] w':=by
 have hk:=hr;unfold za8 at hk;haveI:=hl.oneC;obtain ⟨S0,F1,rfl,hS0,hp0⟩:=fN hF0 hO hA;refine dT (hs:=[.row g1c0_ 179 (x1c0_.1.map vI), .fr F1]) Tryz.func131 rfl rfl rfl hp0 ?_;refine jy ?_;refine q23 ?_;have hm10:l.length≤9223372036854775807:=(List.length_map _)▸hl.max;refine ez ?_;have hq:=ek hk;clear hk;obtain ⟨k2,hk2,hk⟩:=hq; (try dsimp only at hk);refine dk (ι:=Vec 64 Int) (fun z=>[]) (fun z=>[.row g1c0_ 179 (z.1.map vI), .fr F1]) (fun z=>k2 z=some r) ?_ ?_
 ·have hq:=fX hk;clear hk;obtain ⟨f4,kk4,hf4,hkk4,hk⟩:=hq;refine ff ?_;refine T.loop (ι:=Nat×Vec 64 Int) (fun z=>[(0,vl),(1, .func (.func 132) #[] #[.pointer (some ⟨g1c0_,0,none⟩)]),(2, .func (.func 134) #[] #[]),(9,vl),(10, .int .i64 (l.length:Int)),(11, .int .i64 (z.1:Int))]) (fun z=>[.row g1c0_ 179 (z.2.1.map vI), .fr F1]) (fun z=>dN f4 kk4 (l.length - z.1) z.1 z.2=some r) (fun z=>l.length - z.1) (0,x1c0_) ?_ ?_ ?_ ?_
  ·exact hk
  ·exact lZ
  ·exact fa
  ·rintro ⟨i_5,c_3⟩ hk; (try dsimp only at *);refine ft ?_;refine T.cond rfl (fun h6=>?_) (fun h6=>?_)
   ·have p6:=of_decide_eq_true h6;rw [fW a6] at hk;generalize hn4:dN f4 kk4 (l.length - (i_5+1)) (i_5+1)=next4 at hk;rw [←hf4] at hk; (try dsimp only at hk);refine kp ?_;refine cY (dA (i:=i_5) rfl rfl rfl hl (List.length_map _) rfl a6) ?_;refine cY (iW 1 (i:=i_5) rfl rfl rfl hl a6) ?_;refine fJ ?_;rintro _ _ ⟨g8,rfl,rfl⟩;refine dH ?_;refine ga ?_;refine fv ?_;have hq:=dC hk;clear hk;obtain ⟨r18,hr18,hk⟩:=hq; (try dsimp only at hk);refine dk (ι:=Unit) (fun z=>[(0,vl),(1, .func (.func 132) #[] #[.pointer (some ⟨g1c0_,0,none⟩)]),(2, .func (.func 134) #[] #[]),(9,vl),(10, .int .i64 (l.length:Int)),(11, .int .i64 (i_5:Int)),(34, .bool ((!r18.1)||((decide (0<(i_5:Int)))&&(decide (0≤(zcR (nth l (((i_5:Int) - 1).toNat)) (nth l i_5)))))))]) (fun z=>[.row g8 55 [.int .i64 ((nth l i_5).Area), .int .i64 ((nth l i_5).Category), .int .i64 ((nth l i_5).Supply), .int .i64 ((nth l i_5).Units), .int .i64 ((nth l i_5).Reserve)], .row g1c0_ 179 (r18.2.1.map vI), .fr F1]) (fun z=>True) ?_ ?_
    ·refine ef (sN 0 2 (.eff 2 (sN 3 12 (.eff 15 (sN 16 2 (.still 18 .done)))))) [.row g8 55 [.int .i64 ((nth l i_5).Area), .int .i64 ((nth l i_5).Category), .int .i64 ((nth l i_5).Supply), .int .i64 ((nth l i_5).Units), .int .i64 ((nth l i_5).Reserve)], .fr F1] a8 Sx ?_;refine gB ?_;refine q2m ?_;refine d7 ?_;refine dl rfl (c9) rfl rfl (dG [1,2,0] [.row g1c0_ 179 (c_3.1.map vI)] [.row g8 55 [.int .i64 ((nth l i_5).Area), .int .i64 ((nth l i_5).Category), .int .i64 ((nth l i_5).Supply), .int .i64 ((nth l i_5).Units), .int .i64 ((nth l i_5).Reserve)]] rfl rfl rfl rfl a7 (fun w hw hw2 hF=>zgt _ w hF (nth l i_5) c_3 g1c0_ hw2.takes.1 hw2.takes.2 r18 hr18)) ?_;rintro _ _ ⟨⟨⟩, -,rfl,rfl⟩;refine fe ?_;refine q20 ?_;refine gc ?_;refine fq rfl rfl rfl rfl (fun h7=>?_) (fun h7=>?_)
     ·refine TS.run 10 rfl ?_;refine d7 ?_;refine lv rfl (Wt.undef rfl rfl rfl) rfl rfl ?_;refine gO ?_;refine q3l ?_;exact dg () trivial (.c (.c (.c (.c (.c (.c (.b (fO h7).symm .nil))))))) (List.Sublist.refl _)
     ·refine gO ?_;refine fq rfl rfl rfl rfl (fun h8=>?_) (fun h8=>?_)
      ·have p8:=of_decide_eq_true h8;refine gO ?_;refine q3R ?_;refine dc rfl (dA (i:=((i_5:Int) - 1).toNat) rfl rfl rfl hl (List.length_map _) a6 a6) ?_;refine dc rfl (iW 1 (i:=((i_5:Int) - 1).toNat) rfl rfl rfl hl a6) ?_;refine q2m ?_;refine d7 ?_;refine dl rfl (Wt.some) rfl rfl (dj rfl rfl rfl (fun w hw=>zgj _ w (hw.fr (i:=1) rfl) (nth l (((i_5:Int) - 1).toNat)) (nth l i_5))) ?_;refine eA ?_;refine q20 ?_;refine gO ?_;refine q3l ?_;exact dg () trivial (.c (.c (.c (.c (.c (.c (.b (Eq.trans (iX h8) (gE h7)) .nil))))))) (List.Sublist.refl _)
      ·have p8:=of_decide_eq_false h8;refine TS.run 7 rfl ?_;refine lJ ?_;refine gO ?_;refine q3l ?_;exact dg () trivial (.c (.c (.c (.c (.c (.c (.b (gH h7 (gQ h8)).symm .nil))))))) (List.Sublist.refl _)
    ·rintro _ _;refine T.cond rfl (fun h9=>?_) (fun h9=>?_)
     ·replace hk:=dt hk h9;refine gA ?_;refine kE ?_;obtain rfl:=Option.some.inj hk;exact q4O
     ·replace hk:=dw hk h9;refine mm ?_;rw [←hn4] at hk;refine q4g ?_;exact K.next ((i_5+1),r18.2) hk a9 (.c (.c (.c (.c (.c (.c .nil)))))) (List.Sublist.refl _)
   ·have p6:=of_decide_eq_false h6;rw [fY a6,←hkk4] at hk; (try dsimp only at hk);refine fi ?_;exact dg c_3 hk .nil (List.Sublist.refl _)
 ·rintro c_1 hk;rw [←hk2] at hk; (try dsimp only at hk);refine kK ?_;obtain rfl:=Option.some.inj hk;exact lY
def zcN (l:List GProduct):Option Bool:=
 (za8 l (Vec.fill 64 0)).bind fun r6=>
 some r6.1
theorem zdO (F0:Frz)(w:World)(hF0:F0.At w)(l:List GProduct)(vl:Value)(hl:SlC F0 vl 5 (l.map dh))(r:Bool)(hr:zcN l=some r):Calls Tryz.prog 51 #[vl] w fun e w'=>e= .returned (.bool r)∧Below w.heap.size w w':=by
 have hk:=hr;unfold zcN at hk;haveI:=hl.oneC;obtain ⟨S0,F1,rfl,hS0,hp0⟩:=eH hF0;refine dT Tryz.func51 rfl rfl rfl hp0 ?_;refine jE ?_;refine de (kB (l:=((Vec.fill 64 0).1.map vI)) rfl a8) ?_;rintro _ _ ⟨g3,rfl,rfl⟩;refine fv ?_;have hq:=dC hk;clear hk;obtain ⟨r6,hr6,hk⟩:=hq; (try dsimp only at hk);refine eZ ?_;refine de (dG [0,1] [.row g3 179 ((Vec.fill 64 0).1.map vI)] [] rfl rfl rfl rfl a7 (fun w hw hw2 hF=>zcL _ w hF l vl hl (Vec.fill 64 0) g3 hw2.takes.1 hw2.takes.2 r6 hr6)) ?_;rintro _ _ ⟨⟨⟩, -,rfl,rfl⟩;refine fe ?_;refine gW ?_;obtain rfl:=Option.some.inj hk;exact eB
def zdh (l:List GProduct)(blocks:List Int):Bool:=
 (bif decide (¬(blocks.length:Int)=(l.length:Int)) then
 false
 else
 dO (fun (_:Unit)=>
 true)
 (fun k2=>
 dN (fun (i_4:Nat) (next3:Unit→Bool) (_:Unit)=>
 (bif ((decide ((nth blocks i_4)<0))||(decide ((nth l i_4).Supply<(nth blocks i_4)))) then
 false
 else
 next3 ()))
 (fun (_:Unit)=>
 k2 ()) (blocks.length - 0) 0 ()))
theorem zgh (F0:Frz)(w:World)(hF0:F0.At w)(l:List GProduct)(vl:Value)(hl:SlC F0 vl 5 (l.map dh))(blocks:List Int)(vblocks:Value)(hblocks:SlC F0 vblocks 1 (blocks.map eI)):Calls Tryz.prog 137 #[vl,vblocks] w fun e w'=>e= .returned (.bool (zdh l blocks))∧Below w.heap.size w w':=by
 obtain ⟨r,hk⟩:∃r,zdh l blocks=r:=⟨_,rfl⟩;rw [hk];unfold zdh at hk;haveI:=hl.oneC;haveI:=hblocks.oneC;obtain ⟨S0,F1,rfl,hS0,hp0⟩:=eH hF0;refine dT Tryz.func137 rfl rfl rfl hp0 ?_;refine jy ?_;refine cY (dE rfl rfl hblocks (List.length_map _)) ?_;have hm8:blocks.length≤9223372036854775807:=(List.length_map _)▸hblocks.max;refine dH ?_;refine q23 ?_;have hm10:l.length≤9223372036854775807:=(List.length_map _)▸hl.max;refine ez ?_;refine T.cond rfl (fun h1=>?_) (fun h1=>?_)
 ·have p1:=of_decide_eq_true h1;replace hk:=dt hk h1;refine iu ?_;subst hk;exact eB
 ·have p1:=of_decide_eq_false h1;replace hk:=dw hk h1;refine jQ ?_;refine dH ?_;refine cY (dE rfl rfl hblocks (List.length_map _)) ?_;refine ez ?_;have hq:=ek hk;clear hk;obtain ⟨k2,hk2,hk⟩:=hq; (try dsimp only at hk);refine dk (ι:=Unit) (fun z=>[]) (fun z=>[.fr F1]) (fun z=>k2 ()=r) ?_ ?_
  ·have hq:=fX hk;clear hk;obtain ⟨f3,kk3,hf3,hkk3,hk⟩:=hq;refine ff ?_;refine T.loop (ι:=Nat) (fun z=>[(0,vl),(12,vblocks),(13, .int .i64 (blocks.length:Int)),(14, .int .i64 (z:Int))]) (fun z=>[.fr F1]) (fun z=>dN f3 kk3 (blocks.length - z) z ()=r) (fun z=>blocks.length - z) 0 ?_ ?_ ?_ ?_
   ·exact hk
   ·exact jB
   ·exact fa
   ·rintro i_4 hk;refine ft ?_;refine T.cond rfl (fun h5=>?_) (fun h5=>?_)
    ·have p5:=of_decide_eq_true h5;rw [fW a6] at hk;generalize hn3:dN f3 kk3 (blocks.length - (i_4+1)) (i_4+1)=next3 at hk;rw [←hf3] at hk; (try dsimp only at hk);refine kp ?_;refine cY (dA (i:=i_4) rfl rfl rfl hblocks (List.length_map _) rfl a6) ?_;refine cY (dR 0 (i:=i_4) (j:=0) rfl rfl rfl hblocks a6) ?_;refine ep ?_;refine fv ?_;refine dk (ι:=Unit) (fun z=>[(0,vl),(12,vblocks),(13, .int .i64 (blocks.length:Int)),(14, .int .i64 (i_4:Int)),(29, .bool ((decide ((nth blocks i_4)<0))||(decide ((nth l i_4).Supply<(nth blocks i_4)))))]) (fun z=>[.fr F1]) (fun z=>True) ?_ ?_
     ·refine gR ?_;refine dp rfl rfl rfl (fun h6=>?_) (fun h6=>?_)
      ·have p6:=of_decide_eq_true h6;refine TL.run 8 rfl ?_;refine fM ?_;exact dg () trivial (.c (.c (.c (.c (.b (fO h6).symm .nil))))) (List.Sublist.refl _)
      ·have p6:=of_decide_eq_false h6;refine fU ?_;refine cY (dA (i:=i_4) rfl rfl rfl hl (List.length_map _) rfl a6) ?_;refine cY (gD rfl rfl hl (List.length_map _) a6) ?_;refine cY (dR 0 (i:=i_4) (j:=2) rfl rfl rfl hl a6) ?_;refine jh ?_;exact dg () trivial (.c (.c (.c (.c (.b (gE h6) .nil))))) (List.Sublist.refl _)
     ·rintro _ _;refine T.cond rfl (fun h7=>?_) (fun h7=>?_)
      ·replace hk:=dt hk h7;refine gA ?_;refine kE ?_;subst hk;exact eB
      ·have p7:=h7; (try simp only [iy] at p7);replace hk:=dw hk h7;refine mm ?_;rw [←hn3] at hk;exact K.next (i_4+1) hk a6 (.c (.c (.c (.c .nil)))) (List.Sublist.refl _)
    ·have p5:=of_decide_eq_false h5;rw [fY a6,←hkk3] at hk; (try dsimp only at hk);refine fi ?_;exact lz
  ·rintro _ hk;rw [←hk2] at hk; (try dsimp only at hk);refine kK ?_;subst hk;exact eB
def zef (l:List GProduct)(blocks:List Int):Option Int:=
 dO (fun (sum_1:Int)=>
 some sum_1)
 (fun k2=>
 dN (fun (i_5:Nat) (next4:Int→Option Int) (sum_3:Int)=>
 dB (0≤(i_5:Int)∧(i_5:Int)<(l.length:Int)) <|
 next4 (wI (sum_3+(wI ((nth blocks i_5) * ((nth l i_5).Units))))))
 (fun (sum_3:Int)=>
 k2 sum_3) (blocks.length - 0) 0 0)
theorem zfR (F0:Frz)(w:World)(hF0:F0.At w)(l:List GProduct)(vl:Value)(hl:SlC F0 vl 5 (l.map dh))(blocks:List Int)(vblocks:Value)(hblocks:SlC F0 vblocks 1 (blocks.map eI))(r:Int)(hr:zef l blocks=some r):Calls Tryz.prog 138 #[vl,vblocks] w fun e w'=>e= .returned (.int .i64 r)∧Below w.heap.size w w':=by
 have hk:=hr;unfold zef at hk;haveI:=hl.oneC;haveI:=hblocks.oneC;obtain ⟨S0,F1,rfl,hS0,hp0⟩:=eH hF0;refine dT Tryz.func138 rfl rfl rfl hp0 ?_;refine jE ?_;refine jb ?_;refine cY (dE rfl rfl hblocks (List.length_map _)) ?_;have hm9:blocks.length≤9223372036854775807:=(List.length_map _)▸hblocks.max;refine ez ?_;have hq:=ek hk;clear hk;obtain ⟨k2,hk2,hk⟩:=hq; (try dsimp only at hk);refine dk (ι:=Int) (fun z=>[(5, .int .i64 z)]) (fun z=>[.fr F1]) (fun z=>k2 z=some r) ?_ ?_
 ·have hq:=fX hk;clear hk;obtain ⟨f4,kk4,hf4,hkk4,hk⟩:=hq;refine ff ?_;refine T.loop (ι:=Nat×Int) (fun z=>[(0,vl),(5, .int .i64 z.2),(8,vblocks),(9, .int .i64 (blocks.length:Int)),(10, .int .i64 (z.1:Int))]) (fun z=>[.fr F1]) (fun z=>dN f4 kk4 (blocks.length - z.1) z.1 z.2=some r) (fun z=>blocks.length - z.1) (0,0) ?_ ?_ ?_ ?_
  ·exact hk
  ·exact jW
  ·exact fa
  ·rintro ⟨i_5,sum_3⟩ hk; (try dsimp only at *);refine ft ?_;refine T.cond rfl (fun h6=>?_) (fun h6=>?_)
   ·have p6:=of_decide_eq_true h6;rw [fW a6] at hk;generalize hn4:dN f4 kk4 (blocks.length - (i_5+1)) (i_5+1)=next4 at hk;rw [←hf4] at hk; (try dsimp only at hk);refine kp ?_;refine cY (dA (i:=i_5) rfl rfl rfl hblocks (List.length_map _) rfl a6) ?_;refine cY (dR 0 (i:=i_5) (j:=0) rfl rfl rfl hblocks a6) ?_;refine jG ?_;have hq:(0≤(i_5:Int)∧(i_5:Int)<(l.length:Int))∧_:=dJ hk;clear hk;obtain ⟨g19,hk⟩:=hq; (try dsimp only at hk);refine lC ?_;refine cY (dA (i:=i_5) rfl rfl rfl hl (List.length_map _) rfl a6) ?_;refine cY (gD rfl rfl hl (List.length_map _) a6) ?_;refine cY (dR 0 (i:=i_5) (j:=3) rfl rfl rfl hl a6) ?_;refine cY (dq (v:= .int .i64 (wI ((nth blocks i_5) * ((nth l i_5).Units))))) ?_;refine cY (dq (v:= .int .i64 (wI (sum_3+(wI ((nth blocks i_5) * ((nth l i_5).Units))))))) ?_;refine dH ?_;refine jw ?_;rw [←hn4] at hk;exact K.next ((i_5+1),wI (sum_3+(wI ((nth blocks i_5) * ((nth l i_5).Units))))) hk a9 (.c (.c (.c (.c (.c .nil))))) (List.Sublist.refl _)
   ·have p6:=of_decide_eq_false h6;rw [fY a6,←hkk4] at hk; (try dsimp only at hk);refine fi ?_;exact dg sum_3 hk (.c .nil) (List.Sublist.refl _)
 ·rintro sum_1 hk;rw [←hk2] at hk; (try dsimp only at hk);refine lW ?_;obtain rfl:=Option.some.inj hk;exact eB
def zbq (l:List GProduct)(bidders:List GBidder):Option Bool:=
 dO (fun (x_1:Bool)=>
 (bif x_1 then
 some false
 else
 dO (fun (_:Unit)=>
 some true)
 (fun k5=>
 dN (fun (i_8:Nat) (next7:Int→Option Bool) (last_6:Int)=>
 (bif ((decide ((nth bidders i_8).ID≤last_6))||(decide (32≤(nth bidders i_8).ID))) then
 some false
 else
 (bif ((((decide ((nth bidders i_8).Eligibility<0))||(decide (76800000<(nth bidders i_8).Eligibility)))||(decide ((nth bidders i_8).Waivers<0)))||(decide (3<(nth bidders i_8).Waivers))) then
 some false
 else
 dO (fun (x_16:Bool)=>
 (bif x_16 then
 some false
 else
 next7 ((nth bidders i_8).ID)))
 (fun k17=>
 (bif !(zdh l ((nth bidders i_8).Blocks)) then
 k17 true
 else
 (zef l ((nth bidders i_8).Blocks)).bind fun r58=>
 k17 (decide ((nth bidders i_8).Eligibility<r58)))))))
 (fun (last_6:Int)=>
 k5 ()) (bidders.length - 0) 0 (-1))))
 (fun k2=>
 (bif decide (32<(bidders.length:Int)) then
 k2 true
 else
 (zcN l).bind fun r13=>
 k2 (!r13)))
theorem zcy (F0:Frz)(w:World)(hF0:F0.At w)(l:List GProduct)(vl:Value)(hl:SlC F0 vl 5 (l.map dh))(bidders:List GBidder)(vbidders:Value)(cbidders:List (List Value))(hbidders:SlD cZ F0 vbidders 4 cbidders bidders)(r:Bool)(hr:zbq l bidders=some r):Calls Tryz.prog 52 #[vl,vbidders] w fun e w'=>e= .returned (.bool r)∧Below w.heap.size w w':=by
 have hk:=hr;unfold zbq at hk;haveI:=hl.oneC;haveI:=hbidders.1.oneC;obtain ⟨S0,F1,rfl,hS0,hp0⟩:=eH hF0;refine dT Tryz.func52 rfl rfl rfl hp0 ?_;refine gA ?_;refine jv ?_; (try dsimp only at hk);have hq:=ek hk;clear hk;obtain ⟨k2,hk2,hk⟩:=hq; (try dsimp only at hk);refine dk (ι:=Bool) (fun z=>[(0,vl),(1,vbidders),(15, .bool z)]) (fun z=>[.fr F1]) (fun z=>k2 z=some r) ?_ ?_
 ·refine eF ?_;refine cY (dE rfl rfl hbidders.1 hbidders.2.1) ?_;have hm9:bidders.length≤9223372036854775807:=hbidders.2.1▸hbidders.1.max;refine ep ?_;refine dp rfl rfl rfl (fun h3=>?_) (fun h3=>?_)
  ·have p3:=of_decide_eq_true h3;replace hk:=dt hk h3;refine iK ?_;exact l8
  ·have p3:=of_decide_eq_false h3;replace hk:=dw hk h3;refine dH ?_;have hq:=dC hk;clear hk;obtain ⟨r13,hr13,hk⟩:=hq;refine de (dj rfl rfl rfl (fun w hw=>zdO _ w (hw.fr (i:=0) rfl) l vl hl r13 hr13)) ?_;refine jH ?_;exact dg (!r13) hk (.c (.c (.c .nil))) (List.Sublist.refl _)
 ·rintro x_1 hk;rw [←hk2] at hk; (try dsimp only at hk);refine T.cond rfl (fun h4=>?_) (fun h4=>?_)
  ·replace hk:=dt hk h4;refine iu ?_;obtain rfl:=Option.some.inj hk;exact eB
  ·replace hk:=dw hk h4;refine iz ?_;refine jb ?_;refine cY (dE rfl rfl hbidders.1 hbidders.2.1) ?_;have hm17:bidders.length≤9223372036854775807:=hbidders.2.1▸hbidders.1.max;refine ez ?_;have hq:=ek hk;clear hk;obtain ⟨k5,hk5,hk⟩:=hq; (try dsimp only at hk);refine dk (ι:=Unit) (fun z=>[]) (fun z=>[.fr F1]) (fun z=>k5 ()=some r) ?_ ?_
   ·have hq:=fX hk;clear hk;obtain ⟨f7,kk7,hf7,hkk7,hk⟩:=hq;refine ff ?_;refine T.loop (ι:=Nat×Int) (fun z=>[(0,vl),(5, .int .i64 z.2),(16,vbidders),(17, .int .i64 (bidders.length:Int)),(18, .int .i64 (z.1:Int))]) (fun z=>[.fr F1]) (fun z=>dN f7 kk7 (bidders.length - z.1) z.1 z.2=some r) (fun z=>bidders.length - z.1) (0,(-1)) ?_ ?_ ?_ ?_
    ·exact hk
    ·exact jW
    ·exact fa
    ·rintro ⟨i_8,last_6⟩ hk; (try dsimp only at *);refine ft ?_;refine T.cond rfl (fun h9=>?_) (fun h9=>?_)
     ·have p9:=of_decide_eq_true h9;rw [fW a6] at hk;generalize hn7:dN f7 kk7 (bidders.length - (i_8+1)) (i_8+1)=next7 at hk;rw [←hf7] at hk; (try dsimp only at hk);refine jc ?_;refine cY (dA (i:=i_8) rfl rfl rfl hbidders.1 hbidders.2.1 rfl a6) ?_;refine cY (fG 0 (i:=i_8) (j:=0) rfl rfl rfl hbidders.1 hbidders.2.1 a6 rfl (fF (hbidders.2.2 i_8 a6))) ?_;have hd21_3:=(fB (hbidders.2.2 i_8 a6)).2;haveI:=hd21_3.oneC;refine fJ ?_;rintro _ _ ⟨g7,rfl,rfl⟩;refine ga ?_;refine jv ?_;refine dk (ι:=Unit) (fun z=>[(0,vl),(7, .pointer (some ⟨g7,0,none⟩)),(16,vbidders),(17, .int .i64 (bidders.length:Int)),(18, .int .i64 (i_8:Int)),(30, .bool ((decide ((nth bidders i_8).ID≤last_6))||(decide (32≤(nth bidders i_8).ID))))]) (fun z=>[.row g7 57 [.int .i64 ((nth bidders i_8).ID), .int .i64 ((nth bidders i_8).Eligibility), .int .i64 ((nth bidders i_8).Waivers),(nth (nth cbidders i_8) 3)], .fr F1]) (fun z=>True) ?_ ?_
      ·refine fu ?_;refine lD ?_;refine dp rfl rfl rfl (fun h10=>?_) (fun h10=>?_)
       ·have p10:=of_decide_eq_true h10;refine iK ?_;exact dg () trivial (.c (.c (.c (.c (.c (.b (fO h10).symm .nil)))))) (List.Sublist.refl _)
       ·have p10:=of_decide_eq_false h10;refine gh ?_;refine jh ?_;exact dg () trivial (.c (.c (.c (.c (.c (.b (gE h10) .nil)))))) (List.Sublist.refl _)
      ·rintro _ _;refine T.cond rfl (fun h11=>?_) (fun h11=>?_)
       ·replace hk:=dt hk h11;refine q4c ?_;obtain rfl:=Option.some.inj hk;exact eB
       ·have p11:=h11; (try simp only [iy] at p11);replace hk:=dw hk h11;refine q2y ?_;refine dk (ι:=Unit) (fun z=>[(0,vl),(7, .pointer (some ⟨g7,0,none⟩)),(16,vbidders),(17, .int .i64 (bidders.length:Int)),(18, .int .i64 (i_8:Int)),(48, .bool ((((decide ((nth bidders i_8).Eligibility<0))||(decide (76800000<(nth bidders i_8).Eligibility)))||(decide ((nth bidders i_8).Waivers<0)))||(decide (3<(nth bidders i_8).Waivers))))]) (fun z=>[.row g7 57 [.int .i64 ((nth bidders i_8).ID), .int .i64 ((nth bidders i_8).Eligibility), .int .i64 ((nth bidders i_8).Waivers),(nth (nth cbidders i_8) 3)], .fr F1]) (fun z=>True) ?_ ?_
        ·refine fu ?_;refine gh ?_;refine ep ?_;refine dp rfl rfl rfl (fun h12=>?_) (fun h12=>?_)
         ·have p12:=of_decide_eq_true h12;refine TL.run 14 rfl ?_;refine fM ?_;exact dg () trivial (.c (.c (.c (.c (.c (.b (fO (fO (fO h12))).symm .nil)))))) (List.Sublist.refl _)
         ·have p12:=of_decide_eq_false h12;refine lD ?_;refine dp rfl rfl rfl (fun h13=>?_) (fun h13=>?_)
          ·have p13:=of_decide_eq_true h13;refine q32 ?_;exact dg () trivial (.c (.c (.c (.c (.c (.b (fO (fO (gH h12 h13))).symm .nil)))))) (List.Sublist.refl _)
          ·have p13:=of_decide_eq_false h13;refine lD ?_;refine dp rfl rfl rfl (fun h14=>?_) (fun h14=>?_)
           ·have p14:=of_decide_eq_true h14;refine iK ?_;exact dg () trivial (.c (.c (.c (.c (.c (.b (fO (gH (gH h12 h13) h14)).symm .nil)))))) (List.Sublist.refl _)
           ·have p14:=of_decide_eq_false h14;refine gh ?_;refine jh ?_;exact dg () trivial (.c (.c (.c (.c (.c (.b (gE (gH (gH h12 h13) h14)) .nil)))))) (List.Sublist.refl _)
        ·rintro _ _;refine T.cond rfl (fun h15=>?_) (fun h15=>?_)
         ·replace hk:=dt hk h15;refine q4c ?_;obtain rfl:=Option.some.inj hk;exact eB
         ·have p15:=h15; (try simp only [iy] at p15);replace hk:=dw hk h15;refine q2y ?_; (try dsimp only at hk);have hq:=ek hk;clear hk;obtain ⟨k17,hk17,hk⟩:=hq; (try dsimp only at hk);refine dk (ι:=Bool) (fun z=>[(0,vl),(7, .pointer (some ⟨g7,0,none⟩)),(16,vbidders),(17, .int .i64 (bidders.length:Int)),(18, .int .i64 (i_8:Int)),(62, .bool z)]) (fun z=>[.row g7 57 [.int .i64 ((nth bidders i_8).ID), .int .i64 ((nth bidders i_8).Eligibility), .int .i64 ((nth bidders i_8).Waivers),(nth (nth cbidders i_8) 3)], .fr F1]) (fun z=>k17 z=some r) ?_ ?_
          ·refine ef (sN 0 3 (.eff 3 (sN 4 5 (sN 10 2 (.eff 9 (.still 12 (.still 13 .done))))))) _ a8 (List.Sublist.refl _) ?_;refine gB ?_;refine ip ?_;refine d7 ?_;refine dl rfl (c9) rfl rfl (dj rfl rfl rfl (fun w hw=>zgh _ w (hw.fr (i:=1) rfl) l vl hl ((nth bidders i_8).Blocks) (nth (nth cbidders i_8) 3) hd21_3)) ?_;refine jY ?_;refine gc ?_;refine fq rfl rfl rfl rfl (fun h18=>?_) (fun h18=>?_)
           ·replace hk:=dt hk h18;refine TS.run 5 rfl ?_;refine lJ ?_;refine kq ?_;exact dg true hk (.c (.c (.c (.c (.c (.c .nil)))))) (List.Sublist.refl _)
           ·replace hk:=dw hk h18;refine gB ?_;refine ip ?_;refine ip ?_;refine d7 ?_;have hq:=dC hk;clear hk;obtain ⟨r58,hr58,hk⟩:=hq;refine dl rfl (Wt.some) rfl rfl (dj rfl rfl rfl (fun w hw=>zfR _ w (hw.fr (i:=1) rfl) l vl hl ((nth bidders i_8).Blocks) (nth (nth cbidders i_8) 3) hd21_3 r58 hr58)) ?_;refine jY ?_;refine kq ?_;exact dg (decide ((nth bidders i_8).Eligibility<r58)) hk (.c (.c (.c (.c (.c (.c .nil)))))) (List.Sublist.refl _)
          ·rintro x_16 hk;rw [←hk17] at hk; (try dsimp only at hk);refine T.cond rfl (fun h19=>?_) (fun h19=>?_)
           ·replace hk:=dt hk h19;refine q4c ?_;obtain rfl:=Option.some.inj hk;exact eB
           ·replace hk:=dw hk h19;refine T.skip (K.seq (T.region ?_));refine kg ?_;refine jw ?_;rw [←hn7] at hk;refine jd ?_;exact K.next ((i_8+1),(nth bidders i_8).ID) hk a9 (.c (.c (.c (.c (.c .nil))))) (List.Sublist.refl _)
     ·have p9:=of_decide_eq_false h9;rw [fY a6,←hkk7] at hk; (try dsimp only at hk);refine fi ?_;exact lz
   ·rintro _ hk;rw [←hk5] at hk; (try dsimp only at hk);refine kK ?_;obtain rfl:=Option.some.inj hk;exact eB
def zcJ (x_:GBidder)(xf0_:GBid):Bool:=
 (decide (x_.ID=xf0_.Bidder))
theorem zfO (F0:Frz)(w:World)(hF0:F0.At w)(x_:GBidder)(vx__3:Value)(hx__3:SlC F0 vx__3 1 (x_.Blocks.map eI))(xf0_:GBid)(gf0_:Nat)(vf0_4:Value)(hf0_4:SlC F0 vf0_4 1 (xf0_.Point.Num.Digits.map (eK .u8)))(vf0_6:Value)(hf0_6:SlC F0 vf0_6 1 (xf0_.Point.Den.Digits.map (eK .u8)))(hO:Hp w (dD [.row gf0_ 79 [.int .i64 xf0_.Bidder, .int .i64 xf0_.Product, .int .i64 xf0_.Change, .bool xf0_.Point.Num.Neg,vf0_4, .bool xf0_.Point.Den.Neg,vf0_6]]) [.row gf0_ 79 [.int .i64 xf0_.Bidder, .int .i64 xf0_.Product, .int .i64 xf0_.Change, .bool xf0_.Point.Num.Neg,vf0_4, .bool xf0_.Point.Den.Neg,vf0_6]] w)(hA:∀g,dD [.row gf0_ 79 [.int .i64 xf0_.Bidder, .int .i64 xf0_.Product, .int .i64 xf0_.Change, .bool xf0_.Point.Num.Neg,vf0_4, .bool xf0_.Point.Den.Neg,vf0_6]] g→¬F0.S g):Calls Tryz.prog 141 #[.agg [.int .i64 x_.ID, .int .i64 x_.Eligibility, .int .i64 x_.Waivers,vx__3].toArray, .pointer (some ⟨gf0_,0,none⟩)] w fun e w'=>∃(y:Unit),(True)∧e= .returned (.bool (zcJ x_ xf0_))∧FxM F0 w (dD [.row gf0_ 79 [.int .i64 xf0_.Bidder, .int .i64 xf0_.Product, .int .i64 xf0_.Change, .bool xf0_.Point.Num.Neg,vf0_4, .bool xf0_.Point.Den.Neg,vf0_6]]) F0 [.row gf0_ 79 [.int .i64 xf0_.Bidder, .int .i64 xf0_.Product, .int .i64 xf0_.Change, .bool xf0_.Point.Num.Neg,vf0_4, .bool xf0_.Point.Den.Neg,vf0_6]] w':=by
 obtain ⟨r,hk⟩:∃r,zcJ x_ xf0_=r:=⟨_,rfl⟩;rw [hk];unfold zcJ at hk;haveI:=hx__3.oneC;haveI:=hf0_4.oneC;haveI:=hf0_6.oneC;obtain ⟨S0,F1,rfl,hS0,hp0⟩:=fN hF0 hO hA;refine dT (hs:=[.row gf0_ 79 [.int .i64 xf0_.Bidder, .int .i64 xf0_.Product, .int .i64 xf0_.Change, .bool xf0_.Point.Num.Neg,vf0_4, .bool xf0_.Point.Den.Neg,vf0_6], .fr F1]) Tryz.func141 rfl rfl rfl hp0 ?_;refine gY ?_;rintro _ _ ⟨g2,rfl,rfl⟩;refine iw ?_;refine gh ?_;refine kV ?_;refine kW ?_;subst hk;exact q4O
def zax (s:List GBidder)(x1c0_:GBid):Int:=
 dO (fun (_:Unit)=>
 (-1))
 (fun k1=>
 dN (fun (i_3:Nat) (next2:Unit→Int) (_:Unit)=>
 (bif (zcJ (nth s i_3) x1c0_) then
 (i_3:Int)
 else
 next2 ()))
 (fun (_:Unit)=>
 k1 ()) (s.length - 0) 0 ())
theorem zbO (F0:Frz)(w:World)(hF0:F0.At w)(s:List GBidder)(vs:Value)(cs:List (List Value))(hs:SlD cZ F0 vs 4 cs s)(x1c0_:GBid)(g1c0_:Nat)(v1c0_4:Value)(h1c0_4:SlC F0 v1c0_4 1 (x1c0_.Point.Num.Digits.map (eK .u8)))(v1c0_6:Value)(h1c0_6:SlC F0 v1c0_6 1 (x1c0_.Point.Den.Digits.map (eK .u8)))(hO:Hp w (dD [.row g1c0_ 79 [.int .i64 x1c0_.Bidder, .int .i64 x1c0_.Product, .int .i64 x1c0_.Change, .bool x1c0_.Point.Num.Neg,v1c0_4, .bool x1c0_.Point.Den.Neg,v1c0_6]]) [.row g1c0_ 79 [.int .i64 x1c0_.Bidder, .int .i64 x1c0_.Product, .int .i64 x1c0_.Change, .bool x1c0_.Point.Num.Neg,v1c0_4, .bool x1c0_.Point.Den.Neg,v1c0_6]] w)(hA:∀g,dD [.row g1c0_ 79 [.int .i64 x1c0_.Bidder, .int .i64 x1c0_.Product, .int .i64 x1c0_.Change, .bool x1c0_.Point.Num.Neg,v1c0_4, .bool x1c0_.Point.Den.Neg,v1c0_6]] g→¬F0.S g):Calls Tryz.prog 118 #[vs, .func (.func 141) #[] #[.pointer (some ⟨g1c0_,0,none⟩)]] w fun e w'=>∃(y:Unit),(True)∧e= .returned (.int .i64 (zax s x1c0_))∧FxM F0 w (dD [.row g1c0_ 79 [.int .i64 x1c0_.Bidder, .int .i64 x1c0_.Product, .int .i64 x1c0_.Change, .bool x1c0_.Point.Num.Neg,v1c0_4, .bool x1c0_.Point.Den.Neg,v1c0_6]]) F0 [.row g1c0_ 79 [.int .i64 x1c0_.Bidder, .int .i64 x1c0_.Product, .int .i64 x1c0_.Change, .bool x1c0_.Point.Num.Neg,v1c0_4, .bool x1c0_.Point.Den.Neg,v1c0_6]] w':=by
 obtain ⟨r,hk⟩:∃r,zax s x1c0_=r:=⟨_,rfl⟩;rw [hk];unfold zax at hk;haveI:=hs.1.oneC;haveI:=h1c0_4.oneC;haveI:=h1c0_6.oneC;obtain ⟨S0,F1,rfl,hS0,hp0⟩:=fN hF0 hO hA;refine dT (hs:=[.row g1c0_ 79 [.int .i64 x1c0_.Bidder, .int .i64 x1c0_.Product, .int .i64 x1c0_.Change, .bool x1c0_.Point.Num.Neg,v1c0_4, .bool x1c0_.Point.Den.Neg,v1c0_6], .fr F1]) Tryz.func118 rfl rfl rfl hp0 ?_;refine jy ?_;refine cY (dE rfl rfl hs.1 hs.2.1) ?_;have hm7:s.length≤9223372036854775807:=hs.2.1▸hs.1.max;refine ez ?_;have hq:=ek hk;clear hk;obtain ⟨k1,hk1,hk⟩:=hq; (try dsimp only at hk);refine dk (ι:=Unit) (fun z=>[]) (fun z=>[.row g1c0_ 79 [.int .i64 x1c0_.Bidder, .int .i64 x1c0_.Product, .int .i64 x1c0_.Change, .bool x1c0_.Point.Num.Neg,v1c0_4, .bool x1c0_.Point.Den.Neg,v1c0_6], .fr F1]) (fun z=>k1 ()=r) ?_ ?_
 ·have hq:=fX hk;clear hk;obtain ⟨f2,kk2,hf2,hkk2,hk⟩:=hq;refine ff ?_;refine T.loop (ι:=Nat) (fun z=>[(0,vs),(1, .func (.func 141) #[] #[.pointer (some ⟨g1c0_,0,none⟩)]),(7, .int .i64 (s.length:Int)),(8, .int .i64 (z:Int))]) (fun z=>[.row g1c0_ 79 [.int .i64 x1c0_.Bidder, .int .i64 x1c0_.Product, .int .i64 x1c0_.Change, .bool x1c0_.Point.Num.Neg,v1c0_4, .bool x1c0_.Point.Den.Neg,v1c0_6], .fr F1]) (fun z=>dN f2 kk2 (s.length - z) z ()=r) (fun z=>s.length - z) 0 ?_ ?_ ?_ ?_
  ·exact hk
  ·exact jB
  ·exact fa
  ·rintro i_3 hk;refine ft ?_;refine T.cond rfl (fun h4=>?_) (fun h4=>?_)
   ·have p4:=of_decide_eq_true h4;rw [fW a6] at hk;generalize hn2:dN f2 kk2 (s.length - (i_3+1)) (i_3+1)=next2 at hk;rw [←hf2] at hk; (try dsimp only at hk);refine q2W ?_;have hd15_3:=(fB (hs.2.2 i_3 a6)).2;haveI:=hd15_3.oneC;refine de (dG [0,1] [.row g1c0_ 79 [.int .i64 x1c0_.Bidder, .int .i64 x1c0_.Product, .int .i64 x1c0_.Change, .bool x1c0_.Point.Num.Neg,v1c0_4, .bool x1c0_.Point.Den.Neg,v1c0_6]] [] rfl rfl rfl rfl a7 (fun w hw hw2 hF=>zfO _ w hF (nth s i_3) (nth (nth cs i_3) 3) hd15_3 x1c0_ g1c0_ v1c0_4 h1c0_4 v1c0_6 h1c0_6 hw2.takes.1 hw2.takes.2)) ?_;rintro _ _ ⟨⟨⟩, -,rfl,rfl⟩;refine ms ?_;refine T.cond rfl (fun h5=>?_) (fun h5=>?_)
    ·replace hk:=dt hk h5;refine gS ?_;refine kE ?_;subst hk;exact lY
    ·replace hk:=dw hk h5;refine mm ?_;rw [←hn2] at hk;exact q4H
   ·have p4:=of_decide_eq_false h4;rw [fY a6,←hkk2] at hk; (try dsimp only at hk);refine fi ?_;exact lz
 ·rintro _ hk;rw [←hk1] at hk; (try dsimp only at hk);refine kK ?_;subst hk;exact lY
def zau (s:List GBidder)(x1c0_:GBid):Bool:=
 (decide (0≤(zax s x1c0_)))
theorem zbJ (F0:Frz)(w:World)(hF0:F0.At w)(s:List GBidder)(vs:Value)(cs:List (List Value))(hs:SlD cZ F0 vs 4 cs s)(x1c0_:GBid)(g1c0_:Nat)(v1c0_4:Value)(h1c0_4:SlC F0 v1c0_4 1 (x1c0_.Point.Num.Digits.map (eK .u8)))(v1c0_6:Value)(h1c0_6:SlC F0 v1c0_6 1 (x1c0_.Point.Den.Digits.map (eK .u8)))(hO:Hp w (dD [.row g1c0_ 79 [.int .i64 x1c0_.Bidder, .int .i64 x1c0_.Product, .int .i64 x1c0_.Change, .bool x1c0_.Point.Num.Neg,v1c0_4, .bool x1c0_.Point.Den.Neg,v1c0_6]]) [.row g1c0_ 79 [.int .i64 x1c0_.Bidder, .int .i64 x1c0_.Product, .int .i64 x1c0_.Change, .bool x1c0_.Point.Num.Neg,v1c0_4, .bool x1c0_.Point.Den.Neg,v1c0_6]] w)(hA:∀g,dD [.row g1c0_ 79 [.int .i64 x1c0_.Bidder, .int .i64 x1c0_.Product, .int .i64 x1c0_.Change, .bool x1c0_.Point.Num.Neg,v1c0_4, .bool x1c0_.Point.Den.Neg,v1c0_6]] g→¬F0.S g):Calls Tryz.prog 140 #[vs, .func (.func 141) #[] #[.pointer (some ⟨g1c0_,0,none⟩)]] w fun e w'=>∃(y:Unit),(True)∧e= .returned (.bool (zau s x1c0_))∧FxM F0 w (dD [.row g1c0_ 79 [.int .i64 x1c0_.Bidder, .int .i64 x1c0_.Product, .int .i64 x1c0_.Change, .bool x1c0_.Point.Num.Neg,v1c0_4, .bool x1c0_.Point.Den.Neg,v1c0_6]]) F0 [.row g1c0_ 79 [.int .i64 x1c0_.Bidder, .int .i64 x1c0_.Product, .int .i64 x1c0_.Change, .bool x1c0_.Point.Num.Neg,v1c0_4, .bool x1c0_.Point.Den.Neg,v1c0_6]] w':=by
 obtain ⟨r,hk⟩:∃r,zau s x1c0_=r:=⟨_,rfl⟩;rw [hk];unfold zau at hk;haveI:=hs.1.oneC;haveI:=h1c0_4.oneC;haveI:=h1c0_6.oneC;obtain ⟨S0,F1,rfl,hS0,hp0⟩:=fN hF0 hO hA;refine dT (hs:=[.row g1c0_ 79 [.int .i64 x1c0_.Bidder, .int .i64 x1c0_.Product, .int .i64 x1c0_.Change, .bool x1c0_.Point.Num.Neg,v1c0_4, .bool x1c0_.Point.Den.Neg,v1c0_6], .fr F1]) Tryz.func140 rfl rfl rfl hp0 ?_;refine jE ?_;refine ep ?_;refine de (dG [0,1] [.row g1c0_ 79 [.int .i64 x1c0_.Bidder, .int .i64 x1c0_.Product, .int .i64 x1c0_.Change, .bool x1c0_.Point.Num.Neg,v1c0_4, .bool x1c0_.Point.Den.Neg,v1c0_6]] [] rfl rfl rfl rfl a7 (fun w hw hw2 hF=>zbO _ w hF s vs cs hs x1c0_ g1c0_ v1c0_4 h1c0_4 v1c0_6 h1c0_6 hw2.takes.1 hw2.takes.2)) ?_;rintro _ _ ⟨⟨⟩, -,rfl,rfl⟩;refine fe ?_;refine kW ?_;subst hk;exact lY
def zdP (l:List GProduct)(bidders:List GBidder)(bids:List GBid):Option Bool:=
 dO (fun (x_1:Bool)=>
 (bif x_1 then
 some false
 else
 dO (fun (_:Unit)=>
 some true)
 (fun k5=>
 dN (fun (i_8:Nat) (next7:Int→Option Bool) (last_6:Int)=>
 (bif (((decide ((nth bids i_8).Bidder<last_6))||(decide ((nth bids i_8).Product<0)))||(decide ((l.length:Int)≤(nth bids i_8).Product))) then
 some false
 else
 (bif (((decide ((nth bids i_8).Change<(-12)))||(decide (12<(nth bids i_8).Change)))||(decide ((nth bids i_8).Change=0))) then
 some false
 else
 (bif !(zau bidders (nth bids i_8)) then
 some false
 else
 next7 ((nth bids i_8).Bidder)))))
 (fun (last_6:Int)=>
 k5 ()) (bids.length - 0) 0 0)))
 (fun k2=>
 (bif decide (128<(bids.length:Int)) then
 k2 true
 else
 (zbq l bidders).bind fun r16=>
 k2 (!r16)))
theorem zf4 (F0:Frz)(w:World)(hF0:F0.At w)(l:List GProduct)(vl:Value)(hl:SlC F0 vl 5 (l.map dh))(bidders:List GBidder)(vbidders:Value)(cbidders:List (List Value))(hbidders:SlD cZ F0 vbidders 4 cbidders bidders)(bids:List GBid)(vbids:Value)(cbids:List (List Value))(hbids:SlD df F0 vbids 7 cbids bids)(r:Bool)(hr:zdP l bidders bids=some r):Calls Tryz.prog 58 #[vl,vbidders,vbids] w fun e w'=>e= .returned (.bool r)∧Below w.heap.size w w':=by
 have hk:=hr;unfold zdP at hk;haveI:=hl.oneC;haveI:=hbidders.1.oneC;haveI:=hbids.1.oneC;obtain ⟨S0,F1,rfl,hS0,hp0⟩:=eH hF0;refine dT Tryz.func58 rfl rfl rfl hp0 ?_;refine gA ?_;refine jv ?_; (try dsimp only at hk);have hq:=ek hk;clear hk;obtain ⟨k2,hk2,hk⟩:=hq; (try dsimp only at hk);refine dk (ι:=Bool) (fun z=>[(0,vl),(1,vbidders),(2,vbids),(18, .bool z)]) (fun z=>[.fr F1]) (fun z=>k2 z=some r) ?_ ?_
 ·refine eF ?_;refine cY (dE rfl rfl hbids.1 hbids.2.1) ?_;have hm11:bids.length≤9223372036854775807:=hbids.2.1▸hbids.1.max;refine ep ?_;refine dp rfl rfl rfl (fun h3=>?_) (fun h3=>?_)
  ·have p3:=of_decide_eq_true h3;replace hk:=dt hk h3;refine kw ?_;exact q41
  ·have p3:=of_decide_eq_false h3;replace hk:=dw hk h3;refine ep ?_;have hq:=dC hk;clear hk;obtain ⟨r16,hr16,hk⟩:=hq;refine de (dj rfl rfl rfl (fun w hw=>zcy _ w (hw.fr (i:=0) rfl) l vl hl bidders vbidders cbidders hbidders r16 hr16)) ?_;refine jH ?_;exact dg (!r16) hk (.c (.c (.c (.c .nil)))) (List.Sublist.refl _)
 ·rintro x_1 hk;rw [←hk2] at hk; (try dsimp only at hk);refine T.cond rfl (fun h4=>?_) (fun h4=>?_)
  ·replace hk:=dt hk h4;refine iu ?_;obtain rfl:=Option.some.inj hk;exact eB
  ·replace hk:=dw hk h4;refine iz ?_;refine jb ?_;refine cY (dE rfl rfl hbids.1 hbids.2.1) ?_;have hm20:bids.length≤9223372036854775807:=hbids.2.1▸hbids.1.max;refine ez ?_;have hq:=ek hk;clear hk;obtain ⟨k5,hk5,hk⟩:=hq; (try dsimp only at hk);refine dk (ι:=Unit) (fun z=>[]) (fun z=>[.fr F1]) (fun z=>k5 ()=some r) ?_ ?_
   ·have hq:=fX hk;clear hk;obtain ⟨f7,kk7,hf7,hkk7,hk⟩:=hq;refine ff ?_;refine T.loop (ι:=Nat×Int) (fun z=>[(0,vl),(1,vbidders),(7, .int .i64 z.2),(19,vbids),(20, .int .i64 (bids.length:Int)),(21, .int .i64 (z.1:Int))]) (fun z=>[.fr F1]) (fun z=>dN f7 kk7 (bids.length - z.1) z.1 z.2=some r) (fun z=>bids.length - z.1) (0,0) ?_ ?_ ?_ ?_
    ·exact hk
    ·exact lZ
    ·exact fa
    ·rintro ⟨i_8,last_6⟩ hk; (try dsimp only at *);refine ft ?_;refine T.cond rfl (fun h9=>?_) (fun h9=>?_)
     ·have p9:=of_decide_eq_true h9;rw [fW a6] at hk;generalize hn7:dN f7 kk7 (bids.length - (i_8+1)) (i_8+1)=next7 at hk;rw [←hf7] at hk; (try dsimp only at hk);refine jc ?_;refine cY (dA (i:=i_8) rfl rfl rfl hbids.1 hbids.2.1 rfl a6) ?_;refine cY (fG 0 (i:=i_8) (j:=0) rfl rfl rfl hbids.1 hbids.2.1 a6 rfl (eL (hbids.2.2 i_8 a6))) ?_;have hd24_4:=(fo (hbids.2.2 i_8 a6)).2;haveI:=hd24_4.oneC;have hd24_6:=(fm (hbids.2.2 i_8 a6)).2;haveI:=hd24_6.oneC;refine fJ ?_;rintro _ _ ⟨g9,rfl,rfl⟩;refine ga ?_;refine jv ?_;refine dk (ι:=Unit) (fun z=>[(0,vl),(1,vbidders),(9, .pointer (some ⟨g9,0,none⟩)),(19,vbids),(20, .int .i64 (bids.length:Int)),(21, .int .i64 (i_8:Int)),(40, .bool (((decide ((nth bids i_8).Bidder<last_6))||(decide ((nth bids i_8).Product<0)))||(decide ((l.length:Int)≤(nth bids i_8).Product))))]) (fun z=>[.row g9 79 [.int .i64 ((nth bids i_8).Bidder), .int .i64 ((nth bids i_8).Product), .int .i64 ((nth bids i_8).Change), .bool ((nth bids i_8).Point.Num.Neg),(nth (nth cbids i_8) 4), .bool ((nth bids i_8).Point.Den.Neg),(nth (nth cbids i_8) 6)], .fr F1]) (fun z=>True) ?_ ?_
      ·refine fu ?_;refine lD ?_;refine dp rfl rfl rfl (fun h10=>?_) (fun h10=>?_)
       ·have p10:=of_decide_eq_true h10;refine TL.run 11 rfl ?_;refine fM ?_;exact dg () trivial (.c (.c (.c (.c (.c (.c (.b (fO (fO h10)).symm .nil))))))) (List.Sublist.refl _)
       ·have p10:=of_decide_eq_false h10;refine lD ?_;refine dp rfl rfl rfl (fun h11=>?_) (fun h11=>?_)
        ·have p11:=of_decide_eq_true h11;refine TL.run 6 rfl ?_;refine fM ?_;exact dg () trivial (.c (.c (.c (.c (.c (.c (.b (fO (gH h10 h11)).symm .nil))))))) (List.Sublist.refl _)
        ·have p11:=of_decide_eq_false h11;refine kg ?_;refine q23 ?_;have hm38:l.length≤9223372036854775807:=(List.length_map _)▸hl.max;refine jh ?_;exact dg () trivial (.c (.c (.c (.c (.c (.c (.b (gE (gH h10 h11)) .nil))))))) (List.Sublist.refl _)
      ·rintro _ _;have hm38:l.length≤9223372036854775807:=(List.length_map _)▸hl.max;refine T.cond rfl (fun h12=>?_) (fun h12=>?_)
       ·replace hk:=dt hk h12;refine q4c ?_;obtain rfl:=Option.some.inj hk;exact eB
       ·have p12:=h12; (try simp only [iy] at p12);replace hk:=dw hk h12;refine q2y ?_;refine dk (ι:=Unit) (fun z=>[(0,vl),(1,vbidders),(9, .pointer (some ⟨g9,0,none⟩)),(19,vbids),(20, .int .i64 (bids.length:Int)),(21, .int .i64 (i_8:Int)),(53, .bool (((decide ((nth bids i_8).Change<(-12)))||(decide (12<(nth bids i_8).Change)))||(decide ((nth bids i_8).Change=0))))]) (fun z=>[.row g9 79 [.int .i64 ((nth bids i_8).Bidder), .int .i64 ((nth bids i_8).Product), .int .i64 ((nth bids i_8).Change), .bool ((nth bids i_8).Point.Num.Neg),(nth (nth cbids i_8) 4), .bool ((nth bids i_8).Point.Den.Neg),(nth (nth cbids i_8) 6)], .fr F1]) (fun z=>True) ?_ ?_
        ·refine fu ?_;refine gh ?_;refine ep ?_;refine dp rfl rfl rfl (fun h13=>?_) (fun h13=>?_)
         ·have p13:=of_decide_eq_true h13;refine q32 ?_;exact dg () trivial (.c (.c (.c (.c (.c (.c (.b (fO (fO h13)).symm .nil))))))) (List.Sublist.refl _)
         ·have p13:=of_decide_eq_false h13;refine lD ?_;refine dp rfl rfl rfl (fun h14=>?_) (fun h14=>?_)
          ·have p14:=of_decide_eq_true h14;refine iK ?_;exact dg () trivial (.c (.c (.c (.c (.c (.c (.b (fO (gH h13 h14)).symm .nil))))))) (List.Sublist.refl _)
          ·have p14:=of_decide_eq_false h14;refine gh ?_;refine jh ?_;exact dg () trivial (.c (.c (.c (.c (.c (.c (.b (gE (gH h13 h14)) .nil))))))) (List.Sublist.refl _)
        ·rintro _ _;refine T.cond rfl (fun h15=>?_) (fun h15=>?_)
         ·replace hk:=dt hk h15;refine q4c ?_;obtain rfl:=Option.some.inj hk;exact eB
         ·have p15:=h15; (try simp only [iy] at p15);replace hk:=dw hk h15;refine jQ ?_;refine ep ?_;refine de (dG [0,1] [.row g9 79 [.int .i64 ((nth bids i_8).Bidder), .int .i64 ((nth bids i_8).Product), .int .i64 ((nth bids i_8).Change), .bool ((nth bids i_8).Point.Num.Neg),(nth (nth cbids i_8) 4), .bool ((nth bids i_8).Point.Den.Neg),(nth (nth cbids i_8) 6)]] [] rfl rfl rfl rfl a7 (fun w hw hw2 hF=>zbJ _ w hF bidders vbidders cbidders hbidders (nth bids i_8) g9 (nth (nth cbids i_8) 4) hd24_4 (nth (nth cbids i_8) 6) hd24_6 hw2.takes.1 hw2.takes.2)) ?_;rintro _ _ ⟨⟨⟩, -,rfl,rfl⟩;refine fe ?_;refine ez ?_;refine T.cond rfl (fun h16=>?_) (fun h16=>?_)
          ·replace hk:=dt hk h16;refine q4c ?_;obtain rfl:=Option.some.inj hk;exact eB
          ·replace hk:=dw hk h16;refine T.skip (K.seq (T.region ?_));refine kg ?_;refine jw ?_;rw [←hn7] at hk;refine jd ?_;exact K.next ((i_8+1),(nth bids i_8).Bidder) hk a9 (.c (.c (.c (.c (.c (.c .nil)))))) (List.Sublist.refl _)
     ·have p9:=of_decide_eq_false h9;rw [fY a6,←hkk7] at hk; (try dsimp only at hk);refine fi ?_;exact lz
   ·rintro _ hk;rw [←hk5] at hk; (try dsimp only at hk);refine kK ?_;obtain rfl:=Option.some.inj hk;exact eB
def zeY (l:List GProduct)(bidders:List GBidder):Option (List Int×Int):=
 (zbq l bidders).bind fun r13=>
 (bif !r13 then
 some ([],2)
 else
 dB (dK l.length 8) <|
 dO (fun (l_2:List Int)=>
 some (l_2,0))
 (fun k3=>
 dN (fun (i_6:Nat) (next5:List Int→Option (List Int×Int)) (l_4:List Int)=>
 dN (fun (i_10:Nat) (next9:List Int→Option (List Int×Int)) (l_8:List Int)=>
 dB (0≤(i_10:Int)∧(i_10:Int)<(l_8.length:Int)) <|
 next9 (l_8.set i_10 (wI ((nth l_8 i_10)+(nth ((nth bidders i_6).Blocks) i_10)))))
 (fun (l_8:List Int)=>
 next5 l_8) ((((nth bidders i_6).Blocks).length) - 0) 0 l_4)
 (fun (l_4:List Int)=>
 k3 l_4) (bidders.length - 0) 0 (List.replicate l.length (0:Int))))
theorem zhc (F0:Frz)(w:World)(hF0:F0.At w)(l:List GProduct)(vl:Value)(hl:SlC F0 vl 5 (l.map dh))(bidders:List GBidder)(vbidders:Value)(cbidders:List (List Value))(hbidders:SlD cZ F0 vbidders 4 cbidders bidders)(r:List Int×Int)(hr:zeY l bidders=some r):Calls Tryz.prog 67 #[vl,vbidders] w fun e w'=>∃(y:Value),(True)∧e= .returned (.tuple #[y, .int .i64 r.2])∧FxM F0 w (dD []) F0 [.sl y 3 1 r.1.length (r.1.flatMap eI)] w':=by
 have hk:=hr;unfold zeY at hk;haveI:=hl.oneC;haveI:=hbidders.1.oneC;obtain ⟨S0,F1,rfl,hS0,hp0⟩:=eH hF0;rw [zg8];refine dT Tryz.func67 rfl rfl rfl hp0 ?_;refine gS ?_;refine jv ?_;have hq:=dC hk;clear hk;obtain ⟨r13,hr13,hk⟩:=hq; (try dsimp only at hk);refine eZ ?_;refine de (dj rfl rfl rfl (fun w hw=>zcy _ w (hw.fr (i:=0) rfl) l vl hl bidders vbidders cbidders hbidders r13 hr13)) ?_;refine lL ?_;refine T.cond rfl (fun h1=>?_) (fun h1=>?_)
 ·replace hk:=dt hk h1;refine kn ?_;refine K.slNil 3 1 ?_;obtain rfl:=Option.some.inj hk;exact fk rfl rfl rfl (fun w' hw=>⟨(.slice none 0 0),trivial,rfl,dz (hw.pick (idx:=[0,1]) rfl a7) hS0 (Frz.Le.refl _)⟩)
 ·replace hk:=dw hk h1;refine fV ?_;have hq:(dK l.length 8)∧_:=dJ hk;clear hk;obtain ⟨g17,hk⟩:=hq; (try dsimp only at hk);refine eF ?_;refine q23 ?_;have hm16:l.length≤9223372036854775807:=(List.length_map _)▸hl.max;refine de (gm (n':=l.length) (enc:=eI) (u:=(0:Int)) rfl rfl rfl rfl g17 a7 a7 (fun _=>rfl) rfl) ?_;rintro v17 _ ⟨hv17,rfl⟩;refine kD ?_;intro iv17 hmv17;refine jb ?_;refine cY (dE rfl rfl hbidders.1 hbidders.2.1) ?_;have hm19:bidders.length≤9223372036854775807:=hbidders.2.1▸hbidders.1.max;refine ez ?_;have hq:=ek hk;clear hk;obtain ⟨k3,hk3,hk⟩:=hq; (try dsimp only at hk);refine dk (ι:=List Int) (fun z=>[(6,v17)]) (fun z=>[.sl v17 3 1 z.length (z.flatMap eI), .fr F1]) (fun z=>k3 z=some r) ?_ ?_
  ·have hq:=fX hk;clear hk;obtain ⟨f5,kk5,hf5,hkk5,hk⟩:=hq;refine ff ?_;refine T.loop (ι:=Nat×List Int) (fun z=>[(6,v17),(18,vbidders),(19, .int .i64 (bidders.length:Int)),(20, .int .i64 (z.1:Int))]) (fun z=>[.sl v17 3 1 z.2.length (z.2.flatMap eI), .fr F1]) (fun z=>dN f5 kk5 (bidders.length - z.1) z.1 z.2=some r) (fun z=>bidders.length - z.1) (0,(List.replicate l.length (0:Int))) ?_ ?_ ?_ ?_
   ·exact hk
   ·exact jB
   ·exact fa
   ·rintro ⟨i_6,l_4⟩ hk; (try dsimp only at *);refine ft ?_;refine T.cond rfl (fun h7=>?_) (fun h7=>?_)
    ·have p7:=of_decide_eq_true h7;rw [fW a6] at hk;generalize hn5:dN f5 kk5 (bidders.length - (i_6+1)) (i_6+1)=next5 at hk;rw [←hf5] at hk; (try dsimp only at hk);refine jc ?_;refine cY (dA (i:=i_6) rfl rfl rfl hbidders.1 hbidders.2.1 rfl a6) ?_;refine cY (fG 1 (i:=i_6) (j:=0) rfl rfl rfl hbidders.1 hbidders.2.1 a6 rfl (fF (hbidders.2.2 i_6 a6))) ?_;have hd23_3:=(fB (hbidders.2.2 i_6 a6)).2;haveI:=hd23_3.oneC;refine fJ ?_;rintro _ _ ⟨g8,rfl,rfl⟩;refine ga ?_;refine eP ?_;refine gh ?_;refine cY (dE rfl rfl hd23_3 (List.length_map _)) ?_;have hm26:((nth bidders i_6).Blocks).length≤9223372036854775807:=(List.length_map _)▸hd23_3.max;refine ez ?_;have hq:=fX hk;clear hk;obtain ⟨f9,kk9,hf9,hkk9,hk⟩:=hq;refine ff ?_;refine T.pick [1,2] rfl a7 ?_;refine T.loop (ι:=Nat×List Int) (fun z=>[(6,v17),(18,vbidders),(19, .int .i64 (bidders.length:Int)),(20, .int .i64 (i_6:Int)),(25,(nth (nth cbidders i_6) 3)),(26, .int .i64 (((nth bidders i_6).Blocks).length:Int)),(27, .int .i64 (z.1:Int))]) (fun z=>[.sl v17 3 1 z.2.length (z.2.flatMap eI), .fr F1]) (fun z=>dN f9 kk9 ((((nth bidders i_6).Blocks).length) - z.1) z.1 z.2=some r) (fun z=>(((nth bidders i_6).Blocks).length) - z.1) (0,l_4) ?_ ?_ ?_ ?_
     ·exact hk
     ·exact q4K
     ·exact fa
     ·rintro ⟨i_10,l_8⟩ hk; (try dsimp only at *);refine ft ?_;refine T.cond rfl (fun h11=>?_) (fun h11=>?_)
      ·have p11:=of_decide_eq_true h11;rw [fW a6] at hk;generalize hn9:dN f9 kk9 ((((nth bidders i_6).Blocks).length) - (i_10+1)) (i_10+1)=next9 at hk;rw [←hf9] at hk; (try dsimp only at hk);refine kp ?_;refine cY (dA (i:=i_10) rfl rfl rfl hd23_3 (List.length_map _) rfl a6) ?_;refine cY (dR 1 (i:=i_10) (j:=0) rfl rfl rfl hd23_3 a6) ?_;refine jG ?_;have hq:(0≤(i_10:Int)∧(i_10:Int)<(l_8.length:Int))∧_:=dJ hk;clear hk;obtain ⟨g34,hk⟩:=hq; (try dsimp only at hk);refine eZ ?_;refine cY (dW 0 (i:=i_10) rfl rfl rfl rfl rfl a6) ?_;refine cY (eR 0 rfl rfl rfl a6 (ir (enc:=eI) (i:=i_10) (j:=0) (fun _=>rfl) a6 a7)) ?_;refine dH ?_;refine cY (dq (v:= .int .i64 (wI ((nth l_8 i_10)+(nth ((nth bidders i_6).Blocks) i_10))))) ?_;refine cY (dW 0 (i:=i_10) rfl rfl rfl rfl rfl a6) ?_;refine dU (eU 0 (k':=(l_8.set i_10 (wI ((nth l_8 i_10)+(nth ((nth bidders i_6).Blocks) i_10)))).length) (l':=(l_8.set i_10 (wI ((nth l_8 i_10)+(nth ((nth bidders i_6).Blocks) i_10)))).flatMap eI) rfl rfl rfl rfl a6 (iF (enc:=eI) (xs:=l_8) (i:=i_10) (j:=0) (size:=1) (fun _=>rfl) a6 a7 a6) (iE (enc:=eI) (xs:=l_8) (i:=i_10) (j:=0) (size:=1) (x:=(wI ((nth l_8 i_10)+(nth ((nth bidders i_6).Blocks) i_10)))) (fun _=>rfl) a6 a7 a6 rfl) (List.length_set ..)) ?_;refine eA ?_;refine jw ?_;rw [←hn9] at hk;exact K.next ((i_10+1),(l_8.set i_10 (wI ((nth l_8 i_10)+(nth ((nth bidders i_6).Blocks) i_10))))) hk a9 (.c (.c (.c (.c (.c (.c (.c .nil))))))) (List.Sublist.refl _)
      ·have p11:=of_decide_eq_false h11;rw [fY a6,←hkk9] at hk; (try dsimp only at hk);refine q3P ?_;refine kC ?_;rw [←hn5] at hk;exact K.next ((i_6+1),l_8) hk a9 (.c (.c (.c (.c .nil)))) (List.Sublist.refl _)
    ·have p7:=of_decide_eq_false h7;rw [fY a6,←hkk5] at hk; (try dsimp only at hk);refine fi ?_;exact q4R
  ·rintro l_2 hk;rw [←hk3] at hk; (try dsimp only at hk);refine iY ?_;refine ik ?_;obtain rfl:=Option.some.inj hk;exact fk rfl rfl rfl (fun w' hw=>⟨v17,trivial,rfl,dz (hw.pick (idx:=[0,1]) rfl a7) hS0 (Frz.Le.refl _)⟩)
def zeZ (l:List GProduct)(blocks:List Int):Option Bool:=
 (zcN l).bind fun r6=>
 some (r6&&(zdh l blocks))
theorem zhd (F0:Frz)(w:World)(hF0:F0.At w)(l:List GProduct)(vl:Value)(hl:SlC F0 vl 5 (l.map dh))(blocks:List Int)(vblocks:Value)(hblocks:SlC F0 vblocks 1 (blocks.map eI))(r:Bool)(hr:zeZ l blocks=some r):Calls Tryz.prog 241 #[vl,vblocks] w fun e w'=>e= .returned (.bool r)∧Below w.heap.size w w':=by
 have hk:=hr;unfold zeZ at hk;haveI:=hl.oneC;haveI:=hblocks.oneC;obtain ⟨S0,F1,rfl,hS0,hp0⟩:=eH hF0;refine dT Tryz.func241 rfl rfl rfl hp0 ?_;refine ft ?_;have hq:=dC hk;clear hk;obtain ⟨r6,hr6,hk⟩:=hq; (try dsimp only at hk);refine dk (ι:=Unit) (fun z=>[(4, .bool (r6&&(zdh l blocks)))]) (fun z=>[.fr F1]) (fun z=>True) ?_ ?_
 ·refine eF ?_;refine de (dj rfl rfl rfl (fun w hw=>zdO _ w (hw.fr (i:=0) rfl) l vl hl r6 hr6)) ?_;refine eA ?_;refine dH ?_;refine dp rfl rfl rfl (fun h1=>?_) (fun h1=>?_)
  ·refine ep ?_;refine de (dj rfl rfl rfl (fun w hw=>zgh _ w (hw.fr (i:=0) rfl) l vl hl blocks vblocks hblocks)) ?_;refine jH ?_;exact q4M
  ·refine kw ?_;exact q4N
 ·refine mv ?_;obtain rfl:=Option.some.inj hk;exact eB
def zeW (l:List GProduct)(blocks:List Int):Option (Int×Int):=
 (zeZ l blocks).bind fun r8=>
 (bif !r8 then
 some (0,2)
 else
 (zef l blocks).bind fun r12=>
 some (r12,0))
theorem zhb (F0:Frz)(w:World)(hF0:F0.At w)(l:List GProduct)(vl:Value)(hl:SlC F0 vl 5 (l.map dh))(blocks:List Int)(vblocks:Value)(hblocks:SlC F0 vblocks 1 (blocks.map eI))(r:Int×Int)(hr:zeW l blocks=some r):Calls Tryz.prog 209 #[vl,vblocks] w fun e w'=>e= .returned (.tuple #[.int .i64 r.1, .int .i64 r.2])∧Below w.heap.size w w':=by
 have hk:=hr;unfold zeW at hk;haveI:=hl.oneC;haveI:=hblocks.oneC;obtain ⟨S0,F1,rfl,hS0,hp0⟩:=eH hF0;refine dT Tryz.func209 rfl rfl rfl hp0 ?_;refine gS ?_;refine jv ?_;have hq:=dC hk;clear hk;obtain ⟨r8,hr8,hk⟩:=hq; (try dsimp only at hk);refine eZ ?_;refine de (dj rfl rfl rfl (fun w hw=>zhd _ w (hw.fr (i:=0) rfl) l vl hl blocks vblocks hblocks r8 hr8)) ?_;refine lL ?_;refine T.cond rfl (fun h1=>?_) (fun h1=>?_)
 ·replace hk:=dt hk h1;refine kn ?_;obtain rfl:=Option.some.inj hk;exact lK
 ·replace hk:=dw hk h1;refine fV ?_;have hq:=dC hk;clear hk;obtain ⟨r12,hr12,hk⟩:=hq; (try dsimp only at hk);refine eZ ?_;refine de (dj rfl rfl rfl (fun w hw=>zfR _ w (hw.fr (i:=0) rfl) l vl hl blocks vblocks hblocks r12 hr12)) ?_;refine jt ?_;refine ik ?_;obtain rfl:=Option.some.inj hk;exact lK
def zdS (l:List GProduct)(b:GBidder):Option (Gholder×Bool):=
 (zbq l [b]).bind fun r11=>
 (bif !r11 then
 some ((Gholder.mk (GBidder.mk 0 0 0 []) 0),false)
 else
 (zeW l b.Blocks).bind fun r18=>
 some ((Gholder.mk (GBidder.mk b.ID b.Eligibility b.Waivers b.Blocks) r18.1),decide (r18.2=0)))
theorem zfu (F0:Frz)(w:World)(hF0:F0.At w)(l:List GProduct)(vl:Value)(hl:SlC F0 vl 5 (l.map dh))(b:GBidder)(vb_3:Value)(hb_3:SlC F0 vb_3 1 (b.Blocks.map eI))(r:Gholder×Bool)(hr:zdS l b=some r):Calls Tryz.prog 151 #[vl, .agg [.int .i64 b.ID, .int .i64 b.Eligibility, .int .i64 b.Waivers,vb_3].toArray] w fun e w'=>∃(y:Value) (G:Frz),(SlC G y 1 (r.1.Bidder.Blocks.map eI))∧e= .returned (.tuple #[.agg [.int .i64 r.1.Bidder.ID, .int .i64 r.1.Bidder.Eligibility, .int .i64 r.1.Bidder.Waivers,y, .int .i64 r.1.units].toArray, .bool r.2])∧Fx F0 w G w':=by
 have hk:=hr;unfold zdS at hk;haveI:=hl.oneC;haveI:=hb_3.oneC;obtain ⟨S0,F1,rfl,hS0,hp0⟩:=eH hF0;refine dT Tryz.func151 rfl rfl rfl hp0 ?_;refine gY ?_;rintro _ _ ⟨g3,rfl,rfl⟩;refine fJ ?_;rintro _ _ ⟨g4,rfl,rfl⟩;refine jr ?_;have hq:=dC hk;clear hk;obtain ⟨r11,hr11,hk⟩:=hq; (try dsimp only at hk);refine eF ?_;refine lf ?_;refine iA ?_;rintro _ _ ⟨g10,rfl,rfl⟩;have hl10:OwnD cZ F1.toFrz 4 [[.int .i64 b.ID, .int .i64 b.Eligibility, .int .i64 b.Waivers,vb_3]] [b]:=(eS (OwnD.nil _ _ 4) ⟨_,rfl,hb_3⟩);refine im (fun w hw=>hw.freezeR (i:=3) (j:=0) a7 rfl rfl) ?_;rintro F2 ⟨le1_2,hz2⟩;refine fQ ?_;have hf2:SlD cZ F2.toFrz (.slice (some ⟨g10,0,none⟩) 1 1) 4 [[.int .i64 b.ID, .int .i64 b.Eligibility, .int .i64 b.Waivers,vb_3]] [b]:=(SlK.lit hz2 rfl (Nat.le_refl _) a7).toD (OwnD.mono (rep:=cZ) (fun _ _ _ _=>GBidder.mono) hl10 le1_2) rfl;refine de (dj rfl rfl rfl (fun w hw=>zcy _ w (hw.fr (i:=2) rfl) l vl (SlC.mono hl le1_2) [b] (.slice (some ⟨g10,0,none⟩) 1 1) [[.int .i64 b.ID, .int .i64 b.Eligibility, .int .i64 b.Waivers,vb_3]] hf2 r11 hr11)) ?_;refine lL ?_;refine T.cond rfl (fun h1=>?_) (fun h1=>?_)
 ·replace hk:=dt hk h1;refine kJ ?_;refine ga ?_;refine iV ?_;obtain rfl:=Option.some.inj hk;exact gg 0 rfl rfl rfl rfl rfl (fun w' hw=>⟨(.slice none 0 0),F2.toFrz,(SlC.nil _ 1),rfl,dP hw (i:=2) rfl hS0 le1_2⟩)
 ·replace hk:=dw hk h1;refine fV ?_;have hq:=dC hk;clear hk;obtain ⟨r18,hr18,hk⟩:=hq; (try dsimp only at hk);refine eF ?_;refine kV ?_;refine de (dj rfl rfl rfl (fun w hw=>zhb _ w (hw.fr (i:=2) rfl) l vl (SlC.mono hl le1_2) b.Blocks vb_3 (SlC.mono hb_3 le1_2) r18 hr18)) ?_;refine eA ?_;refine i9 ?_;refine eP ?_;refine lf ?_;refine dH ?_;refine jj ?_;refine ep ?_;refine ga ?_;refine gW ?_;obtain rfl:=Option.some.inj hk;exact gg 0 rfl rfl rfl rfl rfl (fun w' hw=>⟨vb_3,F2.toFrz,(SlC.mono hb_3 le1_2),rfl,dP hw (i:=2) rfl hS0 le1_2⟩)
def lQ (n:Int)(low:Int)(high:Int):Bool:=
 ((decide (low≤n))&&(decide (n≤high)))
theorem zcK (F0:Frz)(w:World)(hF0:F0.At w)(n:Int)(low:Int)(high:Int):Calls Tryz.prog 152 #[.int .i64 n, .int .i64 low, .int .i64 high] w fun e w'=>e= .returned (.bool (lQ n low high))∧Below w.heap.size w w':=by
 obtain ⟨r,hk⟩:∃r,lQ n low high=r:=⟨_,rfl⟩;rw [hk];unfold lQ at hk;obtain ⟨S0,F1,rfl,hS0,hp0⟩:=eH hF0;refine dT Tryz.func152 rfl rfl rfl hp0 ?_;refine ft ?_;refine dk (ι:=Unit) (fun z=>[(6, .bool ((decide (low≤n))&&(decide (n≤high))))]) (fun z=>[.fr F1]) (fun z=>True) ?_ ?_
 ·refine lC ?_;refine dp rfl rfl rfl (fun h1=>?_) (fun h1=>?_)
  ·have p1:=of_decide_eq_true h1;refine kw ?_;exact q4M
  ·have p1:=of_decide_eq_false h1;refine kw ?_;exact q4N
 ·refine mv ?_;subst hk;exact eB
def zbT (h_:Gholder)(l:List GProduct)(product:Int):Option Int:=
 dB (0≤product∧product<(l.length:Int)) <|
 dB (0≤product∧product<(h_.Bidder.Blocks.length:Int)) <|
 dB (0≤wI (h_.Bidder.Eligibility - h_.units)∧wI (h_.Bidder.Eligibility - h_.units)≤9223372036854775807∧1≤(nth l product.toNat).Units) <|
 some (min (wI (((nth l product.toNat).Supply) - (nth h_.Bidder.Blocks product.toNat))) ((wI (h_.Bidder.Eligibility - h_.units)) / ((nth l product.toNat).Units)))
theorem zdV (F0:Frz)(w:World)(hF0:F0.At w)(h_:Gholder)(vh__3:Value)(hh__3:SlC F0 vh__3 1 (h_.Bidder.Blocks.map eI))(l:List GProduct)(vl:Value)(hl:SlC F0 vl 5 (l.map dh))(product:Int)(r:Int)(hr:zbT h_ l product=some r):Calls Tryz.prog 153 #[.agg [.int .i64 h_.Bidder.ID, .int .i64 h_.Bidder.Eligibility, .int .i64 h_.Bidder.Waivers,vh__3, .int .i64 h_.units].toArray,vl, .int .i64 product] w fun e w'=>e= .returned (.int .i64 r)∧Below w.heap.size w w':=by
 have hk:=hr;unfold zbT at hk;haveI:=hh__3.oneC;haveI:=hl.oneC;obtain ⟨S0,F1,rfl,hS0,hp0⟩:=eH hF0;refine dT Tryz.func153 rfl rfl rfl hp0 ?_;refine gY ?_;rintro _ _ ⟨g3,rfl,rfl⟩;refine gj ?_;have hq:(0≤product∧product<(l.length:Int))∧_:=dJ hk;clear hk;obtain ⟨g10,hk⟩:=hq; (try dsimp only at hk);refine eZ ?_;refine cY (dA (i:=product.toNat) rfl rfl rfl hl (List.length_map _) a6 a6) ?_;refine cY (iW 1 (i:=product.toNat) rfl rfl rfl hl a6) ?_;refine fJ ?_;rintro _ _ ⟨g7,rfl,rfl⟩;refine ga ?_;refine fv ?_;have hq:(0≤product∧product<(h_.Bidder.Blocks.length:Int))∧_:=dJ hk;clear hk;obtain ⟨g18,hk⟩:=hq;have hq:(0≤wI (h_.Bidder.Eligibility - h_.units)∧wI (h_.Bidder.Eligibility - h_.units)≤9223372036854775807∧1≤(nth l product.toNat).Units)∧_:=dJ hk;clear hk;obtain ⟨g29,hk⟩:=hq; (try dsimp only at hk);refine ef (sN 0 19 (.still 19 .done)) _ a8 (List.Sublist.refl _) ?_;refine ip ?_;refine jD ?_;refine kG ?_;refine gB ?_;refine dc rfl (dA (i:=product.toNat) rfl rfl rfl hh__3 (List.length_map _) a6 a6) ?_;refine dc rfl (dR 2 (i:=product.toNat) (j:=0) rfl rfl rfl hh__3 a6) ?_;refine dc rfl (dq (v:= .int .i64 (wI (((nth l product.toNat).Supply) - (nth h_.Bidder.Blocks product.toNat))))) ?_;refine jD ?_;refine kG ?_;refine kG ?_;refine dc rfl (dq (v:= .int .i64 (wI (h_.Bidder.Eligibility - h_.units)))) ?_;refine ip ?_;refine dc rfl (gu (a:=wI (h_.Bidder.Eligibility - h_.units)) (b:=(nth l product.toNat).Units) rfl rfl rfl g29) ?_;refine dc rfl (Yv.min2 rfl rfl rfl) ?_;refine q4l ?_;obtain rfl:=Option.some.inj hk;exact eB
def zeI (l:List GProduct)(total:List Int):Option (List Int×Int):=
 (zcN l).bind fun r10=>
 (bif ((!r10)||(decide (¬(total.length:Int)=(l.length:Int)))) then
 some ([],2)
 else
 dB (dK l.length 8) <|
 dO (fun (l_3:List Int)=>
 some (l_3,0))
 (fun k4=>
 dN (fun (i_7:Nat) (next6:List Int→Option (List Int×Int)) (l_5:List Int)=>
 (bif ((decide ((nth total i_7)<0))||(decide (384<(nth total i_7)))) then
 some ([],2)
 else
 dB (0≤(i_7:Int)∧(i_7:Int)<(l_5.length:Int)) <|
 next6 (l_5.set i_7 (max (wI ((nth total i_7) - ((nth l i_7).Supply))) 0))))
 (fun (l_5:List Int)=>
 k4 l_5) (total.length - 0) 0 (List.replicate l.length (0:Int))))
theorem zg6 (F0:Frz)(w:World)(hF0:F0.At w)(l:List GProduct)(vl:Value)(hl:SlC F0 vl 5 (l.map dh))(total:List Int)(vtotal:Value)(htotal:SlC F0 vtotal 1 (total.map eI))(r:List Int×Int)(hr:zeI l total=some r):Calls Tryz.prog 114 #[vl,vtotal] w fun e w'=>∃(y:Value) (G:Frz),(SlC G y 1 (r.1.map eI))∧e= .returned (.tuple #[y, .int .i64 r.2])∧Fx F0 w G w':=by
 have hk:=hr;unfold zeI at hk;haveI:=hl.oneC;haveI:=htotal.oneC;obtain ⟨S0,F1,rfl,hS0,hp0⟩:=eH hF0;refine dT Tryz.func114 rfl rfl rfl hp0 ?_;refine gS ?_;refine jv ?_;have hq:=dC hk;clear hk;obtain ⟨r10,hr10,hk⟩:=hq; (try dsimp only at hk);refine dk (ι:=Unit) (fun z=>[(0,vl),(1,vtotal),(18, .bool ((!r10)||(decide (¬(total.length:Int)=(l.length:Int)))))]) (fun z=>[.fr F1]) (fun z=>True) ?_ ?_
 ·refine eF ?_;refine de (dj rfl rfl rfl (fun w hw=>zdO _ w (hw.fr (i:=0) rfl) l vl hl r10 hr10)) ?_;refine jt ?_;refine dp rfl rfl rfl (fun h1=>?_) (fun h1=>?_)
  ·refine TL.run 6 rfl ?_;refine fM ?_;exact dg () trivial (.c (.c (.b (fO h1).symm .nil))) (List.Sublist.refl _)
  ·refine dH ?_;refine cY (dE rfl rfl htotal (List.length_map _)) ?_;have hm14:total.length≤9223372036854775807:=(List.length_map _)▸htotal.max;refine dH ?_;refine q23 ?_;have hm16:l.length≤9223372036854775807:=(List.length_map _)▸hl.max;refine jh ?_;exact dg () trivial (.c (.c (.b (gE h1) .nil))) (List.Sublist.refl _)
 ·rintro _ _;have hm14:total.length≤9223372036854775807:=(List.length_map _)▸htotal.max;have hm16:l.length≤9223372036854775807:=(List.length_map _)▸hl.max;refine T.cond rfl (fun h2=>?_) (fun h2=>?_)
  ·replace hk:=dt hk h2;refine kn ?_;obtain rfl:=Option.some.inj hk;exact q5g
  ·have p2:=h2; (try simp only [iy] at p2);replace hk:=dw hk h2;refine fV ?_;have hq:(dK l.length 8)∧_:=dJ hk;clear hk;obtain ⟨g21,hk⟩:=hq; (try dsimp only at hk);refine eF ?_;refine q23 ?_;refine de (gm (n':=l.length) (enc:=eI) (u:=(0:Int)) rfl rfl rfl rfl g21 a7 a7 (fun _=>rfl) rfl) ?_;rintro v21 _ ⟨hv21,rfl⟩;refine kD ?_;intro iv21 hmv21;refine jb ?_;refine cY (dE rfl rfl htotal (List.length_map _)) ?_;refine ez ?_;have hq:=ek hk;clear hk;obtain ⟨k4,hk4,hk⟩:=hq; (try dsimp only at hk);refine dk (ι:=List Int) (fun z=>[(6,v21)]) (fun z=>[.sl v21 3 1 z.length (z.flatMap eI), .fr F1]) (fun z=>k4 z=some r) ?_ ?_
   ·have hq:=fX hk;clear hk;obtain ⟨f6,kk6,hf6,hkk6,hk⟩:=hq;refine ff ?_;refine T.loop (ι:=Nat×List Int) (fun z=>[(0,vl),(6,v21),(22,vtotal),(23, .int .i64 (total.length:Int)),(24, .int .i64 (z.1:Int))]) (fun z=>[.sl v21 3 1 z.2.length (z.2.flatMap eI), .fr F1]) (fun z=>dN f6 kk6 (total.length - z.1) z.1 z.2=some r) (fun z=>total.length - z.1) (0,(List.replicate l.length (0:Int))) ?_ ?_ ?_ ?_
    ·exact hk
    ·exact jW
    ·exact fa
    ·rintro ⟨i_7,l_5⟩ hk; (try dsimp only at *);refine ft ?_;refine T.cond rfl (fun h8=>?_) (fun h8=>?_)
     ·have p8:=of_decide_eq_true h8;rw [fW a6] at hk;generalize hn6:dN f6 kk6 (total.length - (i_7+1)) (i_7+1)=next6 at hk;rw [←hf6] at hk; (try dsimp only at hk);refine kp ?_;refine cY (dA (i:=i_7) rfl rfl rfl htotal (List.length_map _) rfl a6) ?_;refine cY (dR 1 (i:=i_7) (j:=0) rfl rfl rfl htotal a6) ?_;refine ep ?_;refine jv ?_;refine dk (ι:=Unit) (fun z=>[(0,vl),(6,v21),(7, .int .i64 (i_7:Int)),(8, .int .i64 (nth total i_7)),(22,vtotal),(23, .int .i64 (total.length:Int)),(24, .int .i64 (i_7:Int)),(34, .bool ((decide ((nth total i_7)<0))||(decide (384<(nth total i_7)))))]) (fun z=>[.sl v21 3 1 l_5.length (l_5.flatMap eI), .fr F1]) (fun z=>True) ?_ ?_
      ·refine gR ?_;refine dp rfl rfl rfl (fun h9=>?_) (fun h9=>?_)
       ·have p9:=of_decide_eq_true h9;refine iU ?_;exact dg () trivial (.c (.c (.c (.c (.c (.c (.c (.b (fO h9).symm .nil)))))))) (List.Sublist.refl _)
       ·have p9:=of_decide_eq_false h9;refine iU ?_;exact dg () trivial (.c (.c (.c (.c (.c (.c (.c (.b (gE h9) .nil)))))))) (List.Sublist.refl _)
      ·rintro _ _;refine T.cond rfl (fun h10=>?_) (fun h10=>?_)
       ·replace hk:=dt hk h10;refine gS ?_;refine mB ?_;obtain rfl:=Option.some.inj hk;exact fk rfl rfl rfl (fun w' hw=>⟨(.slice none 0 0),F1.toFrz,(SlC.nil _ 1),rfl,dP hw (i:=1) rfl hS0 (Frz.Le.refl _)⟩)
       ·have p10:=h10; (try simp only [iy] at p10);replace hk:=dw hk h10;refine T.skip (K.seq ?_);have hq:(0≤(i_7:Int)∧(i_7:Int)<(l_5.length:Int))∧_:=dJ hk;clear hk;obtain ⟨g45,hk⟩:=hq; (try dsimp only at hk);refine fu ?_;refine i9 ?_;refine cY (dA (i:=i_7) rfl rfl rfl hl (List.length_map _) rfl a6) ?_;refine cY (gD rfl rfl hl (List.length_map _) a6) ?_;refine cY (dR 1 (i:=i_7) (j:=2) rfl rfl rfl hl a6) ?_;refine cY (dq (v:= .int .i64 (wI ((nth total i_7) - ((nth l i_7).Supply))))) ?_;refine cY (Yv.max2 rfl rfl rfl) ?_;refine cY (dW 0 (i:=i_7) rfl rfl rfl rfl rfl a6) ?_;refine dU (eU 0 (k':=(l_5.set i_7 (max (wI ((nth total i_7) - ((nth l i_7).Supply))) 0)).length) (l':=(l_5.set i_7 (max (wI ((nth total i_7) - ((nth l i_7).Supply))) 0)).flatMap eI) rfl rfl rfl rfl a6 (iF (enc:=eI) (xs:=l_5) (i:=i_7) (j:=0) (size:=1) (fun _=>rfl) a6 a7 a6) (iE (enc:=eI) (xs:=l_5) (i:=i_7) (j:=0) (size:=1) (x:=(max (wI ((nth total i_7) - ((nth l i_7).Supply))) 0)) (fun _=>rfl) a6 a7 a6 rfl) (List.length_set ..)) ?_;refine eA ?_;refine jw ?_;rw [←hn6] at hk;exact K.next ((i_7+1),(l_5.set i_7 (max (wI ((nth total i_7) - ((nth l i_7).Supply))) 0))) hk a9 (.c (.c (.c (.c (.c .nil))))) (List.Sublist.refl _)
     ·have p8:=of_decide_eq_false h8;rw [fY a6,←hkk6] at hk; (try dsimp only at hk);refine fi ?_;exact dg l_5 hk (.c .nil) (List.Sublist.refl _)
   ·rintro l_3 hk;rw [←hk4] at hk; (try dsimp only at hk);refine iY ?_;refine q2T ?_;rintro F2 ⟨le1_2,hz2⟩;refine fQ ?_;have hfF2:=hz2.toF rfl (fun _=>rfl);haveI:=hfF2.oneC;obtain rfl:=Option.some.inj hk;exact fk rfl rfl rfl (fun w' hw=>⟨v21,F2.toFrz,hfF2,rfl,dP hw (i:=0) rfl hS0 le1_2⟩)
def zdC (eligibility:Int)(percent:Int):Option (Int×Int):=
 (bif ((!(lQ eligibility 0 76800000))||(!(lQ percent 1 100))) then
 some (0,2)
 else
 dB (0≤wI ((wI (eligibility*percent))+99)∧wI ((wI (eligibility*percent))+99)≤9223372036854775807∧1≤(100:Int)) <|
 some (((wI ((wI (eligibility*percent))+99)) / 100),0))
theorem zfW (F0:Frz)(w:World)(hF0:F0.At w)(eligibility:Int)(percent:Int)(r:Int×Int)(hr:zdC eligibility percent=some r):Calls Tryz.prog 240 #[.int .i64 eligibility, .int .i64 percent] w fun e w'=>e= .returned (.tuple #[.int .i64 r.1, .int .i64 r.2])∧Below w.heap.size w w':=by
 have hk:=hr;unfold zdC at hk;obtain ⟨S0,F1,rfl,hS0,hp0⟩:=eH hF0;refine dT Tryz.func240 rfl rfl rfl hp0 ?_;refine gS ?_;refine jv ?_;refine dk (ι:=Unit) (fun z=>[(0, .int .i64 eligibility),(1, .int .i64 percent),(13, .bool ((!(lQ eligibility 0 76800000))||(!(lQ percent 1 100))))]) (fun z=>[.fr F1]) (fun z=>True) ?_ ?_
 ·refine eF ?_;refine de (dj rfl rfl rfl (fun w hw=>zcK _ w (hw.fr (i:=0) rfl) eligibility 0 76800000)) ?_;refine jt ?_;refine dp rfl rfl rfl (fun h1=>?_) (fun h1=>?_)
  ·refine iK ?_;exact dg () trivial (.c (.c (.b (fO h1).symm .nil))) (List.Sublist.refl _)
  ·refine dH ?_;refine de (dj rfl rfl rfl (fun w hw=>zcK _ w (hw.fr (i:=0) rfl) percent 1 100)) ?_;refine jH ?_;exact dg () trivial (.c (.c (.b (gE h1) .nil))) (List.Sublist.refl _)
 ·rintro _ _;refine T.cond rfl (fun h2=>?_) (fun h2=>?_)
  ·replace hk:=dt hk h2;refine kn ?_;obtain rfl:=Option.some.inj hk;exact lK
  ·replace hk:=dw hk h2;refine fV ?_;have hq:(0≤wI ((wI (eligibility*percent))+99)∧wI ((wI (eligibility*percent))+99)≤9223372036854775807∧1≤(100:Int))∧_:=dJ hk;clear hk;obtain ⟨g18,hk⟩:=hq; (try dsimp only at hk);refine lC ?_;refine cY (gu rfl rfl rfl g18) ?_;refine kW ?_;obtain rfl:=Option.some.inj hk;exact lK
def zeC (eligibility:Int)(waivers:Int)(activity:Int)(percent:Int):Option (Int×Int×Int):=
 (zdC eligibility percent).bind fun r16=>
 (bif (((decide (¬r16.2=0))||(!(lQ waivers 0 3)))||(!(lQ activity 0 eligibility))) then
 some (0,0,2)
 else
 (bif decide (r16.1≤activity) then
 some (eligibility,waivers,0)
 else
 (bif decide (0<waivers) then
 some (eligibility,wI (waivers - 1),0)
 else
 dB (0≤wI (activity*100)∧wI (activity*100)≤9223372036854775807∧1≤percent) <|
 some (((wI (activity*100)) / percent),0,0))))
theorem zgZ (F0:Frz)(w:World)(hF0:F0.At w)(eligibility:Int)(waivers:Int)(activity:Int)(percent:Int)(r:Int×Int×Int)(hr:zeC eligibility waivers activity percent=some r):Calls Tryz.prog 208 #[.int .i64 eligibility, .int .i64 waivers, .int .i64 activity, .int .i64 percent] w fun e w'=>e= .returned (.tuple #[.int .i64 r.1, .int .i64 r.2.1, .int .i64 r.2.2])∧Below w.heap.size w w':=by
 have hk:=hr;unfold zeC at hk;obtain ⟨S0,F1,rfl,hS0,hp0⟩:=eH hF0;refine dT Tryz.func208 rfl rfl rfl hp0 ?_;refine iY ?_;refine fv ?_;have hq:=dC hk;clear hk;obtain ⟨r16,hr16,hk⟩:=hq; (try dsimp only at hk);refine eZ ?_;refine de (dj rfl rfl rfl (fun w hw=>zfW _ w (hw.fr (i:=0) rfl) eligibility percent r16 hr16)) ?_;refine eA ?_;refine i9 ?_;refine jv ?_;refine dk (ι:=Unit) (fun z=>[(0, .int .i64 eligibility),(1, .int .i64 waivers),(2, .int .i64 activity),(3, .int .i64 percent),(11, .int .i64 r16.1),(31, .bool (((decide (¬r16.2=0))||(!(lQ waivers 0 3)))||(!(lQ activity 0 eligibility))))]) (fun z=>[.fr F1]) (fun z=>True) ?_ ?_
 ·refine gR ?_;refine dp rfl rfl rfl (fun h1=>?_) (fun h1=>?_)
  ·have p1:=of_decide_eq_true h1;refine q3T ?_;exact dg () trivial (.c (.c (.c (.c (.c (.b (fO (fO h1)).symm .nil)))))) (List.Sublist.refl _)
  ·have p1:=of_decide_eq_false h1;refine dH ?_;refine de (dj rfl rfl rfl (fun w hw=>zcK _ w (hw.fr (i:=0) rfl) waivers 0 3)) ?_;refine eA ?_;refine fU ?_;refine dp rfl rfl rfl (fun h2=>?_) (fun h2=>?_)
   ·refine kw ?_;exact dg () trivial (.c (.c (.c (.c (.c (.b (fO (gH h1 h2)).symm .nil)))))) (List.Sublist.refl _)
   ·refine ep ?_;refine de (dj rfl rfl rfl (fun w hw=>zcK _ w (hw.fr (i:=0) rfl) activity 0 eligibility)) ?_;refine jH ?_;exact dg () trivial (.c (.c (.c (.c (.c (.b (gE (gH h1 h2)) .nil)))))) (List.Sublist.refl _)
 ·rintro _ _;refine T.cond rfl (fun h3=>?_) (fun h3=>?_)
  ·replace hk:=dt hk h3;refine iY ?_;refine jF ?_;obtain rfl:=Option.some.inj hk;exact kI
  ·have p3:=h3; (try simp only [iy] at p3);replace hk:=dw hk h3;refine jc ?_;refine iv ?_;refine dX ?_;refine T.cond rfl (fun h4=>?_) (fun h4=>?_)
   ·have p4:=of_decide_eq_true h4;replace hk:=dt hk h4;refine ee ?_;refine i9 ?_;refine q4j ?_;obtain rfl:=Option.some.inj hk;exact kI
   ·have p4:=of_decide_eq_false h4;replace hk:=dw hk h4;refine iY ?_;refine dX ?_;refine T.cond rfl (fun h5=>?_) (fun h5=>?_)
    ·have p5:=of_decide_eq_true h5;replace hk:=dt hk h5;refine ee ?_;refine TL.run 6 rfl ?_;refine q4j ?_;obtain rfl:=Option.some.inj hk;exact kI
    ·have p5:=of_decide_eq_false h5;replace hk:=dw hk h5;refine T.skip (fL (K.seq (T.seq ?_)));have hq:(0≤wI (activity*100)∧wI (activity*100)≤9223372036854775807∧1≤percent)∧_:=dJ hk;clear hk;obtain ⟨g47,hk⟩:=hq; (try dsimp only at hk);refine gR ?_;refine cY (gu rfl rfl rfl g47) ?_;refine fU ?_;refine ik ?_;obtain rfl:=Option.some.inj hk;exact kI
def zed (l:List GProduct)(b:GBidder)(percent:Int):Option (GBidder×Int):=
 (zdS l b).bind fun r16=>
 (bif !r16.2 then
 some ((GBidder.mk 0 0 0 []),2)
 else
 (zeC r16.1.Bidder.Eligibility r16.1.Bidder.Waivers r16.1.units percent).bind fun r32=>
 (bif decide (¬r32.2.2=0) then
 some ((GBidder.mk 0 0 0 []),r32.2.2)
 else
 dB (dK r16.1.Bidder.Blocks.length 8) <|
 some ((GBidder.mk r16.1.Bidder.ID r32.1 r32.2.1 r16.1.Bidder.Blocks),0)))
theorem ze7 (F0:Frz)(w:World)(hF0:F0.At w)(l:List GProduct)(vl:Value)(hl:SlC F0 vl 5 (l.map dh))(b:GBidder)(vb_3:Value)(hb_3:SlC F0 vb_3 1 (b.Blocks.map eI))(percent:Int)(r:GBidder×Int)(hr:zed l b percent=some r):Calls Tryz.prog 150 #[vl, .agg [.int .i64 b.ID, .int .i64 b.Eligibility, .int .i64 b.Waivers,vb_3].toArray, .int .i64 percent] w fun e w'=>∃(y:Value) (G:Frz),(SlC G y 1 (r.1.Blocks.map eI))∧e= .returned (.tuple #[.agg [.int .i64 r.1.ID, .int .i64 r.1.Eligibility, .int .i64 r.1.Waivers,y].toArray, .int .i64 r.2])∧Fx F0 w G w':=by
 have hk:=hr;unfold zed at hk;haveI:=hl.oneC;haveI:=hb_3.oneC;obtain ⟨S0,F1,rfl,hS0,hp0⟩:=eH hF0;refine dT Tryz.func150 rfl rfl rfl hp0 ?_;refine gY ?_;rintro _ _ ⟨g4,rfl,rfl⟩;refine fJ ?_;rintro _ _ ⟨g6,rfl,rfl⟩;refine gj ?_;have hq:=dC hk;clear hk;obtain ⟨r16,hr16,hk⟩:=hq; (try dsimp only at hk);refine eF ?_;refine lf ?_;refine de (dr 2 rfl rfl rfl rfl (fun w hw hF=>zfu _ w hF l vl hl b vb_3 hb_3 r16 hr16)) ?_;rintro _ _ ⟨v16_0_3,F2,le1_2,hf16_0_3,rfl,rfl⟩;haveI:=hf16_0_3.oneC;refine lP ?_;rintro _ _ ⟨g8,rfl,rfl⟩;refine ga ?_;refine kH ?_;refine T.cond rfl (fun h1=>?_) (fun h1=>?_)
 ·replace hk:=dt hk h1;refine kJ ?_;refine kX ?_;refine iV ?_;obtain rfl:=Option.some.inj hk;exact q5h
 ·replace hk:=dw hk h1;refine fV ?_;have hq:=dC hk;clear hk;obtain ⟨r32,hr32,hk⟩:=hq; (try dsimp only at hk);refine q4d ?_;refine gh ?_;refine fK ?_;refine gh ?_;refine kg ?_;refine de (dj rfl rfl rfl (fun w hw=>zgZ _ w (hw.fr (i:=3) rfl) r16.1.Bidder.Eligibility r16.1.Bidder.Waivers r16.1.units percent r32 hr32)) ?_;refine eA ?_;refine TL.run 7 rfl ?_;refine mA ?_;refine T.cond rfl (fun h2=>?_) (fun h2=>?_)
  ·have p2:=of_decide_eq_true h2;replace hk:=dt hk h2;refine kJ ?_;refine dH ?_;refine kX ?_;refine iV ?_;obtain rfl:=Option.some.inj hk;exact q5h
  ·have p2:=of_decide_eq_false h2;replace hk:=dw hk h2;refine fV ?_;have hq:(dK r16.1.Bidder.Blocks.length 8)∧_:=dJ hk;clear hk;obtain ⟨g48,hk⟩:=hq; (try dsimp only at hk);refine ef (sN 0 8 (.eff 8 (.still 9 (.eff 10 (.still 11 .done))))) [.row g8 199 [.int .i64 r16.1.Bidder.ID, .int .i64 r16.1.Bidder.Eligibility, .int .i64 r16.1.Bidder.Waivers,v16_0_3, .int .i64 r16.1.units], .row g4 57 [.int .i64 b.ID, .int .i64 b.Eligibility, .int .i64 b.Waivers,vb_3], .fr F2] a8 Sx ?_;refine jD ?_;refine ip ?_;refine lR ?_;refine ip ?_;refine d7 ?_;refine dl rfl (c9) rfl rfl (dr 3 rfl rfl rfl rfl (fun w hw hF=>zg9 _ w hF r16.1.Bidder.Blocks v16_0_3 hf16_0_3 g48)) ?_;rintro _ _ ⟨v48_,F3,le2_3,hf48,hq,rfl⟩;obtain rfl:=hq.symm;have le1_3:=le1_2.trans le2_3;haveI:=hf48.oneC;refine ⟨(fun w hw=>(hw.frLe (i:=3) rfl le2_3).sub Sx),?_⟩;refine dc rfl (Yv.build rfl rfl) ?_;refine q2u ?_;refine ⟨(fun w hw=>(hw.frLe (i:=3) rfl le2_3).sub Sx),?_⟩;refine q4l ?_;obtain rfl:=Option.some.inj hk;exact gg 1 rfl rfl rfl rfl rfl (fun w' hw=>⟨v48_,F3.toFrz,hf48,rfl,dP hw (i:=3) rfl hS0 le1_3⟩)
def zep (l:List GProduct)(b:GBidder)(product:Int)(change:Int):Option (Int×Int):=
 (zdS l b).bind fun r15=>
 (bif ((!r15.2)||(!(lQ product 0 (wI ((l.length:Int) - 1))))) then
 some (0,2)
 else
 (bif decide (0<change) then
 (zbT r15.1 l product).bind fun r34=>
 some ((min change r34),0)
 else
 dB (0≤product∧product<(r15.1.Bidder.Blocks.length:Int)) <|
 some ((max change (wI (0 - (nth r15.1.Bidder.Blocks product.toNat)))),0)))
theorem zgD (F0:Frz)(w:World)(hF0:F0.At w)(l:List GProduct)(vl:Value)(hl:SlC F0 vl 5 (l.map dh))(b:GBidder)(vb_3:Value)(hb_3:SlC F0 vb_3 1 (b.Blocks.map eI))(product:Int)(change:Int)(r:Int×Int)(hr:zep l b product change=some r):Calls Tryz.prog 207 #[vl, .agg [.int .i64 b.ID, .int .i64 b.Eligibility, .int .i64 b.Waivers,vb_3].toArray, .int .i64 product, .int .i64 change] w fun e w'=>e= .returned (.tuple #[.int .i64 r.1, .int .i64 r.2])∧Below w.heap.size w w':=by
 have hk:=hr;unfold zep at hk;haveI:=hl.oneC;haveI:=hb_3.oneC;obtain ⟨S0,F1,rfl,hS0,hp0⟩:=eH hF0;refine dT Tryz.func207 rfl rfl rfl hp0 ?_;refine gY ?_;rintro _ _ ⟨g5,rfl,rfl⟩;refine ep ?_;refine fv ?_;have hq:=dC hk;clear hk;obtain ⟨r15,hr15,hk⟩:=hq; (try dsimp only at hk);refine eF ?_;refine jM ?_;refine de (dr 1 rfl rfl rfl rfl (fun w hw hF=>zfu _ w hF l vl hl b vb_3 hb_3 r15 hr15)) ?_;rintro _ _ ⟨v15_0_3,F2,le1_2,hf15_0_3,rfl,rfl⟩;haveI:=hf15_0_3.oneC;refine lP ?_;rintro _ _ ⟨g10,rfl,rfl⟩;refine ga ?_;refine jr ?_;refine dk (ι:=Unit) (fun z=>[(0,vl),(2, .int .i64 product),(3, .int .i64 change),(10, .pointer (some ⟨g10,0,none⟩)),(27, .bool ((!r15.2)||(!(lQ product 0 (wI ((l.length:Int) - 1))))))]) (fun z=>[.row g10 199 [.int .i64 r15.1.Bidder.ID, .int .i64 r15.1.Bidder.Eligibility, .int .i64 r15.1.Bidder.Waivers,v15_0_3, .int .i64 r15.1.units], .row g5 57 [.int .i64 b.ID, .int .i64 b.Eligibility, .int .i64 b.Waivers,vb_3], .fr F2]) (fun z=>True) ?_ ?_
 ·refine gR ?_;refine dp rfl rfl rfl (fun h1=>?_) (fun h1=>?_)
  ·refine q3Y ?_;exact dg () trivial (.c (.c (.c (.c (.b (fO h1).symm .nil))))) (List.Sublist.refl _)
  ·refine ep ?_;refine cY (dE rfl rfl (SlC.mono hl le1_2) (List.length_map _)) ?_;have hm23:l.length≤9223372036854775807:=(List.length_map _)▸(SlC.mono hl le1_2).max;refine iO ?_;refine de (dj rfl rfl rfl (fun w hw=>zcK _ w (hw.fr (i:=2) rfl) product 0 ((l.length:Int) - 1))) ?_;refine jH ?_;exact dg () trivial (.c (.c (.c (.c (.b (Eq.trans (congrArg not (by rw [show wI ((l.length:Int) - 1)=((l.length:Int) - 1) from IntWalk.i64_in _ a6])) (gE h1)) .nil))))) (List.Sublist.refl _)
 ·rintro _ _;refine T.cond rfl (fun h2=>?_) (fun h2=>?_)
  ·replace hk:=dt hk h2;refine kn ?_;obtain rfl:=Option.some.inj hk;exact lK
  ·replace hk:=dw hk h2;refine jQ ?_;refine jG ?_;refine T.cond rfl (fun h3=>?_) (fun h3=>?_)
   ·have p3:=of_decide_eq_true h3;replace hk:=dt hk h3;refine T.seq ?_;have hq:=dC hk;clear hk;obtain ⟨r34,hr34,hk⟩:=hq; (try dsimp only at hk);refine eF ?_;refine jM ?_;refine ep ?_;refine de (dj rfl rfl rfl (fun w hw=>zdV _ w (hw.fr (i:=2) rfl) r15.1 v15_0_3 hf15_0_3 l vl (SlC.mono hl le1_2) product r34 hr34)) ?_;refine eA ?_;refine cY (Yv.min2 rfl rfl rfl) ?_;refine ep ?_;refine jF ?_;obtain rfl:=Option.some.inj hk;exact lK
   ·have p3:=of_decide_eq_false h3;replace hk:=dw hk h3;refine fV ?_;have hq:(0≤product∧product<(r15.1.Bidder.Blocks.length:Int))∧_:=dJ hk;clear hk;obtain ⟨g41,hk⟩:=hq; (try dsimp only at hk);refine eF ?_;refine fK ?_;refine kg ?_;refine cY (dA (i:=product.toNat) rfl rfl rfl hf15_0_3 (List.length_map _) a6 a6) ?_;refine cY (dR 2 (i:=product.toNat) (j:=0) rfl rfl rfl hf15_0_3 a6) ?_;refine q4p ?_;refine cY (Yv.max2 rfl rfl rfl) ?_;refine kW ?_;obtain rfl:=Option.some.inj hk;exact lK
end Go.Proofs.YtmnjbhkcfghebaaGreatDoor
