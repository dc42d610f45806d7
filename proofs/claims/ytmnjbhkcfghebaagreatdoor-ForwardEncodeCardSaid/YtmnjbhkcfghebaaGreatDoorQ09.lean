/- Yc: shortened and put together by squeeze.py. -/
import Derived.Test.YtmnjbhkcfghebaaGreatDoorQ08
set_option maxRecDepth 100000
set_option maxHeartbeats 4000000
set_option linter.unusedVariables false
set_option linter.unusedSectionVars false
set_option linter.unusedSimpArgs false
namespace Go.Proofs.YtmnjbhkcfghebaaGreatDoor
open Go.RowKit
structure Gholder where
 Bidder:GBidder
 units:Int
deriving DecidableEq,Inhabited
def gj (F:Frz)(c:List Value)(x:Gholder):Prop:=∃(v3:Value),c=[.int .i64 x.Bidder.ID, .int .i64 x.Bidder.Eligibility, .int .i64 x.Bidder.Waivers,v3, .int .i64 x.units]∧SlC F v3 1 (x.Bidder.Blocks.map eI)
theorem Gholder.mono {F G:Frz}{c:List Value}{x:Gholder}(hle:F.Le G)(h:gj F c x):gj G c x:=by
 obtain ⟨v3,h0,h4⟩:=h;exact ⟨v3,h0,h4.mono hle⟩
theorem Gholder.len {F:Frz}{c:List Value}{x:Gholder}(h:gj F c x):c.length=5:=by
 obtain ⟨v3,h0,h4⟩:=h;subst h0;rfl
theorem Gholder.one {F:Frz}{c:List Value}{x:Gholder}(h:gj F c x):OneCs c:=by
 obtain ⟨v3,h0,h4⟩:=h;subst h0;haveI:=h4.oneC
 infer_instance
def lT (n:Int)(low:Int)(high:Int):Bool:=
 ((decide (low≤n))&&(decide (n≤high)))
theorem zc1 (F0:Frz)(w:World)(hF0:F0.At w)(n:Int)(low:Int)(high:Int):Calls Tryz.prog 133 #[.int .i64 n, .int .i64 low, .int .i64 high] w fun e w'=>e= .returned (.bool (lT n low high))∧Below w.heap.size w w':=by
 obtain ⟨r,hk⟩:∃r,lT n low high=r:=⟨_,rfl⟩;rw [hk];unfold lT at hk;obtain ⟨S0,F1,rfl,hS0,hp0⟩:=eC hF0;refine dS Tryz.func133 rfl rfl rfl hp0 ?_;refine ff ?_;refine dk (ι:=Unit) (fun z=>[(6, .bool ((decide (low≤n))&&(decide (n≤high))))]) (fun z=>[.fr F1]) (fun z=>True) ?_ ?_
 ·refine lB ?_;refine dm rfl rfl rfl (fun h1=>?_) (fun h1=>?_)
  ·have p1:=of_decide_eq_true h1;refine kK ?_;exact q4J
  ·have p1:=of_decide_eq_false h1;refine kK ?_;exact q4K
 ·refine mB ?_;subst hk;exact eo
def zcs (x_:Int):Bool:=
 (decide (¬x_=x_))
theorem zfm (F0:Frz)(w:World)(hF0:F0.At w)(x_:Int):Calls Tryz.prog 202 #[.int .i64 x_] w fun e w'=>e= .returned (.bool (zcs x_))∧Below w.heap.size w w':=by
 obtain ⟨r,hk⟩:∃r,zcs x_=r:=⟨_,rfl⟩;rw [hk];unfold zcs at hk;obtain ⟨S0,F1,rfl,hS0,hp0⟩:=eC hF0;refine dS Tryz.func202 rfl rfl rfl hp0 ?_;refine jm ?_;refine ks ?_;refine ir ?_;subst hk;exact eo
def ma (x_:Int)(y:Int):Int:=
 (bif (zcs x_) then
 (bif (zcs y) then
 0
 else
 (-1))
 else
 (bif (zcs y) then
 1
 else
 (bif decide (x_<y) then
 (-1)
 else
 (bif decide (y<x_) then
 1
 else
 0))))
theorem zeR (F0:Frz)(w:World)(hF0:F0.At w)(x_:Int)(y:Int):Calls Tryz.prog 136 #[.int .i64 x_, .int .i64 y] w fun e w'=>e= .returned (.int .i64 (ma x_ y))∧Below w.heap.size w w':=by
 obtain ⟨r,hk⟩:∃r,ma x_ y=r:=⟨_,rfl⟩;rw [hk];unfold ma at hk;obtain ⟨S0,F1,rfl,hS0,hp0⟩:=eC hF0;refine dS Tryz.func136 rfl rfl rfl hp0 ?_;refine jm ?_;refine dJ ?_;refine dc (dh rfl rfl rfl (fun w hw=>zfm _ w (hw.fr (i:=0) rfl) x_)) ?_;refine ez ?_;refine iC ?_;refine dJ ?_;refine dc (dh rfl rfl rfl (fun w hw=>zfm _ w (hw.fr (i:=0) rfl) y)) ?_;refine ez ?_;refine lQ ?_;refine d9 ?_;refine T.cond rfl (fun h1=>?_) (fun h1=>?_)
 ·replace hk:=dt hk h1;refine jj ?_;refine d9 ?_;refine T.cond rfl (fun h2=>?_) (fun h2=>?_)
  ·replace hk:=dt hk h2;refine q3N ?_;subst hk;exact eo
  ·replace hk:=dw hk h2;refine iO ?_;refine iI ?_;subst hk;exact eo
 ·replace hk:=dw hk h1;refine jP ?_;refine d9 ?_;refine T.cond rfl (fun h3=>?_) (fun h3=>?_)
  ·replace hk:=dt hk h3;refine il ?_;subst hk;exact eo
  ·replace hk:=dw hk h3;refine jP ?_;refine mH ?_;refine T.cond rfl (fun h4=>?_) (fun h4=>?_)
   ·have p4:=of_decide_eq_true h4;replace hk:=dt hk h4;refine il ?_;subst hk;exact eo
   ·have p4:=of_decide_eq_false h4;replace hk:=dw hk h4;refine jP ?_;refine mH ?_;refine T.cond rfl (fun h5=>?_) (fun h5=>?_)
    ·have p5:=of_decide_eq_true h5;replace hk:=dt hk h5;refine il ?_;subst hk;exact eo
    ·have p5:=of_decide_eq_false h5;replace hk:=dw hk h5;refine iO ?_;refine gJ ?_;subst hk;exact eo
def zdH (vals:List Int):Int:=
 dM (fun (_:Unit)=>
 0)
 (fun k1=>
 dN (fun (i_3:Nat) (next2:Unit→Int) (_:Unit)=>
 (bif decide (¬(nth vals i_3)=0) then
 (nth vals i_3)
 else
 next2 ()))
 (fun (_:Unit)=>
 k1 ()) (vals.length - 0) 0 ())
theorem zgg (F0:Frz)(w:World)(hF0:F0.At w)(vals:List Int)(vvals:Value)(hvals:SlC F0 vvals 1 (vals.map eI)):Calls Tryz.prog 135 #[vvals] w fun e w'=>e= .returned (.int .i64 (zdH vals))∧Below w.heap.size w w':=by
 obtain ⟨r,hk⟩:∃r,zdH vals=r:=⟨_,rfl⟩;rw [hk];unfold zdH at hk;haveI:=hvals.oneC;obtain ⟨S0,F1,rfl,hS0,hp0⟩:=eC hF0;refine dS Tryz.func135 rfl rfl rfl hp0 ?_;refine jm ?_;refine iR ?_;refine cW (dE rfl rfl hvals (List.length_map _)) ?_;have hm7:vals.length≤9223372036854775807:=(List.length_map _)▸hvals.max;refine d9 ?_;have hq:=d7 hk;clear hk;obtain ⟨k1,hk1,hk⟩:=hq; (try dsimp only at hk);refine dk (ι:=Unit) (fun z=>[(3, .int .i64 0)]) (fun z=>[.fr F1]) (fun z=>k1 ()=r) ?_ ?_
 ·have hq:=fP hk;clear hk;obtain ⟨f2,kk2,hf2,hkk2,hk⟩:=hq;refine eW ?_;refine T.loop (ι:=Nat) (fun z=>[(3, .int .i64 0),(6,vvals),(7, .int .i64 (vals.length:Int)),(8, .int .i64 (z:Int))]) (fun z=>[.fr F1]) (fun z=>dN f2 kk2 (vals.length - z) z ()=r) (fun z=>vals.length - z) 0 ?_ ?_ ?_ ?_
  ·exact hk
  ·exact jU
  ·exact eT
  ·rintro i_3 hk;refine ff ?_;refine T.cond rfl (fun h4=>?_) (fun h4=>?_)
   ·have p4:=of_decide_eq_true h4;rw [fN a7] at hk;generalize hn2:dN f2 kk2 (vals.length - (i_3+1)) (i_3+1)=next2 at hk;rw [←hf2] at hk; (try dsimp only at hk);refine iT ?_;refine cW (dq (i:=i_3) rfl rfl rfl hvals (List.length_map _) rfl a7) ?_;refine cW (dP 0 (i:=i_3) (j:=0) rfl rfl rfl hvals a7) ?_;refine iC ?_;refine mH ?_;refine T.cond rfl (fun h5=>?_) (fun h5=>?_)
    ·have p5:=of_decide_eq_true h5;replace hk:=dt hk h5;refine gI ?_;refine kU ?_;subst hk;exact eo
    ·have p5:=of_decide_eq_false h5;replace hk:=dw hk h5;refine mf ?_;rw [←hn2] at hk;exact q4F
   ·have p4:=of_decide_eq_false h4;rw [fO a7,←hkk2] at hk; (try dsimp only at hk);refine fb ?_;exact q4E
 ·rintro _ hk;rw [←hk1] at hk; (try dsimp only at hk);refine lY ?_;subst hk;exact eo
def zcN (a:GProduct)(b:GProduct):Int:=
 (zdH [(ma a.Area b.Area),(ma a.Category b.Category)])
theorem zgo (F0:Frz)(w:World)(hF0:F0.At w)(a:GProduct)(b:GProduct):Calls Tryz.prog 134 #[.agg [.int .i64 a.Area, .int .i64 a.Category, .int .i64 a.Supply, .int .i64 a.Units, .int .i64 a.Reserve].toArray, .agg [.int .i64 b.Area, .int .i64 b.Category, .int .i64 b.Supply, .int .i64 b.Units, .int .i64 b.Reserve].toArray] w fun e w'=>e= .returned (.int .i64 (zcN a b))∧Below w.heap.size w w':=by
 obtain ⟨r,hk⟩:∃r,zcN a b=r:=⟨_,rfl⟩;rw [hk];unfold zcN at hk;obtain ⟨S0,F1,rfl,hS0,hp0⟩:=eC hF0;refine dS Tryz.func134 rfl rfl rfl hp0 ?_;refine gN ?_;rintro _ _ ⟨g2,rfl,rfl⟩;refine ln ?_;rintro _ _ ⟨g3,rfl,rfl⟩;refine fV ?_;refine d5 (sN 0 4 (sN 5 4 (.eff 4 (.eff 9 (.eff 10 (.eff 11 (.still 12 .done))))))) _ a9 (List.Sublist.refl _) ?_;refine kF ?_;refine ia ?_;refine kF ?_;refine ia ?_;refine dZ ?_;refine di rfl (cZ) rfl rfl (dh rfl rfl rfl (fun w hw=>zeR _ w (hw.fr (i:=2) rfl) a.Area b.Area)) ?_;refine jQ ?_;refine dZ ?_;refine di rfl (cZ) rfl rfl (dh rfl rfl rfl (fun w hw=>zeR _ w (hw.fr (i:=2) rfl) a.Category b.Category)) ?_;refine jQ ?_;refine dZ ?_;refine q1i ?_;rintro _ _ ⟨g15,rfl,rfl⟩;refine ij ?_;refine je (fun w hw=>hw.freezeR (i:=3) (j:=0) a8 rfl rfl) ?_;rintro F2 ⟨le1_2,hz2⟩;refine fD ?_;have hfF2:SlC F2.toFrz (.slice (some ⟨g15,0,none⟩) 2 2) 1 ([(ma a.Area b.Area),(ma a.Category b.Category)].map eI):=(SlK.lit hz2 rfl (Nat.le_refl _) a8).toF (xs:=[(ma a.Area b.Area),(ma a.Category b.Category)]) rfl (fun _=>rfl);refine dZ ?_;refine di rfl (cZ) rfl rfl (dh rfl rfl rfl (fun w hw=>zgg _ w (hw.fr (i:=2) rfl) [(ma a.Area b.Area),(ma a.Category b.Category)] (.slice (some ⟨g15,0,none⟩) 2 2) hfF2)) ?_;refine ez ?_;refine q27 ?_;refine q4l ?_;subst hk;exact eo
def zdV (p:GProduct)(xf0_:Vec 64 Int):Option (Bool×Vec 64 Int):=
 (bif (((!(lT p.Area 0 63))||(!(lT p.Category 1 2)))||(!(lT p.Supply 1 12))) then
 some (false,xf0_)
 else
 dz (0≤p.Area∧p.Area<(64:Int)) <|
 some ((((decide ((Vec.get (Vec.put xf0_ p.Area.toNat (wI ((Vec.get xf0_ p.Area.toNat)+p.Supply))) p.Area.toNat)≤12))&&(lT p.Units 1 100000))&&(lT p.Reserve 0 549755813888)),(Vec.put xf0_ p.Area.toNat (wI ((Vec.get xf0_ p.Area.toNat)+p.Supply)))))
theorem zgj (F0:Frz)(w:World)(hF0:F0.At w)(p:GProduct)(xf0_:Vec 64 Int)(gf0_:Nat)(hO:Hp w (dB [.row gf0_ 179 (xf0_.1.map vI)]) [.row gf0_ 179 (xf0_.1.map vI)] w)(hA:∀g,dB [.row gf0_ 179 (xf0_.1.map vI)] g→¬F0.S g)(r:Bool×Vec 64 Int)(hr:zdV p xf0_=some r):Calls Tryz.prog 132 #[.agg [.int .i64 p.Area, .int .i64 p.Category, .int .i64 p.Supply, .int .i64 p.Units, .int .i64 p.Reserve].toArray, .pointer (some ⟨gf0_,0,none⟩)] w fun e w'=>∃(y:Unit),(True)∧e= .returned (.bool r.1)∧FxM F0 w (dB [.row gf0_ 179 (xf0_.1.map vI)]) F0 [.row gf0_ 179 (r.2.1.map vI)] w':=by
 have hk:=hr;unfold zdV at hk;obtain ⟨S0,F1,rfl,hS0,hp0⟩:=fI hF0 hO hA;refine dS (hs:=[.row gf0_ 179 (xf0_.1.map vI), .fr F1]) Tryz.func132 rfl rfl rfl hp0 ?_;refine gN ?_;rintro _ _ ⟨g2,rfl,rfl⟩;refine jp ?_;refine dk (ι:=Unit) (fun z=>[(1, .pointer (some ⟨gf0_,0,none⟩)),(2, .pointer (some ⟨g2,0,none⟩)),(19, .bool (((!(lT p.Area 0 63))||(!(lT p.Category 1 2)))||(!(lT p.Supply 1 12))))]) (fun z=>[.row g2 55 [.int .i64 p.Area, .int .i64 p.Category, .int .i64 p.Supply, .int .i64 p.Units, .int .i64 p.Reserve], .row gf0_ 179 (xf0_.1.map vI), .fr F1]) (fun z=>True) ?_ ?_
 ·refine fg ?_;refine ga ?_;refine dc (dh rfl rfl rfl (fun w hw=>zc1 _ w (hw.fr (i:=2) rfl) p.Area 0 63)) ?_;refine jl ?_;refine dm rfl rfl rfl (fun h1=>?_) (fun h1=>?_)
  ·refine TL.run 11 rfl ?_;refine fH ?_;exact de () trivial (.c (.c (.b (gg (gg h1)).symm .nil))) (List.Sublist.refl _)
  ·refine ga ?_;refine dc (dh rfl rfl rfl (fun w hw=>zc1 _ w (hw.fr (i:=2) rfl) p.Category 1 2)) ?_;refine ez ?_;refine gf ?_;refine dm rfl rfl rfl (fun h2=>?_) (fun h2=>?_)
   ·refine kK ?_;exact de () trivial (.c (.c (.b (gg (iP h1 h2)).symm .nil))) (List.Sublist.refl _)
   ·refine ga ?_;refine dc (dh rfl rfl rfl (fun w hw=>zc1 _ w (hw.fr (i:=2) rfl) p.Supply 1 12)) ?_;refine jV ?_;exact de () trivial (.c (.c (.b (gx (iP h1 h2)) .nil))) (List.Sublist.refl _)
 ·rintro _ _;refine T.cond rfl (fun h3=>?_) (fun h3=>?_)
  ·replace hk:=dt hk h3;refine il ?_;obtain rfl:=Option.some.inj hk;exact q4L
  ·replace hk:=dw hk h3;refine fT ?_;have hq:(0≤p.Area∧p.Area<(64:Int))∧_:=dH hk;clear hk;obtain ⟨g22,hk⟩:=hq; (try dsimp only at hk);refine d5 (sN 0 3 (sN 4 2 (.eff 3 (sN 6 2 (.eff 8 .done))))) [.row g2 55 [.int .i64 p.Area, .int .i64 p.Category, .int .i64 p.Supply, .int .i64 p.Units, .int .i64 p.Reserve], .fr F1] a9 Sx ?_;refine ia ?_;refine c9 rfl (dI (i:=p.Area.toNat) rfl rfl rfl a7 a7) ?_;refine ia ?_;refine dZ ?_;refine dU rfl (cZ) rfl rfl (dK 1 rfl rfl rfl (fE a7 (Vec.cell (i:=p.Area.toNat) a7))) (fun w hw=>hw.sub Sx) ?_;refine c9 rfl (dl (v:= .int .i64 (wI ((Vec.get xf0_ p.Area.toNat)+p.Supply)))) ?_;refine c9 rfl (dI (i:=p.Area.toNat) rfl rfl rfl a7 a7) ?_;refine dZ ?_;refine d6 rfl (cZ) rfl (e6 1 ((Vec.put xf0_ p.Area.toNat (wI ((Vec.get xf0_ p.Area.toNat)+p.Supply))).1.map vI) rfl rfl rfl rfl b5 (iW a7 (Vec.upd (x:=xf0_) (f:=vI) (i:=p.Area.toNat) (v:=wI ((Vec.get xf0_ p.Area.toNat)+p.Supply)) a7))) ?_;refine kE ?_;refine lr ?_;refine dk (ι:=Unit) (fun z=>[(3, .bool (((decide ((Vec.get (Vec.put xf0_ p.Area.toNat (wI ((Vec.get xf0_ p.Area.toNat)+p.Supply))) p.Area.toNat)≤12))&&(lT p.Units 1 100000))&&(lT p.Reserve 0 549755813888)))]) (fun z=>[.row g2 55 [.int .i64 p.Area, .int .i64 p.Category, .int .i64 p.Supply, .int .i64 p.Units, .int .i64 p.Reserve], .row gf0_ 179 ((Vec.put xf0_ p.Area.toNat (wI ((Vec.get xf0_ p.Area.toNat)+p.Supply))).1.map vI), .fr F1]) (fun z=>True) ?_ ?_
   ·refine fg ?_;refine ga ?_;refine cW (dI (i:=p.Area.toNat) rfl rfl rfl a7 a7) ?_;refine cW (dK 1 rfl rfl rfl (fE a7 (Vec.cell (i:=p.Area.toNat) a7))) ?_;refine ee ?_;refine dm rfl rfl rfl (fun h4=>?_) (fun h4=>?_)
    ·have p4:=of_decide_eq_true h4;refine ga ?_;refine dc (dh rfl rfl rfl (fun w hw=>zc1 _ w (hw.fr (i:=2) rfl) p.Units 1 100000)) ?_;refine jl ?_;refine dm rfl rfl rfl (fun h5=>?_) (fun h5=>?_)
     ·refine ga ?_;refine dc (dh rfl rfl rfl (fun w hw=>zc1 _ w (hw.fr (i:=2) rfl) p.Reserve 0 549755813888)) ?_;refine jV ?_;exact de () trivial (.b (jH (lV h4 h5)) .nil) (List.Sublist.refl _)
     ·refine kK ?_;exact de () trivial (.b (hJ (lV h4 h5)).symm .nil) (List.Sublist.refl _)
    ·have p4:=of_decide_eq_false h4;refine q3V ?_;exact de () trivial (.b (hJ (hJ h4)).symm .nil) (List.Sublist.refl _)
   ·refine mB ?_;obtain rfl:=Option.some.inj hk;exact q4L
def za8 (l:List GProduct)(x1c0_:Vec 64 Int):Option (Bool×Vec 64 Int):=
 dM (fun (c_1:Vec 64 Int)=>
 some (true,c_1))
 (fun k2=>
 dN (fun (i_5:Nat) (next4:Vec 64 Int→Option (Bool×Vec 64 Int)) (c_3:Vec 64 Int)=>
 (zdV (nth l i_5) c_3).bind fun r18=>
 (bif ((!r18.1)||((decide (0<(i_5:Int)))&&(decide (0≤(zcN (nth l (((i_5:Int) - 1).toNat)) (nth l i_5)))))) then
 some (false,r18.2)
 else
 next4 r18.2))
 (fun (c_3:Vec 64 Int)=>
 k2 c_3) (l.length - 0) 0 x1c0_)
theorem zcL (F0:Frz)(w:World)(hF0:F0.At w)(l:List GProduct)(vl:Value)(hl:SlC F0 vl 5 (l.map df))(x1c0_:Vec 64 Int)(g1c0_:Nat)(hO:Hp w (dB [.row g1c0_ 179 (x1c0_.1.map vI)]) [.row g1c0_ 179 (x1c0_.1.map vI)] w)(hA:∀g,dB [.row g1c0_ 179 (x1c0_.1.map vI)] g→¬F0.S g)(r:Bool×Vec 64 Int)(hr:za8 l x1c0_=some r):Calls Tryz.prog 131 #[vl, .func (.func 132) #[] #[.pointer (some ⟨g1c0_,0,none⟩)], .func (.func 134) #[] #[]] w fun e w'=>∃(y:Unit),(True)∧e= .returned (.bool r.1)∧FxM F0 w (dB [.row g1c0_ 179 (x1c0_.1.map vI)]) F0 [.row g1c0_ 179 (r.2.1.map vI)] w':=by
 have hk:=hr;unfold za8 at hk;haveI:=hl.oneC;obtain ⟨S0,F1,rfl,hS0,hp0⟩:=fI hF0 hO hA;refine dS (hs:=[.row g1c0_ 179 (x1c0_.1.map vI), .fr F1]) Tryz.func131 rfl rfl rfl hp0 ?_;refine jn ?_;refine q2Y ?_;have hm10:l.length≤9223372036854775807:=(List.length_map _)▸hl.max;refine d9 ?_;have hq:=d7 hk;clear hk;obtain ⟨k2,hk2,hk⟩:=hq; (try dsimp only at hk);refine dk (ι:=Vec 64 Int) (fun z=>[]) (fun z=>[.row g1c0_ 179 (z.1.map vI), .fr F1]) (fun z=>k2 z=some r) ?_ ?_
 ·have hq:=fP hk;clear hk;obtain ⟨f4,kk4,hf4,hkk4,hk⟩:=hq;refine eW ?_;refine T.loop (ι:=Nat×Vec 64 Int) (fun z=>[(0,vl),(1, .func (.func 132) #[] #[.pointer (some ⟨g1c0_,0,none⟩)]),(2, .func (.func 134) #[] #[]),(9,vl),(10, .int .i64 (l.length:Int)),(11, .int .i64 (z.1:Int))]) (fun z=>[.row g1c0_ 179 (z.2.1.map vI), .fr F1]) (fun z=>dN f4 kk4 (l.length - z.1) z.1 z.2=some r) (fun z=>l.length - z.1) (0,x1c0_) ?_ ?_ ?_ ?_
  ·exact hk
  ·exact l6
  ·exact eT
  ·rintro ⟨i_5,c_3⟩ hk; (try dsimp only at *);refine ff ?_;refine T.cond rfl (fun h6=>?_) (fun h6=>?_)
   ·have p6:=of_decide_eq_true h6;rw [fN a7] at hk;generalize hn4:dN f4 kk4 (l.length - (i_5+1)) (i_5+1)=next4 at hk;rw [←hf4] at hk; (try dsimp only at hk);refine kn ?_;refine cW (dq (i:=i_5) rfl rfl rfl hl (List.length_map _) rfl a7) ?_;refine cW (iM 1 (i:=i_5) rfl rfl rfl hl a7) ?_;refine fG ?_;rintro _ _ ⟨g8,rfl,rfl⟩;refine dJ ?_;refine fS ?_;refine ft ?_;have hq:=dC hk;clear hk;obtain ⟨r18,hr18,hk⟩:=hq; (try dsimp only at hk);refine dk (ι:=Unit) (fun z=>[(0,vl),(1, .func (.func 132) #[] #[.pointer (some ⟨g1c0_,0,none⟩)]),(2, .func (.func 134) #[] #[]),(9,vl),(10, .int .i64 (l.length:Int)),(11, .int .i64 (i_5:Int)),(34, .bool ((!r18.1)||((decide (0<(i_5:Int)))&&(decide (0≤(zcN (nth l (((i_5:Int) - 1).toNat)) (nth l i_5)))))))]) (fun z=>[.row g8 55 [.int .i64 ((nth l i_5).Area), .int .i64 ((nth l i_5).Category), .int .i64 ((nth l i_5).Supply), .int .i64 ((nth l i_5).Units), .int .i64 ((nth l i_5).Reserve)], .row g1c0_ 179 (r18.2.1.map vI), .fr F1]) (fun z=>True) ?_ ?_
    ·refine d5 (sN 0 2 (.eff 2 (sN 3 12 (.eff 15 (sN 16 2 (.still 18 .done)))))) [.row g8 55 [.int .i64 ((nth l i_5).Area), .int .i64 ((nth l i_5).Category), .int .i64 ((nth l i_5).Supply), .int .i64 ((nth l i_5).Units), .int .i64 ((nth l i_5).Reserve)], .fr F1] a9 Sx ?_;refine gv ?_;refine q2o ?_;refine dZ ?_;refine di rfl (cZ) rfl rfl (dD [1,2,0] [.row g1c0_ 179 (c_3.1.map vI)] [.row g8 55 [.int .i64 ((nth l i_5).Area), .int .i64 ((nth l i_5).Category), .int .i64 ((nth l i_5).Supply), .int .i64 ((nth l i_5).Units), .int .i64 ((nth l i_5).Reserve)]] rfl rfl rfl rfl a8 (fun w hw hw2 hF=>zgj _ w hF (nth l i_5) c_3 g1c0_ hw2.takes.1 hw2.takes.2 r18 hr18)) ?_;rintro _ _ ⟨⟨⟩, -,rfl,rfl⟩;refine eS ?_;refine q2W ?_;refine fR ?_;refine fh rfl rfl rfl rfl (fun h7=>?_) (fun h7=>?_)
     ·refine TS.run 10 rfl ?_;refine dZ ?_;refine lz rfl (Wt.undef rfl rfl rfl) rfl rfl ?_;refine gG ?_;refine q3j ?_;exact de () trivial (.c (.c (.c (.c (.c (.c (.b (gg h7).symm .nil))))))) (List.Sublist.refl _)
     ·refine gG ?_;refine fh rfl rfl rfl rfl (fun h8=>?_) (fun h8=>?_)
      ·have p8:=of_decide_eq_true h8;refine gG ?_;refine q3T ?_;refine c9 rfl (dq (i:=((i_5:Int) - 1).toNat) rfl rfl rfl hl (List.length_map _) a7 a7) ?_;refine c9 rfl (iM 1 (i:=((i_5:Int) - 1).toNat) rfl rfl rfl hl a7) ?_;refine q2o ?_;refine dZ ?_;refine di rfl (Wt.some) rfl rfl (dh rfl rfl rfl (fun w hw=>zgo _ w (hw.fr (i:=1) rfl) (nth l (((i_5:Int) - 1).toNat)) (nth l i_5))) ?_;refine ez ?_;refine q2W ?_;refine gG ?_;refine q3j ?_;exact de () trivial (.c (.c (.c (.c (.c (.c (.b (Eq.trans (jH h8) (gx h7)) .nil))))))) (List.Sublist.refl _)
      ·have p8:=of_decide_eq_false h8;refine TS.run 7 rfl ?_;refine lL ?_;refine gG ?_;refine q3j ?_;exact de () trivial (.c (.c (.c (.c (.c (.c (.b (iP h7 (hJ h8)).symm .nil))))))) (List.Sublist.refl _)
    ·rintro _ _;refine T.cond rfl (fun h9=>?_) (fun h9=>?_)
     ·replace hk:=dt hk h9;refine gu ?_;refine kU ?_;obtain rfl:=Option.some.inj hk;exact q4L
     ·replace hk:=dw hk h9;refine mf ?_;rw [←hn4] at hk;refine q3R ?_;exact K.next ((i_5+1),r18.2) hk b3 (.c (.c (.c (.c (.c (.c .nil)))))) (List.Sublist.refl _)
   ·have p6:=of_decide_eq_false h6;rw [fO a7,←hkk4] at hk; (try dsimp only at hk);refine fb ?_;exact de c_3 hk .nil (List.Sublist.refl _)
 ·rintro c_1 hk;rw [←hk2] at hk; (try dsimp only at hk);refine kS ?_;obtain rfl:=Option.some.inj hk;exact lZ
def zcM (l:List GProduct):Option Bool:=
 (za8 l (Vec.fill 64 0)).bind fun r6=>
 some r6.1
theorem zdP (F0:Frz)(w:World)(hF0:F0.At w)(l:List GProduct)(vl:Value)(hl:SlC F0 vl 5 (l.map df))(r:Bool)(hr:zcM l=some r):Calls Tryz.prog 51 #[vl] w fun e w'=>e= .returned (.bool r)∧Below w.heap.size w w':=by
 have hk:=hr;unfold zcM at hk;haveI:=hl.oneC;obtain ⟨S0,F1,rfl,hS0,hp0⟩:=eC hF0;refine dS Tryz.func51 rfl rfl rfl hp0 ?_;refine jm ?_;refine dc (kB (l:=((Vec.fill 64 0).1.map vI)) rfl a9) ?_;rintro _ _ ⟨g3,rfl,rfl⟩;refine ft ?_;have hq:=dC hk;clear hk;obtain ⟨r6,hr6,hk⟩:=hq; (try dsimp only at hk);refine fa ?_;refine dc (dD [0,1] [.row g3 179 ((Vec.fill 64 0).1.map vI)] [] rfl rfl rfl rfl a8 (fun w hw hw2 hF=>zcL _ w hF l vl hl (Vec.fill 64 0) g3 hw2.takes.1 hw2.takes.2 r6 hr6)) ?_;rintro _ _ ⟨⟨⟩, -,rfl,rfl⟩;refine eS ?_;refine gJ ?_;obtain rfl:=Option.some.inj hk;exact eo
def zdg (l:List GProduct)(blocks:List Int):Bool:=
 (bif decide (¬(blocks.length:Int)=(l.length:Int)) then
 false
 else
 dM (fun (_:Unit)=>
 true)
 (fun k2=>
 dN (fun (i_4:Nat) (next3:Unit→Bool) (_:Unit)=>
 (bif ((decide ((nth blocks i_4)<0))||(decide ((nth l i_4).Supply<(nth blocks i_4)))) then
 false
 else
 next3 ()))
 (fun (_:Unit)=>
 k2 ()) (blocks.length - 0) 0 ()))
theorem zf4 (F0:Frz)(w:World)(hF0:F0.At w)(l:List GProduct)(vl:Value)(hl:SlC F0 vl 5 (l.map df))(blocks:List Int)(vblocks:Value)(hblocks:SlC F0 vblocks 1 (blocks.map eI)):Calls Tryz.prog 137 #[vl,vblocks] w fun e w'=>e= .returned (.bool (zdg l blocks))∧Below w.heap.size w w':=by
 obtain ⟨r,hk⟩:∃r,zdg l blocks=r:=⟨_,rfl⟩;rw [hk];unfold zdg at hk;haveI:=hl.oneC;haveI:=hblocks.oneC;obtain ⟨S0,F1,rfl,hS0,hp0⟩:=eC hF0;refine dS Tryz.func137 rfl rfl rfl hp0 ?_;refine jn ?_;refine cW (dE rfl rfl hblocks (List.length_map _)) ?_;have hm8:blocks.length≤9223372036854775807:=(List.length_map _)▸hblocks.max;refine dJ ?_;refine q2Y ?_;have hm10:l.length≤9223372036854775807:=(List.length_map _)▸hl.max;refine d9 ?_;refine T.cond rfl (fun h1=>?_) (fun h1=>?_)
 ·have p1:=of_decide_eq_true h1;replace hk:=dt hk h1;refine il ?_;subst hk;exact eo
 ·have p1:=of_decide_eq_false h1;replace hk:=dw hk h1;refine jP ?_;refine dJ ?_;refine cW (dE rfl rfl hblocks (List.length_map _)) ?_;refine d9 ?_;have hq:=d7 hk;clear hk;obtain ⟨k2,hk2,hk⟩:=hq; (try dsimp only at hk);refine dk (ι:=Unit) (fun z=>[]) (fun z=>[.fr F1]) (fun z=>k2 ()=r) ?_ ?_
  ·have hq:=fP hk;clear hk;obtain ⟨f3,kk3,hf3,hkk3,hk⟩:=hq;refine eW ?_;refine T.loop (ι:=Nat) (fun z=>[(0,vl),(12,vblocks),(13, .int .i64 (blocks.length:Int)),(14, .int .i64 (z:Int))]) (fun z=>[.fr F1]) (fun z=>dN f3 kk3 (blocks.length - z) z ()=r) (fun z=>blocks.length - z) 0 ?_ ?_ ?_ ?_
   ·exact hk
   ·exact jU
   ·exact eT
   ·rintro i_4 hk;refine ff ?_;refine T.cond rfl (fun h5=>?_) (fun h5=>?_)
    ·have p5:=of_decide_eq_true h5;rw [fN a7] at hk;generalize hn3:dN f3 kk3 (blocks.length - (i_4+1)) (i_4+1)=next3 at hk;rw [←hf3] at hk; (try dsimp only at hk);refine kn ?_;refine cW (dq (i:=i_4) rfl rfl rfl hblocks (List.length_map _) rfl a7) ?_;refine cW (dP 0 (i:=i_4) (j:=0) rfl rfl rfl hblocks a7) ?_;refine ee ?_;refine ft ?_;refine dk (ι:=Unit) (fun z=>[(0,vl),(12,vblocks),(13, .int .i64 (blocks.length:Int)),(14, .int .i64 (i_4:Int)),(29, .bool ((decide ((nth blocks i_4)<0))||(decide ((nth l i_4).Supply<(nth blocks i_4)))))]) (fun z=>[.fr F1]) (fun z=>True) ?_ ?_
     ·refine gQ ?_;refine dm rfl rfl rfl (fun h6=>?_) (fun h6=>?_)
      ·have p6:=of_decide_eq_true h6;refine TL.run 8 rfl ?_;refine fH ?_;exact de () trivial (.c (.c (.c (.c (.b (gg h6).symm .nil))))) (List.Sublist.refl _)
      ·have p6:=of_decide_eq_false h6;refine gf ?_;refine cW (dq (i:=i_4) rfl rfl rfl hl (List.length_map _) rfl a7) ?_;refine cW (fv rfl rfl hl (List.length_map _) a7) ?_;refine cW (dP 0 (i:=i_4) (j:=2) rfl rfl rfl hl a7) ?_;refine jh ?_;exact de () trivial (.c (.c (.c (.c (.b (gx h6) .nil))))) (List.Sublist.refl _)
     ·rintro _ _;refine T.cond rfl (fun h7=>?_) (fun h7=>?_)
      ·replace hk:=dt hk h7;refine gu ?_;refine kU ?_;subst hk;exact eo
      ·have p7:=h7; (try simp only [iS] at p7);replace hk:=dw hk h7;refine mf ?_;rw [←hn3] at hk;exact K.next (i_4+1) hk a7 (.c (.c (.c (.c .nil)))) (List.Sublist.refl _)
    ·have p5:=of_decide_eq_false h5;rw [fO a7,←hkk3] at hk; (try dsimp only at hk);refine fb ?_;exact lK
  ·rintro _ hk;rw [←hk2] at hk; (try dsimp only at hk);refine kS ?_;subst hk;exact eo
def zd9 (l:List GProduct)(blocks:List Int):Option Int:=
 dM (fun (sum_1:Int)=>
 some sum_1)
 (fun k2=>
 dN (fun (i_5:Nat) (next4:Int→Option Int) (sum_3:Int)=>
 dz (0≤(i_5:Int)∧(i_5:Int)<(l.length:Int)) <|
 next4 (wI (sum_3+(wI ((nth blocks i_5) * ((nth l i_5).Units))))))
 (fun (sum_3:Int)=>
 k2 sum_3) (blocks.length - 0) 0 0)
theorem zfW (F0:Frz)(w:World)(hF0:F0.At w)(l:List GProduct)(vl:Value)(hl:SlC F0 vl 5 (l.map df))(blocks:List Int)(vblocks:Value)(hblocks:SlC F0 vblocks 1 (blocks.map eI))(r:Int)(hr:zd9 l blocks=some r):Calls Tryz.prog 138 #[vl,vblocks] w fun e w'=>e= .returned (.int .i64 r)∧Below w.heap.size w w':=by
 have hk:=hr;unfold zd9 at hk;haveI:=hl.oneC;haveI:=hblocks.oneC;obtain ⟨S0,F1,rfl,hS0,hp0⟩:=eC hF0;refine dS Tryz.func138 rfl rfl rfl hp0 ?_;refine jm ?_;refine iR ?_;refine cW (dE rfl rfl hblocks (List.length_map _)) ?_;have hm9:blocks.length≤9223372036854775807:=(List.length_map _)▸hblocks.max;refine d9 ?_;have hq:=d7 hk;clear hk;obtain ⟨k2,hk2,hk⟩:=hq; (try dsimp only at hk);refine dk (ι:=Int) (fun z=>[(5, .int .i64 z)]) (fun z=>[.fr F1]) (fun z=>k2 z=some r) ?_ ?_
 ·have hq:=fP hk;clear hk;obtain ⟨f4,kk4,hf4,hkk4,hk⟩:=hq;refine eW ?_;refine T.loop (ι:=Nat×Int) (fun z=>[(0,vl),(5, .int .i64 z.2),(8,vblocks),(9, .int .i64 (blocks.length:Int)),(10, .int .i64 (z.1:Int))]) (fun z=>[.fr F1]) (fun z=>dN f4 kk4 (blocks.length - z.1) z.1 z.2=some r) (fun z=>blocks.length - z.1) (0,0) ?_ ?_ ?_ ?_
  ·exact hk
  ·exact jM
  ·exact eT
  ·rintro ⟨i_5,sum_3⟩ hk; (try dsimp only at *);refine ff ?_;refine T.cond rfl (fun h6=>?_) (fun h6=>?_)
   ·have p6:=of_decide_eq_true h6;rw [fN a7] at hk;generalize hn4:dN f4 kk4 (blocks.length - (i_5+1)) (i_5+1)=next4 at hk;rw [←hf4] at hk; (try dsimp only at hk);refine kn ?_;refine cW (dq (i:=i_5) rfl rfl rfl hblocks (List.length_map _) rfl a7) ?_;refine cW (dP 0 (i:=i_5) (j:=0) rfl rfl rfl hblocks a7) ?_;refine jA ?_;have hq:(0≤(i_5:Int)∧(i_5:Int)<(l.length:Int))∧_:=dH hk;clear hk;obtain ⟨g19,hk⟩:=hq; (try dsimp only at hk);refine lB ?_;refine cW (dq (i:=i_5) rfl rfl rfl hl (List.length_map _) rfl a7) ?_;refine cW (fv rfl rfl hl (List.length_map _) a7) ?_;refine cW (dP 0 (i:=i_5) (j:=3) rfl rfl rfl hl a7) ?_;refine cW (dl (v:= .int .i64 (wI ((nth blocks i_5) * ((nth l i_5).Units))))) ?_;refine cW (dl (v:= .int .i64 (wI (sum_3+(wI ((nth blocks i_5) * ((nth l i_5).Units))))))) ?_;refine dJ ?_;refine jk ?_;rw [←hn4] at hk;exact K.next ((i_5+1),wI (sum_3+(wI ((nth blocks i_5) * ((nth l i_5).Units))))) hk b3 (.c (.c (.c (.c (.c .nil))))) (List.Sublist.refl _)
   ·have p6:=of_decide_eq_false h6;rw [fO a7,←hkk4] at hk; (try dsimp only at hk);refine fb ?_;exact de sum_3 hk (.c .nil) (List.Sublist.refl _)
 ·rintro sum_1 hk;rw [←hk2] at hk; (try dsimp only at hk);refine lY ?_;obtain rfl:=Option.some.inj hk;exact eo
def zbr (l:List GProduct)(bidders:List GBidder):Option Bool:=
 dM (fun (x_1:Bool)=>
 (bif x_1 then
 some false
 else
 dM (fun (_:Unit)=>
 some true)
 (fun k5=>
 dN (fun (i_8:Nat) (next7:Int→Option Bool) (last_6:Int)=>
 (bif ((decide ((nth bidders i_8).ID≤last_6))||(decide (32≤(nth bidders i_8).ID))) then
 some false
 else
 (bif ((((decide ((nth bidders i_8).Eligibility<0))||(decide (76800000<(nth bidders i_8).Eligibility)))||(decide ((nth bidders i_8).Waivers<0)))||(decide (3<(nth bidders i_8).Waivers))) then
 some false
 else
 dM (fun (x_16:Bool)=>
 (bif x_16 then
 some false
 else
 next7 ((nth bidders i_8).ID)))
 (fun k17=>
 (bif !(zdg l ((nth bidders i_8).Blocks)) then
 k17 true
 else
 (zd9 l ((nth bidders i_8).Blocks)).bind fun r58=>
 k17 (decide ((nth bidders i_8).Eligibility<r58)))))))
 (fun (last_6:Int)=>
 k5 ()) (bidders.length - 0) 0 (-1))))
 (fun k2=>
 (bif decide (32<(bidders.length:Int)) then
 k2 true
 else
 (zcM l).bind fun r13=>
 k2 (!r13)))
theorem zcx (F0:Frz)(w:World)(hF0:F0.At w)(l:List GProduct)(vl:Value)(hl:SlC F0 vl 5 (l.map df))(bidders:List GBidder)(vbidders:Value)(cbidders:List (List Value))(hbidders:SlD cX F0 vbidders 4 cbidders bidders)(r:Bool)(hr:zbr l bidders=some r):Calls Tryz.prog 52 #[vl,vbidders] w fun e w'=>e= .returned (.bool r)∧Below w.heap.size w w':=by
 have hk:=hr;unfold zbr at hk;haveI:=hl.oneC;haveI:=hbidders.1.oneC;obtain ⟨S0,F1,rfl,hS0,hp0⟩:=eC hF0;refine dS Tryz.func52 rfl rfl rfl hp0 ?_;refine gu ?_;refine ju ?_; (try dsimp only at hk);have hq:=d7 hk;clear hk;obtain ⟨k2,hk2,hk⟩:=hq; (try dsimp only at hk);refine dk (ι:=Bool) (fun z=>[(0,vl),(1,vbidders),(15, .bool z)]) (fun z=>[.fr F1]) (fun z=>k2 z=some r) ?_ ?_
 ·refine eA ?_;refine cW (dE rfl rfl hbidders.1 hbidders.2.1) ?_;have hm9:bidders.length≤9223372036854775807:=hbidders.2.1▸hbidders.1.max;refine ee ?_;refine dm rfl rfl rfl (fun h3=>?_) (fun h3=>?_)
  ·have p3:=of_decide_eq_true h3;replace hk:=dt hk h3;refine iZ ?_;exact lW
  ·have p3:=of_decide_eq_false h3;replace hk:=dw hk h3;refine dJ ?_;have hq:=dC hk;clear hk;obtain ⟨r13,hr13,hk⟩:=hq;refine dc (dh rfl rfl rfl (fun w hw=>zdP _ w (hw.fr (i:=0) rfl) l vl hl r13 hr13)) ?_;refine jV ?_;exact de (!r13) hk (.c (.c (.c .nil))) (List.Sublist.refl _)
 ·rintro x_1 hk;rw [←hk2] at hk; (try dsimp only at hk);refine T.cond rfl (fun h4=>?_) (fun h4=>?_)
  ·replace hk:=dt hk h4;refine il ?_;obtain rfl:=Option.some.inj hk;exact eo
  ·replace hk:=dw hk h4;refine iO ?_;refine iR ?_;refine cW (dE rfl rfl hbidders.1 hbidders.2.1) ?_;have hm17:bidders.length≤9223372036854775807:=hbidders.2.1▸hbidders.1.max;refine d9 ?_;have hq:=d7 hk;clear hk;obtain ⟨k5,hk5,hk⟩:=hq; (try dsimp only at hk);refine dk (ι:=Unit) (fun z=>[]) (fun z=>[.fr F1]) (fun z=>k5 ()=some r) ?_ ?_
   ·have hq:=fP hk;clear hk;obtain ⟨f7,kk7,hf7,hkk7,hk⟩:=hq;refine eW ?_;refine T.loop (ι:=Nat×Int) (fun z=>[(0,vl),(5, .int .i64 z.2),(16,vbidders),(17, .int .i64 (bidders.length:Int)),(18, .int .i64 (z.1:Int))]) (fun z=>[.fr F1]) (fun z=>dN f7 kk7 (bidders.length - z.1) z.1 z.2=some r) (fun z=>bidders.length - z.1) (0,(-1)) ?_ ?_ ?_ ?_
    ·exact hk
    ·exact jM
    ·exact eT
    ·rintro ⟨i_8,last_6⟩ hk; (try dsimp only at *);refine ff ?_;refine T.cond rfl (fun h9=>?_) (fun h9=>?_)
     ·have p9:=of_decide_eq_true h9;rw [fN a7] at hk;generalize hn7:dN f7 kk7 (bidders.length - (i_8+1)) (i_8+1)=next7 at hk;rw [←hf7] at hk; (try dsimp only at hk);refine iT ?_;refine cW (dq (i:=i_8) rfl rfl rfl hbidders.1 hbidders.2.1 rfl a7) ?_;refine cW (fk 0 (i:=i_8) (j:=0) rfl rfl rfl hbidders.1 hbidders.2.1 a7 rfl (fB (hbidders.2.2 i_8 a7))) ?_;have hd21_3:=(fo (hbidders.2.2 i_8 a7)).2;haveI:=hd21_3.oneC;refine fG ?_;rintro _ _ ⟨g7,rfl,rfl⟩;refine fS ?_;refine ju ?_;refine dk (ι:=Unit) (fun z=>[(0,vl),(7, .pointer (some ⟨g7,0,none⟩)),(16,vbidders),(17, .int .i64 (bidders.length:Int)),(18, .int .i64 (i_8:Int)),(30, .bool ((decide ((nth bidders i_8).ID≤last_6))||(decide (32≤(nth bidders i_8).ID))))]) (fun z=>[.row g7 57 [.int .i64 ((nth bidders i_8).ID), .int .i64 ((nth bidders i_8).Eligibility), .int .i64 ((nth bidders i_8).Waivers),(nth (nth cbidders i_8) 3)], .fr F1]) (fun z=>True) ?_ ?_
      ·refine fg ?_;refine lk ?_;refine dm rfl rfl rfl (fun h10=>?_) (fun h10=>?_)
       ·have p10:=of_decide_eq_true h10;refine iZ ?_;exact de () trivial (.c (.c (.c (.c (.c (.b (gg h10).symm .nil)))))) (List.Sublist.refl _)
       ·have p10:=of_decide_eq_false h10;refine ga ?_;refine jh ?_;exact de () trivial (.c (.c (.c (.c (.c (.b (gx h10) .nil)))))) (List.Sublist.refl _)
      ·rintro _ _;refine T.cond rfl (fun h11=>?_) (fun h11=>?_)
       ·replace hk:=dt hk h11;refine q4c ?_;obtain rfl:=Option.some.inj hk;exact eo
       ·have p11:=h11; (try simp only [iS] at p11);replace hk:=dw hk h11;refine q3b ?_;refine dk (ι:=Unit) (fun z=>[(0,vl),(7, .pointer (some ⟨g7,0,none⟩)),(16,vbidders),(17, .int .i64 (bidders.length:Int)),(18, .int .i64 (i_8:Int)),(48, .bool ((((decide ((nth bidders i_8).Eligibility<0))||(decide (76800000<(nth bidders i_8).Eligibility)))||(decide ((nth bidders i_8).Waivers<0)))||(decide (3<(nth bidders i_8).Waivers))))]) (fun z=>[.row g7 57 [.int .i64 ((nth bidders i_8).ID), .int .i64 ((nth bidders i_8).Eligibility), .int .i64 ((nth bidders i_8).Waivers),(nth (nth cbidders i_8) 3)], .fr F1]) (fun z=>True) ?_ ?_
        ·refine fg ?_;refine ga ?_;refine ee ?_;refine dm rfl rfl rfl (fun h12=>?_) (fun h12=>?_)
         ·have p12:=of_decide_eq_true h12;refine TL.run 14 rfl ?_;refine fH ?_;exact de () trivial (.c (.c (.c (.c (.c (.b (gg (gg (gg h12))).symm .nil)))))) (List.Sublist.refl _)
         ·have p12:=of_decide_eq_false h12;refine lk ?_;refine dm rfl rfl rfl (fun h13=>?_) (fun h13=>?_)
          ·have p13:=of_decide_eq_true h13;refine q31 ?_;exact de () trivial (.c (.c (.c (.c (.c (.b (gg (gg (iP h12 h13))).symm .nil)))))) (List.Sublist.refl _)
          ·have p13:=of_decide_eq_false h13;refine lk ?_;refine dm rfl rfl rfl (fun h14=>?_) (fun h14=>?_)
           ·have p14:=of_decide_eq_true h14;refine iZ ?_;exact de () trivial (.c (.c (.c (.c (.c (.b (gg (iP (iP h12 h13) h14)).symm .nil)))))) (List.Sublist.refl _)
           ·have p14:=of_decide_eq_false h14;refine ga ?_;refine jh ?_;exact de () trivial (.c (.c (.c (.c (.c (.b (gx (iP (iP h12 h13) h14)) .nil)))))) (List.Sublist.refl _)
        ·rintro _ _;refine T.cond rfl (fun h15=>?_) (fun h15=>?_)
         ·replace hk:=dt hk h15;refine q4c ?_;obtain rfl:=Option.some.inj hk;exact eo
         ·have p15:=h15; (try simp only [iS] at p15);replace hk:=dw hk h15;refine q3b ?_; (try dsimp only at hk);have hq:=d7 hk;clear hk;obtain ⟨k17,hk17,hk⟩:=hq; (try dsimp only at hk);refine dk (ι:=Bool) (fun z=>[(0,vl),(7, .pointer (some ⟨g7,0,none⟩)),(16,vbidders),(17, .int .i64 (bidders.length:Int)),(18, .int .i64 (i_8:Int)),(62, .bool z)]) (fun z=>[.row g7 57 [.int .i64 ((nth bidders i_8).ID), .int .i64 ((nth bidders i_8).Eligibility), .int .i64 ((nth bidders i_8).Waivers),(nth (nth cbidders i_8) 3)], .fr F1]) (fun z=>k17 z=some r) ?_ ?_
          ·refine d5 (sN 0 3 (.eff 3 (sN 4 5 (sN 10 2 (.eff 9 (.still 12 (.still 13 .done))))))) _ a9 (List.Sublist.refl _) ?_;refine gv ?_;refine ia ?_;refine dZ ?_;refine di rfl (cZ) rfl rfl (dh rfl rfl rfl (fun w hw=>zf4 _ w (hw.fr (i:=1) rfl) l vl hl ((nth bidders i_8).Blocks) (nth (nth cbidders i_8) 3) hd21_3)) ?_;refine jQ ?_;refine fR ?_;refine fh rfl rfl rfl rfl (fun h18=>?_) (fun h18=>?_)
           ·replace hk:=dt hk h18;refine TS.run 5 rfl ?_;refine lL ?_;refine kC ?_;exact de true hk (.c (.c (.c (.c (.c (.c .nil)))))) (List.Sublist.refl _)
           ·replace hk:=dw hk h18;refine gv ?_;refine ia ?_;refine ia ?_;refine dZ ?_;have hq:=dC hk;clear hk;obtain ⟨r58,hr58,hk⟩:=hq;refine di rfl (Wt.some) rfl rfl (dh rfl rfl rfl (fun w hw=>zfW _ w (hw.fr (i:=1) rfl) l vl hl ((nth bidders i_8).Blocks) (nth (nth cbidders i_8) 3) hd21_3 r58 hr58)) ?_;refine jQ ?_;refine kC ?_;exact de (decide ((nth bidders i_8).Eligibility<r58)) hk (.c (.c (.c (.c (.c (.c .nil)))))) (List.Sublist.refl _)
          ·rintro x_16 hk;rw [←hk17] at hk; (try dsimp only at hk);refine T.cond rfl (fun h19=>?_) (fun h19=>?_)
           ·replace hk:=dt hk h19;refine q4c ?_;obtain rfl:=Option.some.inj hk;exact eo
           ·replace hk:=dw hk h19;refine T.skip (K.seq (T.region ?_));refine kg ?_;refine jk ?_;rw [←hn7] at hk;refine iX ?_;exact K.next ((i_8+1),(nth bidders i_8).ID) hk b3 (.c (.c (.c (.c (.c .nil))))) (List.Sublist.refl _)
     ·have p9:=of_decide_eq_false h9;rw [fO a7,←hkk7] at hk; (try dsimp only at hk);refine fb ?_;exact lK
   ·rintro _ hk;rw [←hk5] at hk; (try dsimp only at hk);refine kS ?_;obtain rfl:=Option.some.inj hk;exact eo
def zcK (x_:GBidder)(xf0_:GBid):Bool:=
 (decide (x_.ID=xf0_.Bidder))
theorem zfQ (F0:Frz)(w:World)(hF0:F0.At w)(x_:GBidder)(vx__3:Value)(hx__3:SlC F0 vx__3 1 (x_.Blocks.map eI))(xf0_:GBid)(gf0_:Nat)(vf0_4:Value)(hf0_4:SlC F0 vf0_4 1 (xf0_.Point.Num.Digits.map (eK .u8)))(vf0_6:Value)(hf0_6:SlC F0 vf0_6 1 (xf0_.Point.Den.Digits.map (eK .u8)))(hO:Hp w (dB [.row gf0_ 79 [.int .i64 xf0_.Bidder, .int .i64 xf0_.Product, .int .i64 xf0_.Change, .bool xf0_.Point.Num.Neg,vf0_4, .bool xf0_.Point.Den.Neg,vf0_6]]) [.row gf0_ 79 [.int .i64 xf0_.Bidder, .int .i64 xf0_.Product, .int .i64 xf0_.Change, .bool xf0_.Point.Num.Neg,vf0_4, .bool xf0_.Point.Den.Neg,vf0_6]] w)(hA:∀g,dB [.row gf0_ 79 [.int .i64 xf0_.Bidder, .int .i64 xf0_.Product, .int .i64 xf0_.Change, .bool xf0_.Point.Num.Neg,vf0_4, .bool xf0_.Point.Den.Neg,vf0_6]] g→¬F0.S g):Calls Tryz.prog 141 #[.agg [.int .i64 x_.ID, .int .i64 x_.Eligibility, .int .i64 x_.Waivers,vx__3].toArray, .pointer (some ⟨gf0_,0,none⟩)] w fun e w'=>∃(y:Unit),(True)∧e= .returned (.bool (zcK x_ xf0_))∧FxM F0 w (dB [.row gf0_ 79 [.int .i64 xf0_.Bidder, .int .i64 xf0_.Product, .int .i64 xf0_.Change, .bool xf0_.Point.Num.Neg,vf0_4, .bool xf0_.Point.Den.Neg,vf0_6]]) F0 [.row gf0_ 79 [.int .i64 xf0_.Bidder, .int .i64 xf0_.Product, .int .i64 xf0_.Change, .bool xf0_.Point.Num.Neg,vf0_4, .bool xf0_.Point.Den.Neg,vf0_6]] w':=by
 obtain ⟨r,hk⟩:∃r,zcK x_ xf0_=r:=⟨_,rfl⟩;rw [hk];unfold zcK at hk;haveI:=hx__3.oneC;haveI:=hf0_4.oneC;haveI:=hf0_6.oneC;obtain ⟨S0,F1,rfl,hS0,hp0⟩:=fI hF0 hO hA;refine dS (hs:=[.row gf0_ 79 [.int .i64 xf0_.Bidder, .int .i64 xf0_.Product, .int .i64 xf0_.Change, .bool xf0_.Point.Num.Neg,vf0_4, .bool xf0_.Point.Den.Neg,vf0_6], .fr F1]) Tryz.func141 rfl rfl rfl hp0 ?_;refine gN ?_;rintro _ _ ⟨g2,rfl,rfl⟩;refine iC ?_;refine ga ?_;refine kY ?_;refine ld ?_;subst hk;exact q4L
def zav (s:List GBidder)(x1c0_:GBid):Int:=
 dM (fun (_:Unit)=>
 (-1))
 (fun k1=>
 dN (fun (i_3:Nat) (next2:Unit→Int) (_:Unit)=>
 (bif (zcK (nth s i_3) x1c0_) then
 (i_3:Int)
 else
 next2 ()))
 (fun (_:Unit)=>
 k1 ()) (s.length - 0) 0 ())
theorem zbN (F0:Frz)(w:World)(hF0:F0.At w)(s:List GBidder)(vs:Value)(cs:List (List Value))(hs:SlD cX F0 vs 4 cs s)(x1c0_:GBid)(g1c0_:Nat)(v1c0_4:Value)(h1c0_4:SlC F0 v1c0_4 1 (x1c0_.Point.Num.Digits.map (eK .u8)))(v1c0_6:Value)(h1c0_6:SlC F0 v1c0_6 1 (x1c0_.Point.Den.Digits.map (eK .u8)))(hO:Hp w (dB [.row g1c0_ 79 [.int .i64 x1c0_.Bidder, .int .i64 x1c0_.Product, .int .i64 x1c0_.Change, .bool x1c0_.Point.Num.Neg,v1c0_4, .bool x1c0_.Point.Den.Neg,v1c0_6]]) [.row g1c0_ 79 [.int .i64 x1c0_.Bidder, .int .i64 x1c0_.Product, .int .i64 x1c0_.Change, .bool x1c0_.Point.Num.Neg,v1c0_4, .bool x1c0_.Point.Den.Neg,v1c0_6]] w)(hA:∀g,dB [.row g1c0_ 79 [.int .i64 x1c0_.Bidder, .int .i64 x1c0_.Product, .int .i64 x1c0_.Change, .bool x1c0_.Point.Num.Neg,v1c0_4, .bool x1c0_.Point.Den.Neg,v1c0_6]] g→¬F0.S g):Calls Tryz.prog 118 #[vs, .func (.func 141) #[] #[.pointer (some ⟨g1c0_,0,none⟩)]] w fun e w'=>∃(y:Unit),(True)∧e= .returned (.int .i64 (zav s x1c0_))∧FxM F0 w (dB [.row g1c0_ 79 [.int .i64 x1c0_.Bidder, .int .i64 x1c0_.Product, .int .i64 x1c0_.Change, .bool x1c0_.Point.Num.Neg,v1c0_4, .bool x1c0_.Point.Den.Neg,v1c0_6]]) F0 [.row g1c0_ 79 [.int .i64 x1c0_.Bidder, .int .i64 x1c0_.Product, .int .i64 x1c0_.Change, .bool x1c0_.Point.Num.Neg,v1c0_4, .bool x1c0_.Point.Den.Neg,v1c0_6]] w':=by
 obtain ⟨r,hk⟩:∃r,zav s x1c0_=r:=⟨_,rfl⟩;rw [hk];unfold zav at hk;haveI:=hs.1.oneC;haveI:=h1c0_4.oneC;haveI:=h1c0_6.oneC;obtain ⟨S0,F1,rfl,hS0,hp0⟩:=fI hF0 hO hA;refine dS (hs:=[.row g1c0_ 79 [.int .i64 x1c0_.Bidder, .int .i64 x1c0_.Product, .int .i64 x1c0_.Change, .bool x1c0_.Point.Num.Neg,v1c0_4, .bool x1c0_.Point.Den.Neg,v1c0_6], .fr F1]) Tryz.func118 rfl rfl rfl hp0 ?_;refine jn ?_;refine cW (dE rfl rfl hs.1 hs.2.1) ?_;have hm7:s.length≤9223372036854775807:=hs.2.1▸hs.1.max;refine d9 ?_;have hq:=d7 hk;clear hk;obtain ⟨k1,hk1,hk⟩:=hq; (try dsimp only at hk);refine dk (ι:=Unit) (fun z=>[]) (fun z=>[.row g1c0_ 79 [.int .i64 x1c0_.Bidder, .int .i64 x1c0_.Product, .int .i64 x1c0_.Change, .bool x1c0_.Point.Num.Neg,v1c0_4, .bool x1c0_.Point.Den.Neg,v1c0_6], .fr F1]) (fun z=>k1 ()=r) ?_ ?_
 ·have hq:=fP hk;clear hk;obtain ⟨f2,kk2,hf2,hkk2,hk⟩:=hq;refine eW ?_;refine T.loop (ι:=Nat) (fun z=>[(0,vs),(1, .func (.func 141) #[] #[.pointer (some ⟨g1c0_,0,none⟩)]),(7, .int .i64 (s.length:Int)),(8, .int .i64 (z:Int))]) (fun z=>[.row g1c0_ 79 [.int .i64 x1c0_.Bidder, .int .i64 x1c0_.Product, .int .i64 x1c0_.Change, .bool x1c0_.Point.Num.Neg,v1c0_4, .bool x1c0_.Point.Den.Neg,v1c0_6], .fr F1]) (fun z=>dN f2 kk2 (s.length - z) z ()=r) (fun z=>s.length - z) 0 ?_ ?_ ?_ ?_
  ·exact hk
  ·exact jU
  ·exact eT
  ·rintro i_3 hk;refine ff ?_;refine T.cond rfl (fun h4=>?_) (fun h4=>?_)
   ·have p4:=of_decide_eq_true h4;rw [fN a7] at hk;generalize hn2:dN f2 kk2 (s.length - (i_3+1)) (i_3+1)=next2 at hk;rw [←hf2] at hk; (try dsimp only at hk);refine q2R ?_;have hd15_3:=(fo (hs.2.2 i_3 a7)).2;haveI:=hd15_3.oneC;refine dc (dD [0,1] [.row g1c0_ 79 [.int .i64 x1c0_.Bidder, .int .i64 x1c0_.Product, .int .i64 x1c0_.Change, .bool x1c0_.Point.Num.Neg,v1c0_4, .bool x1c0_.Point.Den.Neg,v1c0_6]] [] rfl rfl rfl rfl a8 (fun w hw hw2 hF=>zfQ _ w hF (nth s i_3) (nth (nth cs i_3) 3) hd15_3 x1c0_ g1c0_ v1c0_4 h1c0_4 v1c0_6 h1c0_6 hw2.takes.1 hw2.takes.2)) ?_;rintro _ _ ⟨⟨⟩, -,rfl,rfl⟩;refine mq ?_;refine T.cond rfl (fun h5=>?_) (fun h5=>?_)
    ·replace hk:=dt hk h5;refine gI ?_;refine kU ?_;subst hk;exact lZ
    ·replace hk:=dw hk h5;refine mf ?_;rw [←hn2] at hk;exact q4F
   ·have p4:=of_decide_eq_false h4;rw [fO a7,←hkk2] at hk; (try dsimp only at hk);refine fb ?_;exact lK
 ·rintro _ hk;rw [←hk1] at hk; (try dsimp only at hk);refine kS ?_;subst hk;exact lZ
def zas (s:List GBidder)(x1c0_:GBid):Bool:=
 (decide (0≤(zav s x1c0_)))
theorem zbJ (F0:Frz)(w:World)(hF0:F0.At w)(s:List GBidder)(vs:Value)(cs:List (List Value))(hs:SlD cX F0 vs 4 cs s)(x1c0_:GBid)(g1c0_:Nat)(v1c0_4:Value)(h1c0_4:SlC F0 v1c0_4 1 (x1c0_.Point.Num.Digits.map (eK .u8)))(v1c0_6:Value)(h1c0_6:SlC F0 v1c0_6 1 (x1c0_.Point.Den.Digits.map (eK .u8)))(hO:Hp w (dB [.row g1c0_ 79 [.int .i64 x1c0_.Bidder, .int .i64 x1c0_.Product, .int .i64 x1c0_.Change, .bool x1c0_.Point.Num.Neg,v1c0_4, .bool x1c0_.Point.Den.Neg,v1c0_6]]) [.row g1c0_ 79 [.int .i64 x1c0_.Bidder, .int .i64 x1c0_.Product, .int .i64 x1c0_.Change, .bool x1c0_.Point.Num.Neg,v1c0_4, .bool x1c0_.Point.Den.Neg,v1c0_6]] w)(hA:∀g,dB [.row g1c0_ 79 [.int .i64 x1c0_.Bidder, .int .i64 x1c0_.Product, .int .i64 x1c0_.Change, .bool x1c0_.Point.Num.Neg,v1c0_4, .bool x1c0_.Point.Den.Neg,v1c0_6]] g→¬F0.S g):Calls Tryz.prog 140 #[vs, .func (.func 141) #[] #[.pointer (some ⟨g1c0_,0,none⟩)]] w fun e w'=>∃(y:Unit),(True)∧e= .returned (.bool (zas s x1c0_))∧FxM F0 w (dB [.row g1c0_ 79 [.int .i64 x1c0_.Bidder, .int .i64 x1c0_.Product, .int .i64 x1c0_.Change, .bool x1c0_.Point.Num.Neg,v1c0_4, .bool x1c0_.Point.Den.Neg,v1c0_6]]) F0 [.row g1c0_ 79 [.int .i64 x1c0_.Bidder, .int .i64 x1c0_.Product, .int .i64 x1c0_.Change, .bool x1c0_.Point.Num.Neg,v1c0_4, .bool x1c0_.Point.Den.Neg,v1c0_6]] w':=by
 obtain ⟨r,hk⟩:∃r,zas s x1c0_=r:=⟨_,rfl⟩;rw [hk];unfold zas at hk;haveI:=hs.1.oneC;haveI:=h1c0_4.oneC;haveI:=h1c0_6.oneC;obtain ⟨S0,F1,rfl,hS0,hp0⟩:=fI hF0 hO hA;refine dS (hs:=[.row g1c0_ 79 [.int .i64 x1c0_.Bidder, .int .i64 x1c0_.Product, .int .i64 x1c0_.Change, .bool x1c0_.Point.Num.Neg,v1c0_4, .bool x1c0_.Point.Den.Neg,v1c0_6], .fr F1]) Tryz.func140 rfl rfl rfl hp0 ?_;refine jm ?_;refine ee ?_;refine dc (dD [0,1] [.row g1c0_ 79 [.int .i64 x1c0_.Bidder, .int .i64 x1c0_.Product, .int .i64 x1c0_.Change, .bool x1c0_.Point.Num.Neg,v1c0_4, .bool x1c0_.Point.Den.Neg,v1c0_6]] [] rfl rfl rfl rfl a8 (fun w hw hw2 hF=>zbN _ w hF s vs cs hs x1c0_ g1c0_ v1c0_4 h1c0_4 v1c0_6 h1c0_6 hw2.takes.1 hw2.takes.2)) ?_;rintro _ _ ⟨⟨⟩, -,rfl,rfl⟩;refine eS ?_;refine ld ?_;subst hk;exact lZ
def zdQ (l:List GProduct)(bidders:List GBidder)(bids:List GBid):Option Bool:=
 dM (fun (x_1:Bool)=>
 (bif x_1 then
 some false
 else
 dM (fun (_:Unit)=>
 some true)
 (fun k5=>
 dN (fun (i_8:Nat) (next7:Int→Option Bool) (last_6:Int)=>
 (bif (((decide ((nth bids i_8).Bidder<last_6))||(decide ((nth bids i_8).Product<0)))||(decide ((l.length:Int)≤(nth bids i_8).Product))) then
 some false
 else
 (bif (((decide ((nth bids i_8).Change<(-12)))||(decide (12<(nth bids i_8).Change)))||(decide ((nth bids i_8).Change=0))) then
 some false
 else
 (bif !(zas bidders (nth bids i_8)) then
 some false
 else
 next7 ((nth bids i_8).Bidder)))))
 (fun (last_6:Int)=>
 k5 ()) (bids.length - 0) 0 0)))
 (fun k2=>
 (bif decide (128<(bids.length:Int)) then
 k2 true
 else
 (zbr l bidders).bind fun r16=>
 k2 (!r16)))
theorem zf7 (F0:Frz)(w:World)(hF0:F0.At w)(l:List GProduct)(vl:Value)(hl:SlC F0 vl 5 (l.map df))(bidders:List GBidder)(vbidders:Value)(cbidders:List (List Value))(hbidders:SlD cX F0 vbidders 4 cbidders bidders)(bids:List GBid)(vbids:Value)(cbids:List (List Value))(hbids:SlD cY F0 vbids 7 cbids bids)(r:Bool)(hr:zdQ l bidders bids=some r):Calls Tryz.prog 58 #[vl,vbidders,vbids] w fun e w'=>e= .returned (.bool r)∧Below w.heap.size w w':=by
 have hk:=hr;unfold zdQ at hk;haveI:=hl.oneC;haveI:=hbidders.1.oneC;haveI:=hbids.1.oneC;obtain ⟨S0,F1,rfl,hS0,hp0⟩:=eC hF0;refine dS Tryz.func58 rfl rfl rfl hp0 ?_;refine gu ?_;refine ju ?_; (try dsimp only at hk);have hq:=d7 hk;clear hk;obtain ⟨k2,hk2,hk⟩:=hq; (try dsimp only at hk);refine dk (ι:=Bool) (fun z=>[(0,vl),(1,vbidders),(2,vbids),(18, .bool z)]) (fun z=>[.fr F1]) (fun z=>k2 z=some r) ?_ ?_
 ·refine eA ?_;refine cW (dE rfl rfl hbids.1 hbids.2.1) ?_;have hm11:bids.length≤9223372036854775807:=hbids.2.1▸hbids.1.max;refine ee ?_;refine dm rfl rfl rfl (fun h3=>?_) (fun h3=>?_)
  ·have p3:=of_decide_eq_true h3;replace hk:=dt hk h3;refine kK ?_;exact q4Z
  ·have p3:=of_decide_eq_false h3;replace hk:=dw hk h3;refine ee ?_;have hq:=dC hk;clear hk;obtain ⟨r16,hr16,hk⟩:=hq;refine dc (dh rfl rfl rfl (fun w hw=>zcx _ w (hw.fr (i:=0) rfl) l vl hl bidders vbidders cbidders hbidders r16 hr16)) ?_;refine jV ?_;exact de (!r16) hk (.c (.c (.c (.c .nil)))) (List.Sublist.refl _)
 ·rintro x_1 hk;rw [←hk2] at hk; (try dsimp only at hk);refine T.cond rfl (fun h4=>?_) (fun h4=>?_)
  ·replace hk:=dt hk h4;refine il ?_;obtain rfl:=Option.some.inj hk;exact eo
  ·replace hk:=dw hk h4;refine iO ?_;refine iR ?_;refine cW (dE rfl rfl hbids.1 hbids.2.1) ?_;have hm20:bids.length≤9223372036854775807:=hbids.2.1▸hbids.1.max;refine d9 ?_;have hq:=d7 hk;clear hk;obtain ⟨k5,hk5,hk⟩:=hq; (try dsimp only at hk);refine dk (ι:=Unit) (fun z=>[]) (fun z=>[.fr F1]) (fun z=>k5 ()=some r) ?_ ?_
   ·have hq:=fP hk;clear hk;obtain ⟨f7,kk7,hf7,hkk7,hk⟩:=hq;refine eW ?_;refine T.loop (ι:=Nat×Int) (fun z=>[(0,vl),(1,vbidders),(7, .int .i64 z.2),(19,vbids),(20, .int .i64 (bids.length:Int)),(21, .int .i64 (z.1:Int))]) (fun z=>[.fr F1]) (fun z=>dN f7 kk7 (bids.length - z.1) z.1 z.2=some r) (fun z=>bids.length - z.1) (0,0) ?_ ?_ ?_ ?_
    ·exact hk
    ·exact l6
    ·exact eT
    ·rintro ⟨i_8,last_6⟩ hk; (try dsimp only at *);refine ff ?_;refine T.cond rfl (fun h9=>?_) (fun h9=>?_)
     ·have p9:=of_decide_eq_true h9;rw [fN a7] at hk;generalize hn7:dN f7 kk7 (bids.length - (i_8+1)) (i_8+1)=next7 at hk;rw [←hf7] at hk; (try dsimp only at hk);refine iT ?_;refine cW (dq (i:=i_8) rfl rfl rfl hbids.1 hbids.2.1 rfl a7) ?_;refine cW (fk 0 (i:=i_8) (j:=0) rfl rfl rfl hbids.1 hbids.2.1 a7 rfl (ek (hbids.2.2 i_8 a7))) ?_;have hd24_4:=(eH (hbids.2.2 i_8 a7)).2;haveI:=hd24_4.oneC;have hd24_6:=(eJ (hbids.2.2 i_8 a7)).2;haveI:=hd24_6.oneC;refine fG ?_;rintro _ _ ⟨g9,rfl,rfl⟩;refine fS ?_;refine ju ?_;refine dk (ι:=Unit) (fun z=>[(0,vl),(1,vbidders),(9, .pointer (some ⟨g9,0,none⟩)),(19,vbids),(20, .int .i64 (bids.length:Int)),(21, .int .i64 (i_8:Int)),(40, .bool (((decide ((nth bids i_8).Bidder<last_6))||(decide ((nth bids i_8).Product<0)))||(decide ((l.length:Int)≤(nth bids i_8).Product))))]) (fun z=>[.row g9 79 [.int .i64 ((nth bids i_8).Bidder), .int .i64 ((nth bids i_8).Product), .int .i64 ((nth bids i_8).Change), .bool ((nth bids i_8).Point.Num.Neg),(nth (nth cbids i_8) 4), .bool ((nth bids i_8).Point.Den.Neg),(nth (nth cbids i_8) 6)], .fr F1]) (fun z=>True) ?_ ?_
      ·refine fg ?_;refine lk ?_;refine dm rfl rfl rfl (fun h10=>?_) (fun h10=>?_)
       ·have p10:=of_decide_eq_true h10;refine TL.run 11 rfl ?_;refine fH ?_;exact de () trivial (.c (.c (.c (.c (.c (.c (.b (gg (gg h10)).symm .nil))))))) (List.Sublist.refl _)
       ·have p10:=of_decide_eq_false h10;refine lk ?_;refine dm rfl rfl rfl (fun h11=>?_) (fun h11=>?_)
        ·have p11:=of_decide_eq_true h11;refine TL.run 6 rfl ?_;refine fH ?_;exact de () trivial (.c (.c (.c (.c (.c (.c (.b (gg (iP h10 h11)).symm .nil))))))) (List.Sublist.refl _)
        ·have p11:=of_decide_eq_false h11;refine kg ?_;refine q2Y ?_;have hm38:l.length≤9223372036854775807:=(List.length_map _)▸hl.max;refine jh ?_;exact de () trivial (.c (.c (.c (.c (.c (.c (.b (gx (iP h10 h11)) .nil))))))) (List.Sublist.refl _)
      ·rintro _ _;have hm38:l.length≤9223372036854775807:=(List.length_map _)▸hl.max;refine T.cond rfl (fun h12=>?_) (fun h12=>?_)
       ·replace hk:=dt hk h12;refine q4c ?_;obtain rfl:=Option.some.inj hk;exact eo
       ·have p12:=h12; (try simp only [iS] at p12);replace hk:=dw hk h12;refine q3b ?_;refine dk (ι:=Unit) (fun z=>[(0,vl),(1,vbidders),(9, .pointer (some ⟨g9,0,none⟩)),(19,vbids),(20, .int .i64 (bids.length:Int)),(21, .int .i64 (i_8:Int)),(53, .bool (((decide ((nth bids i_8).Change<(-12)))||(decide (12<(nth bids i_8).Change)))||(decide ((nth bids i_8).Change=0))))]) (fun z=>[.row g9 79 [.int .i64 ((nth bids i_8).Bidder), .int .i64 ((nth bids i_8).Product), .int .i64 ((nth bids i_8).Change), .bool ((nth bids i_8).Point.Num.Neg),(nth (nth cbids i_8) 4), .bool ((nth bids i_8).Point.Den.Neg),(nth (nth cbids i_8) 6)], .fr F1]) (fun z=>True) ?_ ?_
        ·refine fg ?_;refine ga ?_;refine ee ?_;refine dm rfl rfl rfl (fun h13=>?_) (fun h13=>?_)
         ·have p13:=of_decide_eq_true h13;refine q31 ?_;exact de () trivial (.c (.c (.c (.c (.c (.c (.b (gg (gg h13)).symm .nil))))))) (List.Sublist.refl _)
         ·have p13:=of_decide_eq_false h13;refine lk ?_;refine dm rfl rfl rfl (fun h14=>?_) (fun h14=>?_)
          ·have p14:=of_decide_eq_true h14;refine iZ ?_;exact de () trivial (.c (.c (.c (.c (.c (.c (.b (gg (iP h13 h14)).symm .nil))))))) (List.Sublist.refl _)
          ·have p14:=of_decide_eq_false h14;refine ga ?_;refine jh ?_;exact de () trivial (.c (.c (.c (.c (.c (.c (.b (gx (iP h13 h14)) .nil))))))) (List.Sublist.refl _)
        ·rintro _ _;refine T.cond rfl (fun h15=>?_) (fun h15=>?_)
         ·replace hk:=dt hk h15;refine q4c ?_;obtain rfl:=Option.some.inj hk;exact eo
         ·have p15:=h15; (try simp only [iS] at p15);replace hk:=dw hk h15;refine jP ?_;refine ee ?_;refine dc (dD [0,1] [.row g9 79 [.int .i64 ((nth bids i_8).Bidder), .int .i64 ((nth bids i_8).Product), .int .i64 ((nth bids i_8).Change), .bool ((nth bids i_8).Point.Num.Neg),(nth (nth cbids i_8) 4), .bool ((nth bids i_8).Point.Den.Neg),(nth (nth cbids i_8) 6)]] [] rfl rfl rfl rfl a8 (fun w hw hw2 hF=>zbJ _ w hF bidders vbidders cbidders hbidders (nth bids i_8) g9 (nth (nth cbids i_8) 4) hd24_4 (nth (nth cbids i_8) 6) hd24_6 hw2.takes.1 hw2.takes.2)) ?_;rintro _ _ ⟨⟨⟩, -,rfl,rfl⟩;refine eS ?_;refine d9 ?_;refine T.cond rfl (fun h16=>?_) (fun h16=>?_)
          ·replace hk:=dt hk h16;refine q4c ?_;obtain rfl:=Option.some.inj hk;exact eo
          ·replace hk:=dw hk h16;refine T.skip (K.seq (T.region ?_));refine kg ?_;refine jk ?_;rw [←hn7] at hk;refine iX ?_;exact K.next ((i_8+1),(nth bids i_8).Bidder) hk b3 (.c (.c (.c (.c (.c (.c .nil)))))) (List.Sublist.refl _)
     ·have p9:=of_decide_eq_false h9;rw [fO a7,←hkk7] at hk; (try dsimp only at hk);refine fb ?_;exact lK
   ·rintro _ hk;rw [←hk5] at hk; (try dsimp only at hk);refine kS ?_;obtain rfl:=Option.some.inj hk;exact eo
def zeV (l:List GProduct)(bidders:List GBidder):Option (List Int×Int):=
 (zbr l bidders).bind fun r13=>
 (bif !r13 then
 some ([],2)
 else
 dz (dA l.length 8) <|
 dM (fun (l_2:List Int)=>
 some (l_2,0))
 (fun k3=>
 dN (fun (i_6:Nat) (next5:List Int→Option (List Int×Int)) (l_4:List Int)=>
 dN (fun (i_10:Nat) (next9:List Int→Option (List Int×Int)) (l_8:List Int)=>
 dz (0≤(i_10:Int)∧(i_10:Int)<(l_8.length:Int)) <|
 next9 (l_8.set i_10 (wI ((nth l_8 i_10)+(nth ((nth bidders i_6).Blocks) i_10)))))
 (fun (l_8:List Int)=>
 next5 l_8) ((((nth bidders i_6).Blocks).length) - 0) 0 l_4)
 (fun (l_4:List Int)=>
 k3 l_4) (bidders.length - 0) 0 (List.replicate l.length (0:Int))))
theorem zhb (F0:Frz)(w:World)(hF0:F0.At w)(l:List GProduct)(vl:Value)(hl:SlC F0 vl 5 (l.map df))(bidders:List GBidder)(vbidders:Value)(cbidders:List (List Value))(hbidders:SlD cX F0 vbidders 4 cbidders bidders)(r:List Int×Int)(hr:zeV l bidders=some r):Calls Tryz.prog 67 #[vl,vbidders] w fun e w'=>∃(y:Value),(True)∧e= .returned (.tuple #[y, .int .i64 r.2])∧FxM F0 w (dB []) F0 [.sl y 3 1 r.1.length (r.1.flatMap eI)] w':=by
 have hk:=hr;unfold zeV at hk;haveI:=hl.oneC;haveI:=hbidders.1.oneC;obtain ⟨S0,F1,rfl,hS0,hp0⟩:=eC hF0;rw [zgs];refine dS Tryz.func67 rfl rfl rfl hp0 ?_;refine gI ?_;refine ju ?_;have hq:=dC hk;clear hk;obtain ⟨r13,hr13,hk⟩:=hq; (try dsimp only at hk);refine fa ?_;refine dc (dh rfl rfl rfl (fun w hw=>zcx _ w (hw.fr (i:=0) rfl) l vl hl bidders vbidders cbidders hbidders r13 hr13)) ?_;refine lD ?_;refine T.cond rfl (fun h1=>?_) (fun h1=>?_)
 ·replace hk:=dt hk h1;refine kI ?_;refine K.slNil 3 1 ?_;obtain rfl:=Option.some.inj hk;exact fc rfl rfl rfl (fun w' hw=>⟨(.slice none 0 0),trivial,rfl,dr (hw.pick (idx:=[0,1]) rfl a8) hS0 (Frz.Le.refl _)⟩)
 ·replace hk:=dw hk h1;refine fT ?_;have hq:(dA l.length 8)∧_:=dH hk;clear hk;obtain ⟨g17,hk⟩:=hq; (try dsimp only at hk);refine eA ?_;refine q2Y ?_;have hm16:l.length≤9223372036854775807:=(List.length_map _)▸hl.max;refine dc (gp (n':=l.length) (enc:=eI) (u:=(0:Int)) rfl rfl rfl rfl g17 a8 a8 (fun _=>rfl) rfl) ?_;rintro v17 _ ⟨hv17,rfl⟩;refine kj ?_;intro iv17 hmv17;refine iR ?_;refine cW (dE rfl rfl hbidders.1 hbidders.2.1) ?_;have hm19:bidders.length≤9223372036854775807:=hbidders.2.1▸hbidders.1.max;refine d9 ?_;have hq:=d7 hk;clear hk;obtain ⟨k3,hk3,hk⟩:=hq; (try dsimp only at hk);refine dk (ι:=List Int) (fun z=>[(6,v17)]) (fun z=>[.sl v17 3 1 z.length (z.flatMap eI), .fr F1]) (fun z=>k3 z=some r) ?_ ?_
  ·have hq:=fP hk;clear hk;obtain ⟨f5,kk5,hf5,hkk5,hk⟩:=hq;refine eW ?_;refine T.loop (ι:=Nat×List Int) (fun z=>[(6,v17),(18,vbidders),(19, .int .i64 (bidders.length:Int)),(20, .int .i64 (z.1:Int))]) (fun z=>[.sl v17 3 1 z.2.length (z.2.flatMap eI), .fr F1]) (fun z=>dN f5 kk5 (bidders.length - z.1) z.1 z.2=some r) (fun z=>bidders.length - z.1) (0,(List.replicate l.length (0:Int))) ?_ ?_ ?_ ?_
   ·exact hk
   ·exact jU
   ·exact eT
   ·rintro ⟨i_6,l_4⟩ hk; (try dsimp only at *);refine ff ?_;refine T.cond rfl (fun h7=>?_) (fun h7=>?_)
    ·have p7:=of_decide_eq_true h7;rw [fN a7] at hk;generalize hn5:dN f5 kk5 (bidders.length - (i_6+1)) (i_6+1)=next5 at hk;rw [←hf5] at hk; (try dsimp only at hk);refine iT ?_;refine cW (dq (i:=i_6) rfl rfl rfl hbidders.1 hbidders.2.1 rfl a7) ?_;refine cW (fk 1 (i:=i_6) (j:=0) rfl rfl rfl hbidders.1 hbidders.2.1 a7 rfl (fB (hbidders.2.2 i_6 a7))) ?_;have hd23_3:=(fo (hbidders.2.2 i_6 a7)).2;haveI:=hd23_3.oneC;refine fG ?_;rintro _ _ ⟨g8,rfl,rfl⟩;refine fS ?_;refine eG ?_;refine ga ?_;refine cW (dE rfl rfl hd23_3 (List.length_map _)) ?_;have hm26:((nth bidders i_6).Blocks).length≤9223372036854775807:=(List.length_map _)▸hd23_3.max;refine d9 ?_;have hq:=fP hk;clear hk;obtain ⟨f9,kk9,hf9,hkk9,hk⟩:=hq;refine eW ?_;refine T.pick [1,2] rfl a8 ?_;refine T.loop (ι:=Nat×List Int) (fun z=>[(6,v17),(18,vbidders),(19, .int .i64 (bidders.length:Int)),(20, .int .i64 (i_6:Int)),(25,(nth (nth cbidders i_6) 3)),(26, .int .i64 (((nth bidders i_6).Blocks).length:Int)),(27, .int .i64 (z.1:Int))]) (fun z=>[.sl v17 3 1 z.2.length (z.2.flatMap eI), .fr F1]) (fun z=>dN f9 kk9 ((((nth bidders i_6).Blocks).length) - z.1) z.1 z.2=some r) (fun z=>(((nth bidders i_6).Blocks).length) - z.1) (0,l_4) ?_ ?_ ?_ ?_
     ·exact hk
     ·exact q4N
     ·exact eT
     ·rintro ⟨i_10,l_8⟩ hk; (try dsimp only at *);refine ff ?_;refine T.cond rfl (fun h11=>?_) (fun h11=>?_)
      ·have p11:=of_decide_eq_true h11;rw [fN a7] at hk;generalize hn9:dN f9 kk9 ((((nth bidders i_6).Blocks).length) - (i_10+1)) (i_10+1)=next9 at hk;rw [←hf9] at hk; (try dsimp only at hk);refine kn ?_;refine cW (dq (i:=i_10) rfl rfl rfl hd23_3 (List.length_map _) rfl a7) ?_;refine cW (dP 1 (i:=i_10) (j:=0) rfl rfl rfl hd23_3 a7) ?_;refine jA ?_;have hq:(0≤(i_10:Int)∧(i_10:Int)<(l_8.length:Int))∧_:=dH hk;clear hk;obtain ⟨g34,hk⟩:=hq; (try dsimp only at hk);refine fa ?_;refine cW (dV 0 (i:=i_10) rfl rfl rfl rfl rfl a7) ?_;refine cW (eM 0 rfl rfl rfl a7 (ik (enc:=eI) (i:=i_10) (j:=0) (fun _=>rfl) a7 a8)) ?_;refine dJ ?_;refine cW (dl (v:= .int .i64 (wI ((nth l_8 i_10)+(nth ((nth bidders i_6).Blocks) i_10))))) ?_;refine cW (dV 0 (i:=i_10) rfl rfl rfl rfl rfl a7) ?_;refine dT (eP 0 (k':=(l_8.set i_10 (wI ((nth l_8 i_10)+(nth ((nth bidders i_6).Blocks) i_10)))).length) (l':=(l_8.set i_10 (wI ((nth l_8 i_10)+(nth ((nth bidders i_6).Blocks) i_10)))).flatMap eI) rfl rfl rfl rfl a7 (im (enc:=eI) (xs:=l_8) (i:=i_10) (j:=0) (size:=1) (fun _=>rfl) a7 a8 a7) (io (enc:=eI) (xs:=l_8) (i:=i_10) (j:=0) (size:=1) (x:=(wI ((nth l_8 i_10)+(nth ((nth bidders i_6).Blocks) i_10)))) (fun _=>rfl) a7 a8 a7 rfl) (List.length_set ..)) ?_;refine ez ?_;refine jk ?_;rw [←hn9] at hk;exact K.next ((i_10+1),(l_8.set i_10 (wI ((nth l_8 i_10)+(nth ((nth bidders i_6).Blocks) i_10))))) hk b3 (.c (.c (.c (.c (.c (.c (.c .nil))))))) (List.Sublist.refl _)
      ·have p11:=of_decide_eq_false h11;rw [fO a7,←hkk9] at hk; (try dsimp only at hk);refine q3P ?_;refine kv ?_;rw [←hn5] at hk;exact K.next ((i_6+1),l_8) hk b3 (.c (.c (.c (.c .nil)))) (List.Sublist.refl _)
    ·have p7:=of_decide_eq_false h7;rw [fO a7,←hkk5] at hk; (try dsimp only at hk);refine fb ?_;exact q4P
  ·rintro l_2 hk;rw [←hk3] at hk; (try dsimp only at hk);refine ji ?_;refine ir ?_;obtain rfl:=Option.some.inj hk;exact fc rfl rfl rfl (fun w' hw=>⟨v17,trivial,rfl,dr (hw.pick (idx:=[0,1]) rfl a8) hS0 (Frz.Le.refl _)⟩)
def zeW (l:List GProduct)(blocks:List Int):Option Bool:=
 (zcM l).bind fun r6=>
 some (r6&&(zdg l blocks))
theorem zhe (F0:Frz)(w:World)(hF0:F0.At w)(l:List GProduct)(vl:Value)(hl:SlC F0 vl 5 (l.map df))(blocks:List Int)(vblocks:Value)(hblocks:SlC F0 vblocks 1 (blocks.map eI))(r:Bool)(hr:zeW l blocks=some r):Calls Tryz.prog 241 #[vl,vblocks] w fun e w'=>e= .returned (.bool r)∧Below w.heap.size w w':=by
 have hk:=hr;unfold zeW at hk;haveI:=hl.oneC;haveI:=hblocks.oneC;obtain ⟨S0,F1,rfl,hS0,hp0⟩:=eC hF0;refine dS Tryz.func241 rfl rfl rfl hp0 ?_;refine ff ?_;have hq:=dC hk;clear hk;obtain ⟨r6,hr6,hk⟩:=hq; (try dsimp only at hk);refine dk (ι:=Unit) (fun z=>[(4, .bool (r6&&(zdg l blocks)))]) (fun z=>[.fr F1]) (fun z=>True) ?_ ?_
 ·refine eA ?_;refine dc (dh rfl rfl rfl (fun w hw=>zdP _ w (hw.fr (i:=0) rfl) l vl hl r6 hr6)) ?_;refine ez ?_;refine dJ ?_;refine dm rfl rfl rfl (fun h1=>?_) (fun h1=>?_)
  ·refine ee ?_;refine dc (dh rfl rfl rfl (fun w hw=>zf4 _ w (hw.fr (i:=0) rfl) l vl hl blocks vblocks hblocks)) ?_;refine jV ?_;exact q4J
  ·refine kK ?_;exact q4K
 ·refine mB ?_;obtain rfl:=Option.some.inj hk;exact eo
def zeZ (l:List GProduct)(blocks:List Int):Option (Int×Int):=
 (zeW l blocks).bind fun r8=>
 (bif !r8 then
 some (0,2)
 else
 (zd9 l blocks).bind fun r12=>
 some (r12,0))
theorem zhi (F0:Frz)(w:World)(hF0:F0.At w)(l:List GProduct)(vl:Value)(hl:SlC F0 vl 5 (l.map df))(blocks:List Int)(vblocks:Value)(hblocks:SlC F0 vblocks 1 (blocks.map eI))(r:Int×Int)(hr:zeZ l blocks=some r):Calls Tryz.prog 209 #[vl,vblocks] w fun e w'=>e= .returned (.tuple #[.int .i64 r.1, .int .i64 r.2])∧Below w.heap.size w w':=by
 have hk:=hr;unfold zeZ at hk;haveI:=hl.oneC;haveI:=hblocks.oneC;obtain ⟨S0,F1,rfl,hS0,hp0⟩:=eC hF0;refine dS Tryz.func209 rfl rfl rfl hp0 ?_;refine gI ?_;refine ju ?_;have hq:=dC hk;clear hk;obtain ⟨r8,hr8,hk⟩:=hq; (try dsimp only at hk);refine fa ?_;refine dc (dh rfl rfl rfl (fun w hw=>zhe _ w (hw.fr (i:=0) rfl) l vl hl blocks vblocks hblocks r8 hr8)) ?_;refine lD ?_;refine T.cond rfl (fun h1=>?_) (fun h1=>?_)
 ·replace hk:=dt hk h1;refine kI ?_;obtain rfl:=Option.some.inj hk;exact lS
 ·replace hk:=dw hk h1;refine fT ?_;have hq:=dC hk;clear hk;obtain ⟨r12,hr12,hk⟩:=hq; (try dsimp only at hk);refine fa ?_;refine dc (dh rfl rfl rfl (fun w hw=>zfW _ w (hw.fr (i:=0) rfl) l vl hl blocks vblocks hblocks r12 hr12)) ?_;refine jl ?_;refine ir ?_;obtain rfl:=Option.some.inj hk;exact lS
def zdL (l:List GProduct)(b:GBidder):Option (Gholder×Bool):=
 (zbr l [b]).bind fun r11=>
 (bif !r11 then
 some ((Gholder.mk (GBidder.mk 0 0 0 []) 0),false)
 else
 (zeZ l b.Blocks).bind fun r18=>
 some ((Gholder.mk (GBidder.mk b.ID b.Eligibility b.Waivers b.Blocks) r18.1),decide (r18.2=0)))
theorem zfs (F0:Frz)(w:World)(hF0:F0.At w)(l:List GProduct)(vl:Value)(hl:SlC F0 vl 5 (l.map df))(b:GBidder)(vb_3:Value)(hb_3:SlC F0 vb_3 1 (b.Blocks.map eI))(r:Gholder×Bool)(hr:zdL l b=some r):Calls Tryz.prog 151 #[vl, .agg [.int .i64 b.ID, .int .i64 b.Eligibility, .int .i64 b.Waivers,vb_3].toArray] w fun e w'=>∃(y:Value) (G:Frz),(SlC G y 1 (r.1.Bidder.Blocks.map eI))∧e= .returned (.tuple #[.agg [.int .i64 r.1.Bidder.ID, .int .i64 r.1.Bidder.Eligibility, .int .i64 r.1.Bidder.Waivers,y, .int .i64 r.1.units].toArray, .bool r.2])∧Fx F0 w G w':=by
 have hk:=hr;unfold zdL at hk;haveI:=hl.oneC;haveI:=hb_3.oneC;obtain ⟨S0,F1,rfl,hS0,hp0⟩:=eC hF0;refine dS Tryz.func151 rfl rfl rfl hp0 ?_;refine gN ?_;rintro _ _ ⟨g3,rfl,rfl⟩;refine fG ?_;rintro _ _ ⟨g4,rfl,rfl⟩;refine jp ?_;have hq:=dC hk;clear hk;obtain ⟨r11,hr11,hk⟩:=hq; (try dsimp only at hk);refine eA ?_;refine lf ?_;refine ii ?_;rintro _ _ ⟨g10,rfl,rfl⟩;have hl10:OwnD cX F1.toFrz 4 [[.int .i64 b.ID, .int .i64 b.Eligibility, .int .i64 b.Waivers,vb_3]] [b]:=(fe (OwnD.nil _ _ 4) ⟨_,rfl,hb_3⟩);refine ib (fun w hw=>hw.freezeR (i:=3) (j:=0) a8 rfl rfl) ?_;rintro F2 ⟨le1_2,hz2⟩;refine fD ?_;have hf2:SlD cX F2.toFrz (.slice (some ⟨g10,0,none⟩) 1 1) 4 [[.int .i64 b.ID, .int .i64 b.Eligibility, .int .i64 b.Waivers,vb_3]] [b]:=(SlK.lit hz2 rfl (Nat.le_refl _) a8).toD (OwnD.mono (rep:=cX) (fun _ _ _ _=>GBidder.mono) hl10 le1_2) rfl;refine dc (dh rfl rfl rfl (fun w hw=>zcx _ w (hw.fr (i:=2) rfl) l vl (SlC.mono hl le1_2) [b] (.slice (some ⟨g10,0,none⟩) 1 1) [[.int .i64 b.ID, .int .i64 b.Eligibility, .int .i64 b.Waivers,vb_3]] hf2 r11 hr11)) ?_;refine lD ?_;refine T.cond rfl (fun h1=>?_) (fun h1=>?_)
 ·replace hk:=dt hk h1;refine kJ ?_;refine fS ?_;refine iI ?_;obtain rfl:=Option.some.inj hk;exact fY 0 rfl rfl rfl rfl rfl (fun w' hw=>⟨(.slice none 0 0),F2.toFrz,(SlC.nil _ 1),rfl,dO hw (i:=2) rfl hS0 le1_2⟩)
 ·replace hk:=dw hk h1;refine fT ?_;have hq:=dC hk;clear hk;obtain ⟨r18,hr18,hk⟩:=hq; (try dsimp only at hk);refine eA ?_;refine kY ?_;refine dc (dh rfl rfl rfl (fun w hw=>zhi _ w (hw.fr (i:=2) rfl) l vl (SlC.mono hl le1_2) b.Blocks vb_3 (SlC.mono hb_3 le1_2) r18 hr18)) ?_;refine ez ?_;refine iV ?_;refine eG ?_;refine lf ?_;refine dJ ?_;refine i9 ?_;refine ee ?_;refine fS ?_;refine gJ ?_;obtain rfl:=Option.some.inj hk;exact fY 0 rfl rfl rfl rfl rfl (fun w' hw=>⟨vb_3,F2.toFrz,(SlC.mono hb_3 le1_2),rfl,dO hw (i:=2) rfl hS0 le1_2⟩)
def lR (n:Int)(low:Int)(high:Int):Bool:=
 ((decide (low≤n))&&(decide (n≤high)))
theorem zcQ (F0:Frz)(w:World)(hF0:F0.At w)(n:Int)(low:Int)(high:Int):Calls Tryz.prog 152 #[.int .i64 n, .int .i64 low, .int .i64 high] w fun e w'=>e= .returned (.bool (lR n low high))∧Below w.heap.size w w':=by
 obtain ⟨r,hk⟩:∃r,lR n low high=r:=⟨_,rfl⟩;rw [hk];unfold lR at hk;obtain ⟨S0,F1,rfl,hS0,hp0⟩:=eC hF0;refine dS Tryz.func152 rfl rfl rfl hp0 ?_;refine ff ?_;refine dk (ι:=Unit) (fun z=>[(6, .bool ((decide (low≤n))&&(decide (n≤high))))]) (fun z=>[.fr F1]) (fun z=>True) ?_ ?_
 ·refine lB ?_;refine dm rfl rfl rfl (fun h1=>?_) (fun h1=>?_)
  ·have p1:=of_decide_eq_true h1;refine kK ?_;exact q4J
  ·have p1:=of_decide_eq_false h1;refine kK ?_;exact q4K
 ·refine mB ?_;subst hk;exact eo
def zbT (h_:Gholder)(l:List GProduct)(product:Int):Option Int:=
 dz (0≤product∧product<(l.length:Int)) <|
 dz (0≤product∧product<(h_.Bidder.Blocks.length:Int)) <|
 dz (0≤wI (h_.Bidder.Eligibility - h_.units)∧wI (h_.Bidder.Eligibility - h_.units)≤9223372036854775807∧1≤(nth l product.toNat).Units) <|
 some (min (wI (((nth l product.toNat).Supply) - (nth h_.Bidder.Blocks product.toNat))) ((wI (h_.Bidder.Eligibility - h_.units)) / ((nth l product.toNat).Units)))
theorem zdK (F0:Frz)(w:World)(hF0:F0.At w)(h_:Gholder)(vh__3:Value)(hh__3:SlC F0 vh__3 1 (h_.Bidder.Blocks.map eI))(l:List GProduct)(vl:Value)(hl:SlC F0 vl 5 (l.map df))(product:Int)(r:Int)(hr:zbT h_ l product=some r):Calls Tryz.prog 153 #[.agg [.int .i64 h_.Bidder.ID, .int .i64 h_.Bidder.Eligibility, .int .i64 h_.Bidder.Waivers,vh__3, .int .i64 h_.units].toArray,vl, .int .i64 product] w fun e w'=>e= .returned (.int .i64 r)∧Below w.heap.size w w':=by
 have hk:=hr;unfold zbT at hk;haveI:=hh__3.oneC;haveI:=hl.oneC;obtain ⟨S0,F1,rfl,hS0,hp0⟩:=eC hF0;refine dS Tryz.func153 rfl rfl rfl hp0 ?_;refine gN ?_;rintro _ _ ⟨g3,rfl,rfl⟩;refine fV ?_;have hq:(0≤product∧product<(l.length:Int))∧_:=dH hk;clear hk;obtain ⟨g10,hk⟩:=hq; (try dsimp only at hk);refine fa ?_;refine cW (dq (i:=product.toNat) rfl rfl rfl hl (List.length_map _) a7 a7) ?_;refine cW (iM 1 (i:=product.toNat) rfl rfl rfl hl a7) ?_;refine fG ?_;rintro _ _ ⟨g7,rfl,rfl⟩;refine fS ?_;refine ft ?_;have hq:(0≤product∧product<(h_.Bidder.Blocks.length:Int))∧_:=dH hk;clear hk;obtain ⟨g18,hk⟩:=hq;have hq:(0≤wI (h_.Bidder.Eligibility - h_.units)∧wI (h_.Bidder.Eligibility - h_.units)≤9223372036854775807∧1≤(nth l product.toNat).Units)∧_:=dH hk;clear hk;obtain ⟨g29,hk⟩:=hq; (try dsimp only at hk);refine d5 (sN 0 19 (.still 19 .done)) _ a9 (List.Sublist.refl _) ?_;refine ia ?_;refine jt ?_;refine kF ?_;refine gv ?_;refine c9 rfl (dq (i:=product.toNat) rfl rfl rfl hh__3 (List.length_map _) a7 a7) ?_;refine c9 rfl (dP 2 (i:=product.toNat) (j:=0) rfl rfl rfl hh__3 a7) ?_;refine c9 rfl (dl (v:= .int .i64 (wI (((nth l product.toNat).Supply) - (nth h_.Bidder.Blocks product.toNat))))) ?_;refine jt ?_;refine kF ?_;refine kF ?_;refine c9 rfl (dl (v:= .int .i64 (wI (h_.Bidder.Eligibility - h_.units)))) ?_;refine ia ?_;refine c9 rfl (fZ (a:=wI (h_.Bidder.Eligibility - h_.units)) (b:=(nth l product.toNat).Units) rfl rfl rfl g29) ?_;refine c9 rfl (Yv.min2 rfl rfl rfl) ?_;refine q4l ?_;obtain rfl:=Option.some.inj hk;exact eo
def zeM (l:List GProduct)(total:List Int):Option (List Int×Int):=
 (zcM l).bind fun r10=>
 (bif ((!r10)||(decide (¬(total.length:Int)=(l.length:Int)))) then
 some ([],2)
 else
 dz (dA l.length 8) <|
 dM (fun (l_3:List Int)=>
 some (l_3,0))
 (fun k4=>
 dN (fun (i_7:Nat) (next6:List Int→Option (List Int×Int)) (l_5:List Int)=>
 (bif ((decide ((nth total i_7)<0))||(decide (384<(nth total i_7)))) then
 some ([],2)
 else
 dz (0≤(i_7:Int)∧(i_7:Int)<(l_5.length:Int)) <|
 next6 (l_5.set i_7 (max (wI ((nth total i_7) - ((nth l i_7).Supply))) 0))))
 (fun (l_5:List Int)=>
 k4 l_5) (total.length - 0) 0 (List.replicate l.length (0:Int))))
theorem zg0 (F0:Frz)(w:World)(hF0:F0.At w)(l:List GProduct)(vl:Value)(hl:SlC F0 vl 5 (l.map df))(total:List Int)(vtotal:Value)(htotal:SlC F0 vtotal 1 (total.map eI))(r:List Int×Int)(hr:zeM l total=some r):Calls Tryz.prog 114 #[vl,vtotal] w fun e w'=>∃(y:Value) (G:Frz),(SlC G y 1 (r.1.map eI))∧e= .returned (.tuple #[y, .int .i64 r.2])∧Fx F0 w G w':=by
 have hk:=hr;unfold zeM at hk;haveI:=hl.oneC;haveI:=htotal.oneC;obtain ⟨S0,F1,rfl,hS0,hp0⟩:=eC hF0;refine dS Tryz.func114 rfl rfl rfl hp0 ?_;refine gI ?_;refine ju ?_;have hq:=dC hk;clear hk;obtain ⟨r10,hr10,hk⟩:=hq; (try dsimp only at hk);refine dk (ι:=Unit) (fun z=>[(0,vl),(1,vtotal),(18, .bool ((!r10)||(decide (¬(total.length:Int)=(l.length:Int)))))]) (fun z=>[.fr F1]) (fun z=>True) ?_ ?_
 ·refine eA ?_;refine dc (dh rfl rfl rfl (fun w hw=>zdP _ w (hw.fr (i:=0) rfl) l vl hl r10 hr10)) ?_;refine jl ?_;refine dm rfl rfl rfl (fun h1=>?_) (fun h1=>?_)
  ·refine TL.run 6 rfl ?_;refine fH ?_;exact de () trivial (.c (.c (.b (gg h1).symm .nil))) (List.Sublist.refl _)
  ·refine dJ ?_;refine cW (dE rfl rfl htotal (List.length_map _)) ?_;have hm14:total.length≤9223372036854775807:=(List.length_map _)▸htotal.max;refine dJ ?_;refine q2Y ?_;have hm16:l.length≤9223372036854775807:=(List.length_map _)▸hl.max;refine jh ?_;exact de () trivial (.c (.c (.b (gx h1) .nil))) (List.Sublist.refl _)
 ·rintro _ _;have hm14:total.length≤9223372036854775807:=(List.length_map _)▸htotal.max;have hm16:l.length≤9223372036854775807:=(List.length_map _)▸hl.max;refine T.cond rfl (fun h2=>?_) (fun h2=>?_)
  ·replace hk:=dt hk h2;refine kI ?_;obtain rfl:=Option.some.inj hk;exact q40
  ·have p2:=h2; (try simp only [iS] at p2);replace hk:=dw hk h2;refine fT ?_;have hq:(dA l.length 8)∧_:=dH hk;clear hk;obtain ⟨g21,hk⟩:=hq; (try dsimp only at hk);refine eA ?_;refine q2Y ?_;refine dc (gp (n':=l.length) (enc:=eI) (u:=(0:Int)) rfl rfl rfl rfl g21 a8 a8 (fun _=>rfl) rfl) ?_;rintro v21 _ ⟨hv21,rfl⟩;refine kj ?_;intro iv21 hmv21;refine iR ?_;refine cW (dE rfl rfl htotal (List.length_map _)) ?_;refine d9 ?_;have hq:=d7 hk;clear hk;obtain ⟨k4,hk4,hk⟩:=hq; (try dsimp only at hk);refine dk (ι:=List Int) (fun z=>[(6,v21)]) (fun z=>[.sl v21 3 1 z.length (z.flatMap eI), .fr F1]) (fun z=>k4 z=some r) ?_ ?_
   ·have hq:=fP hk;clear hk;obtain ⟨f6,kk6,hf6,hkk6,hk⟩:=hq;refine eW ?_;refine T.loop (ι:=Nat×List Int) (fun z=>[(0,vl),(6,v21),(22,vtotal),(23, .int .i64 (total.length:Int)),(24, .int .i64 (z.1:Int))]) (fun z=>[.sl v21 3 1 z.2.length (z.2.flatMap eI), .fr F1]) (fun z=>dN f6 kk6 (total.length - z.1) z.1 z.2=some r) (fun z=>total.length - z.1) (0,(List.replicate l.length (0:Int))) ?_ ?_ ?_ ?_
    ·exact hk
    ·exact jM
    ·exact eT
    ·rintro ⟨i_7,l_5⟩ hk; (try dsimp only at *);refine ff ?_;refine T.cond rfl (fun h8=>?_) (fun h8=>?_)
     ·have p8:=of_decide_eq_true h8;rw [fN a7] at hk;generalize hn6:dN f6 kk6 (total.length - (i_7+1)) (i_7+1)=next6 at hk;rw [←hf6] at hk; (try dsimp only at hk);refine kn ?_;refine cW (dq (i:=i_7) rfl rfl rfl htotal (List.length_map _) rfl a7) ?_;refine cW (dP 1 (i:=i_7) (j:=0) rfl rfl rfl htotal a7) ?_;refine ee ?_;refine ju ?_;refine dk (ι:=Unit) (fun z=>[(0,vl),(6,v21),(7, .int .i64 (i_7:Int)),(8, .int .i64 (nth total i_7)),(22,vtotal),(23, .int .i64 (total.length:Int)),(24, .int .i64 (i_7:Int)),(34, .bool ((decide ((nth total i_7)<0))||(decide (384<(nth total i_7)))))]) (fun z=>[.sl v21 3 1 l_5.length (l_5.flatMap eI), .fr F1]) (fun z=>True) ?_ ?_
      ·refine gQ ?_;refine dm rfl rfl rfl (fun h9=>?_) (fun h9=>?_)
       ·have p9:=of_decide_eq_true h9;refine j8 ?_;exact de () trivial (.c (.c (.c (.c (.c (.c (.c (.b (gg h9).symm .nil)))))))) (List.Sublist.refl _)
       ·have p9:=of_decide_eq_false h9;refine j8 ?_;exact de () trivial (.c (.c (.c (.c (.c (.c (.c (.b (gx h9) .nil)))))))) (List.Sublist.refl _)
      ·rintro _ _;refine T.cond rfl (fun h10=>?_) (fun h10=>?_)
       ·replace hk:=dt hk h10;refine gI ?_;refine q0K ?_;obtain rfl:=Option.some.inj hk;exact fc rfl rfl rfl (fun w' hw=>⟨(.slice none 0 0),F1.toFrz,(SlC.nil _ 1),rfl,dO hw (i:=1) rfl hS0 (Frz.Le.refl _)⟩)
       ·have p10:=h10; (try simp only [iS] at p10);replace hk:=dw hk h10;refine T.skip (K.seq ?_);have hq:(0≤(i_7:Int)∧(i_7:Int)<(l_5.length:Int))∧_:=dH hk;clear hk;obtain ⟨g45,hk⟩:=hq; (try dsimp only at hk);refine fg ?_;refine iV ?_;refine cW (dq (i:=i_7) rfl rfl rfl hl (List.length_map _) rfl a7) ?_;refine cW (fv rfl rfl hl (List.length_map _) a7) ?_;refine cW (dP 1 (i:=i_7) (j:=2) rfl rfl rfl hl a7) ?_;refine cW (dl (v:= .int .i64 (wI ((nth total i_7) - ((nth l i_7).Supply))))) ?_;refine cW (Yv.max2 rfl rfl rfl) ?_;refine cW (dV 0 (i:=i_7) rfl rfl rfl rfl rfl a7) ?_;refine dT (eP 0 (k':=(l_5.set i_7 (max (wI ((nth total i_7) - ((nth l i_7).Supply))) 0)).length) (l':=(l_5.set i_7 (max (wI ((nth total i_7) - ((nth l i_7).Supply))) 0)).flatMap eI) rfl rfl rfl rfl a7 (im (enc:=eI) (xs:=l_5) (i:=i_7) (j:=0) (size:=1) (fun _=>rfl) a7 a8 a7) (io (enc:=eI) (xs:=l_5) (i:=i_7) (j:=0) (size:=1) (x:=(max (wI ((nth total i_7) - ((nth l i_7).Supply))) 0)) (fun _=>rfl) a7 a8 a7 rfl) (List.length_set ..)) ?_;refine ez ?_;refine jk ?_;rw [←hn6] at hk;exact K.next ((i_7+1),(l_5.set i_7 (max (wI ((nth total i_7) - ((nth l i_7).Supply))) 0))) hk b3 (.c (.c (.c (.c (.c .nil))))) (List.Sublist.refl _)
     ·have p8:=of_decide_eq_false h8;rw [fO a7,←hkk6] at hk; (try dsimp only at hk);refine fb ?_;exact de l_5 hk (.c .nil) (List.Sublist.refl _)
   ·rintro l_3 hk;rw [←hk4] at hk; (try dsimp only at hk);refine ji ?_;refine q2j ?_;rintro F2 ⟨le1_2,hz2⟩;refine fD ?_;have hfF2:=hz2.toF rfl (fun _=>rfl);haveI:=hfF2.oneC;obtain rfl:=Option.some.inj hk;exact fc rfl rfl rfl (fun w' hw=>⟨v21,F2.toFrz,hfF2,rfl,dO hw (i:=0) rfl hS0 le1_2⟩)
def zdz (eligibility:Int)(percent:Int):Option (Int×Int):=
 (bif ((!(lR eligibility 0 76800000))||(!(lR percent 1 100))) then
 some (0,2)
 else
 dz (0≤wI ((wI (eligibility*percent))+99)∧wI ((wI (eligibility*percent))+99)≤9223372036854775807∧1≤(100:Int)) <|
 some (((wI ((wI (eligibility*percent))+99)) / 100),0))
theorem zf0 (F0:Frz)(w:World)(hF0:F0.At w)(eligibility:Int)(percent:Int)(r:Int×Int)(hr:zdz eligibility percent=some r):Calls Tryz.prog 240 #[.int .i64 eligibility, .int .i64 percent] w fun e w'=>e= .returned (.tuple #[.int .i64 r.1, .int .i64 r.2])∧Below w.heap.size w w':=by
 have hk:=hr;unfold zdz at hk;obtain ⟨S0,F1,rfl,hS0,hp0⟩:=eC hF0;refine dS Tryz.func240 rfl rfl rfl hp0 ?_;refine gI ?_;refine ju ?_;refine dk (ι:=Unit) (fun z=>[(0, .int .i64 eligibility),(1, .int .i64 percent),(13, .bool ((!(lR eligibility 0 76800000))||(!(lR percent 1 100))))]) (fun z=>[.fr F1]) (fun z=>True) ?_ ?_
 ·refine eA ?_;refine dc (dh rfl rfl rfl (fun w hw=>zcQ _ w (hw.fr (i:=0) rfl) eligibility 0 76800000)) ?_;refine jl ?_;refine dm rfl rfl rfl (fun h1=>?_) (fun h1=>?_)
  ·refine iZ ?_;exact de () trivial (.c (.c (.b (gg h1).symm .nil))) (List.Sublist.refl _)
  ·refine dJ ?_;refine dc (dh rfl rfl rfl (fun w hw=>zcQ _ w (hw.fr (i:=0) rfl) percent 1 100)) ?_;refine jV ?_;exact de () trivial (.c (.c (.b (gx h1) .nil))) (List.Sublist.refl _)
 ·rintro _ _;refine T.cond rfl (fun h2=>?_) (fun h2=>?_)
  ·replace hk:=dt hk h2;refine kI ?_;obtain rfl:=Option.some.inj hk;exact lS
  ·replace hk:=dw hk h2;refine fT ?_;have hq:(0≤wI ((wI (eligibility*percent))+99)∧wI ((wI (eligibility*percent))+99)≤9223372036854775807∧1≤(100:Int))∧_:=dH hk;clear hk;obtain ⟨g18,hk⟩:=hq; (try dsimp only at hk);refine lB ?_;refine cW (fZ rfl rfl rfl g18) ?_;refine ld ?_;obtain rfl:=Option.some.inj hk;exact lS
def zeC (eligibility:Int)(waivers:Int)(activity:Int)(percent:Int):Option (Int×Int×Int):=
 (zdz eligibility percent).bind fun r16=>
 (bif (((decide (¬r16.2=0))||(!(lR waivers 0 3)))||(!(lR activity 0 eligibility))) then
 some (0,0,2)
 else
 (bif decide (r16.1≤activity) then
 some (eligibility,waivers,0)
 else
 (bif decide (0<waivers) then
 some (eligibility,wI (waivers - 1),0)
 else
 dz (0≤wI (activity*100)∧wI (activity*100)≤9223372036854775807∧1≤percent) <|
 some (((wI (activity*100)) / percent),0,0))))
theorem zg2 (F0:Frz)(w:World)(hF0:F0.At w)(eligibility:Int)(waivers:Int)(activity:Int)(percent:Int)(r:Int×Int×Int)(hr:zeC eligibility waivers activity percent=some r):Calls Tryz.prog 208 #[.int .i64 eligibility, .int .i64 waivers, .int .i64 activity, .int .i64 percent] w fun e w'=>e= .returned (.tuple #[.int .i64 r.1, .int .i64 r.2.1, .int .i64 r.2.2])∧Below w.heap.size w w':=by
 have hk:=hr;unfold zeC at hk;obtain ⟨S0,F1,rfl,hS0,hp0⟩:=eC hF0;refine dS Tryz.func208 rfl rfl rfl hp0 ?_;refine ji ?_;refine ft ?_;have hq:=dC hk;clear hk;obtain ⟨r16,hr16,hk⟩:=hq; (try dsimp only at hk);refine fa ?_;refine dc (dh rfl rfl rfl (fun w hw=>zf0 _ w (hw.fr (i:=0) rfl) eligibility percent r16 hr16)) ?_;refine ez ?_;refine iV ?_;refine ju ?_;refine dk (ι:=Unit) (fun z=>[(0, .int .i64 eligibility),(1, .int .i64 waivers),(2, .int .i64 activity),(3, .int .i64 percent),(11, .int .i64 r16.1),(31, .bool (((decide (¬r16.2=0))||(!(lR waivers 0 3)))||(!(lR activity 0 eligibility))))]) (fun z=>[.fr F1]) (fun z=>True) ?_ ?_
 ·refine gQ ?_;refine dm rfl rfl rfl (fun h1=>?_) (fun h1=>?_)
  ·have p1:=of_decide_eq_true h1;refine q3V ?_;exact de () trivial (.c (.c (.c (.c (.c (.b (gg (gg h1)).symm .nil)))))) (List.Sublist.refl _)
  ·have p1:=of_decide_eq_false h1;refine dJ ?_;refine dc (dh rfl rfl rfl (fun w hw=>zcQ _ w (hw.fr (i:=0) rfl) waivers 0 3)) ?_;refine ez ?_;refine gf ?_;refine dm rfl rfl rfl (fun h2=>?_) (fun h2=>?_)
   ·refine kK ?_;exact de () trivial (.c (.c (.c (.c (.c (.b (gg (iP h1 h2)).symm .nil)))))) (List.Sublist.refl _)
   ·refine ee ?_;refine dc (dh rfl rfl rfl (fun w hw=>zcQ _ w (hw.fr (i:=0) rfl) activity 0 eligibility)) ?_;refine jV ?_;exact de () trivial (.c (.c (.c (.c (.c (.b (gx (iP h1 h2)) .nil)))))) (List.Sublist.refl _)
 ·rintro _ _;refine T.cond rfl (fun h3=>?_) (fun h3=>?_)
  ·replace hk:=dt hk h3;refine ji ?_;refine jX ?_;obtain rfl:=Option.some.inj hk;exact q4U
  ·have p3:=h3; (try simp only [iS] at p3);replace hk:=dw hk h3;refine iT ?_;refine ks ?_;refine dW ?_;refine T.cond rfl (fun h4=>?_) (fun h4=>?_)
   ·have p4:=of_decide_eq_true h4;replace hk:=dt hk h4;refine ey ?_;refine iV ?_;refine q4j ?_;obtain rfl:=Option.some.inj hk;exact q4U
   ·have p4:=of_decide_eq_false h4;replace hk:=dw hk h4;refine ji ?_;refine dW ?_;refine T.cond rfl (fun h5=>?_) (fun h5=>?_)
    ·have p5:=of_decide_eq_true h5;replace hk:=dt hk h5;refine ey ?_;refine TL.run 6 rfl ?_;refine q4j ?_;obtain rfl:=Option.some.inj hk;exact q4U
    ·have p5:=of_decide_eq_false h5;replace hk:=dw hk h5;refine T.skip (fF (K.seq (T.seq ?_)));have hq:(0≤wI (activity*100)∧wI (activity*100)≤9223372036854775807∧1≤percent)∧_:=dH hk;clear hk;obtain ⟨g47,hk⟩:=hq; (try dsimp only at hk);refine gQ ?_;refine cW (fZ rfl rfl rfl g47) ?_;refine gf ?_;refine ir ?_;obtain rfl:=Option.some.inj hk;exact q4U
def zd5 (l:List GProduct)(b:GBidder)(percent:Int):Option (GBidder×Int):=
 (zdL l b).bind fun r16=>
 (bif !r16.2 then
 some ((GBidder.mk 0 0 0 []),2)
 else
 (zeC r16.1.Bidder.Eligibility r16.1.Bidder.Waivers r16.1.units percent).bind fun r32=>
 (bif decide (¬r32.2.2=0) then
 some ((GBidder.mk 0 0 0 []),r32.2.2)
 else
 dz (dA r16.1.Bidder.Blocks.length 8) <|
 some ((GBidder.mk r16.1.Bidder.ID r32.1 r32.2.1 r16.1.Bidder.Blocks),0)))
theorem ze7 (F0:Frz)(w:World)(hF0:F0.At w)(l:List GProduct)(vl:Value)(hl:SlC F0 vl 5 (l.map df))(b:GBidder)(vb_3:Value)(hb_3:SlC F0 vb_3 1 (b.Blocks.map eI))(percent:Int)(r:GBidder×Int)(hr:zd5 l b percent=some r):Calls Tryz.prog 150 #[vl, .agg [.int .i64 b.ID, .int .i64 b.Eligibility, .int .i64 b.Waivers,vb_3].toArray, .int .i64 percent] w fun e w'=>∃(y:Value) (G:Frz),(SlC G y 1 (r.1.Blocks.map eI))∧e= .returned (.tuple #[.agg [.int .i64 r.1.ID, .int .i64 r.1.Eligibility, .int .i64 r.1.Waivers,y].toArray, .int .i64 r.2])∧Fx F0 w G w':=by
 have hk:=hr;unfold zd5 at hk;haveI:=hl.oneC;haveI:=hb_3.oneC;obtain ⟨S0,F1,rfl,hS0,hp0⟩:=eC hF0;refine dS Tryz.func150 rfl rfl rfl hp0 ?_;refine gN ?_;rintro _ _ ⟨g4,rfl,rfl⟩;refine fG ?_;rintro _ _ ⟨g6,rfl,rfl⟩;refine fV ?_;have hq:=dC hk;clear hk;obtain ⟨r16,hr16,hk⟩:=hq; (try dsimp only at hk);refine eA ?_;refine lf ?_;refine dc (dp 2 rfl rfl rfl rfl (fun w hw hF=>zfs _ w hF l vl hl b vb_3 hb_3 r16 hr16)) ?_;rintro _ _ ⟨v16_0_3,F2,le1_2,hf16_0_3,rfl,rfl⟩;haveI:=hf16_0_3.oneC;refine lG ?_;rintro _ _ ⟨g8,rfl,rfl⟩;refine fS ?_;refine kp ?_;refine T.cond rfl (fun h1=>?_) (fun h1=>?_)
 ·replace hk:=dt hk h1;refine kJ ?_;refine kM ?_;refine iI ?_;obtain rfl:=Option.some.inj hk;exact q5e
 ·replace hk:=dw hk h1;refine fT ?_;have hq:=dC hk;clear hk;obtain ⟨r32,hr32,hk⟩:=hq; (try dsimp only at hk);refine q4f ?_;refine ga ?_;refine fL ?_;refine ga ?_;refine kg ?_;refine dc (dh rfl rfl rfl (fun w hw=>zg2 _ w (hw.fr (i:=3) rfl) r16.1.Bidder.Eligibility r16.1.Bidder.Waivers r16.1.units percent r32 hr32)) ?_;refine ez ?_;refine TL.run 7 rfl ?_;refine q4d ?_;refine T.cond rfl (fun h2=>?_) (fun h2=>?_)
  ·have p2:=of_decide_eq_true h2;replace hk:=dt hk h2;refine kJ ?_;refine dJ ?_;refine kM ?_;refine iI ?_;obtain rfl:=Option.some.inj hk;exact q5e
  ·have p2:=of_decide_eq_false h2;replace hk:=dw hk h2;refine fT ?_;have hq:(dA r16.1.Bidder.Blocks.length 8)∧_:=dH hk;clear hk;obtain ⟨g48,hk⟩:=hq; (try dsimp only at hk);refine d5 (sN 0 8 (.eff 8 (.still 9 (.eff 10 (.still 11 .done))))) [.row g8 199 [.int .i64 r16.1.Bidder.ID, .int .i64 r16.1.Bidder.Eligibility, .int .i64 r16.1.Bidder.Waivers,v16_0_3, .int .i64 r16.1.units], .row g4 57 [.int .i64 b.ID, .int .i64 b.Eligibility, .int .i64 b.Waivers,vb_3], .fr F2] a9 Sx ?_;refine jt ?_;refine ia ?_;refine lF ?_;refine ia ?_;refine dZ ?_;refine di rfl (cZ) rfl rfl (dp 3 rfl rfl rfl rfl (fun w hw hF=>zgY _ w hF r16.1.Bidder.Blocks v16_0_3 hf16_0_3 g48)) ?_;rintro _ _ ⟨v48_,F3,le2_3,hf48,hq,rfl⟩;obtain rfl:=hq.symm;have le1_3:=le1_2.trans le2_3;haveI:=hf48.oneC;refine ⟨(fun w hw=>(hw.frLe (i:=3) rfl le2_3).sub Sx),?_⟩;refine c9 rfl (Yv.build rfl rfl) ?_;refine q2u ?_;refine ⟨(fun w hw=>(hw.frLe (i:=3) rfl le2_3).sub Sx),?_⟩;refine q4l ?_;obtain rfl:=Option.some.inj hk;exact fY 1 rfl rfl rfl rfl rfl (fun w' hw=>⟨v48_,F3.toFrz,hf48,rfl,dO hw (i:=3) rfl hS0 le1_3⟩)
def zen (l:List GProduct)(b:GBidder)(product:Int)(change:Int):Option (Int×Int):=
 (zdL l b).bind fun r15=>
 (bif ((!r15.2)||(!(lR product 0 (wI ((l.length:Int) - 1))))) then
 some (0,2)
 else
 (bif decide (0<change) then
 (zbT r15.1 l product).bind fun r34=>
 some ((min change r34),0)
 else
 dz (0≤product∧product<(r15.1.Bidder.Blocks.length:Int)) <|
 some ((max change (wI (0 - (nth r15.1.Bidder.Blocks product.toNat)))),0)))
theorem zgB (F0:Frz)(w:World)(hF0:F0.At w)(l:List GProduct)(vl:Value)(hl:SlC F0 vl 5 (l.map df))(b:GBidder)(vb_3:Value)(hb_3:SlC F0 vb_3 1 (b.Blocks.map eI))(product:Int)(change:Int)(r:Int×Int)(hr:zen l b product change=some r):Calls Tryz.prog 207 #[vl, .agg [.int .i64 b.ID, .int .i64 b.Eligibility, .int .i64 b.Waivers,vb_3].toArray, .int .i64 product, .int .i64 change] w fun e w'=>e= .returned (.tuple #[.int .i64 r.1, .int .i64 r.2])∧Below w.heap.size w w':=by
 have hk:=hr;unfold zen at hk;haveI:=hl.oneC;haveI:=hb_3.oneC;obtain ⟨S0,F1,rfl,hS0,hp0⟩:=eC hF0;refine dS Tryz.func207 rfl rfl rfl hp0 ?_;refine gN ?_;rintro _ _ ⟨g5,rfl,rfl⟩;refine ee ?_;refine ft ?_;have hq:=dC hk;clear hk;obtain ⟨r15,hr15,hk⟩:=hq; (try dsimp only at hk);refine eA ?_;refine jL ?_;refine dc (dp 1 rfl rfl rfl rfl (fun w hw hF=>zfs _ w hF l vl hl b vb_3 hb_3 r15 hr15)) ?_;rintro _ _ ⟨v15_0_3,F2,le1_2,hf15_0_3,rfl,rfl⟩;haveI:=hf15_0_3.oneC;refine lG ?_;rintro _ _ ⟨g10,rfl,rfl⟩;refine fS ?_;refine jp ?_;refine dk (ι:=Unit) (fun z=>[(0,vl),(2, .int .i64 product),(3, .int .i64 change),(10, .pointer (some ⟨g10,0,none⟩)),(27, .bool ((!r15.2)||(!(lR product 0 (wI ((l.length:Int) - 1))))))]) (fun z=>[.row g10 199 [.int .i64 r15.1.Bidder.ID, .int .i64 r15.1.Bidder.Eligibility, .int .i64 r15.1.Bidder.Waivers,v15_0_3, .int .i64 r15.1.units], .row g5 57 [.int .i64 b.ID, .int .i64 b.Eligibility, .int .i64 b.Waivers,vb_3], .fr F2]) (fun z=>True) ?_ ?_
 ·refine gQ ?_;refine dm rfl rfl rfl (fun h1=>?_) (fun h1=>?_)
  ·refine TL.run 7 rfl ?_;refine fH ?_;exact de () trivial (.c (.c (.c (.c (.b (gg h1).symm .nil))))) (List.Sublist.refl _)
  ·refine ee ?_;refine cW (dE rfl rfl (SlC.mono hl le1_2) (List.length_map _)) ?_;have hm23:l.length≤9223372036854775807:=(List.length_map _)▸(SlC.mono hl le1_2).max;refine iH ?_;refine dc (dh rfl rfl rfl (fun w hw=>zcQ _ w (hw.fr (i:=2) rfl) product 0 ((l.length:Int) - 1))) ?_;refine jV ?_;exact de () trivial (.c (.c (.c (.c (.b (Eq.trans (congrArg not (by rw [show wI ((l.length:Int) - 1)=((l.length:Int) - 1) from IntWalk.i64_in _ a7])) (gx h1)) .nil))))) (List.Sublist.refl _)
 ·rintro _ _;refine T.cond rfl (fun h2=>?_) (fun h2=>?_)
  ·replace hk:=dt hk h2;refine kI ?_;obtain rfl:=Option.some.inj hk;exact lS
  ·replace hk:=dw hk h2;refine jP ?_;refine jA ?_;refine T.cond rfl (fun h3=>?_) (fun h3=>?_)
   ·have p3:=of_decide_eq_true h3;replace hk:=dt hk h3;refine T.seq ?_;have hq:=dC hk;clear hk;obtain ⟨r34,hr34,hk⟩:=hq; (try dsimp only at hk);refine eA ?_;refine jL ?_;refine ee ?_;refine dc (dh rfl rfl rfl (fun w hw=>zdK _ w (hw.fr (i:=2) rfl) r15.1 v15_0_3 hf15_0_3 l vl (SlC.mono hl le1_2) product r34 hr34)) ?_;refine ez ?_;refine cW (Yv.min2 rfl rfl rfl) ?_;refine ee ?_;refine jX ?_;obtain rfl:=Option.some.inj hk;exact lS
   ·have p3:=of_decide_eq_false h3;replace hk:=dw hk h3;refine fT ?_;have hq:(0≤product∧product<(r15.1.Bidder.Blocks.length:Int))∧_:=dH hk;clear hk;obtain ⟨g41,hk⟩:=hq; (try dsimp only at hk);refine eA ?_;refine fL ?_;refine kg ?_;refine cW (dq (i:=product.toNat) rfl rfl rfl hf15_0_3 (List.length_map _) a7 a7) ?_;refine cW (dP 2 (i:=product.toNat) (j:=0) rfl rfl rfl hf15_0_3 a7) ?_;refine q4o ?_;refine cW (Yv.max2 rfl rfl rfl) ?_;refine ld ?_;obtain rfl:=Option.some.inj hk;exact lS
end Go.Proofs.YtmnjbhkcfghebaaGreatDoor
