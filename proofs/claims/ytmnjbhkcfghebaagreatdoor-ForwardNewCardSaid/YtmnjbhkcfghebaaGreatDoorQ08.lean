/- Yc: shortened and put together by squeeze.py. -/
import Derived.Test.YtmnjbhkcfghebaaGreatDoorQ07
set_option maxRecDepth 100000
set_option maxHeartbeats 4000000
set_option linter.unusedVariables false
set_option linter.unusedSectionVars false
set_option linter.unusedSimpArgs false
namespace Go.Proofs.YtmnjbhkcfghebaaGreatDoor
open Go.RowKit
structure Gholder where
 Bidder:GBidder
 units:Int
deriving DecidableEq,Inhabited
def d9 (F:Frz)(c:List Value)(x:Gholder):Prop:=∃(v3:Value),c=[.int .i64 x.Bidder.ID, .int .i64 x.Bidder.Eligibility, .int .i64 x.Bidder.Waivers,v3, .int .i64 x.units]∧SlC F v3 1 (x.Bidder.Blocks.map eI)
theorem Gholder.mono {F G:Frz}{c:List Value}{x:Gholder}(hle:F.Le G)(h:d9 F c x):d9 G c x:=by
 obtain ⟨v3,h0,h4⟩:=h;exact ⟨v3,h0,h4.mono hle⟩
theorem Gholder.len {F:Frz}{c:List Value}{x:Gholder}(h:d9 F c x):c.length=5:=by
 obtain ⟨v3,h0,h4⟩:=h;subst h0;rfl
theorem Gholder.one {F:Frz}{c:List Value}{x:Gholder}(h:d9 F c x):OneCs c:=by
 obtain ⟨v3,h0,h4⟩:=h;subst h0;haveI:=h4.oneC
 infer_instance
theorem Gholder.c0 {F:Frz}{c:List Value}{x:Gholder}(h:d9 F c x):c[0]?=some (.int .i64 x.Bidder.ID):=by
 obtain ⟨v3,h0,h4⟩:=h;subst h0;rfl
theorem Gholder.c1 {F:Frz}{c:List Value}{x:Gholder}(h:d9 F c x):c[1]?=some (.int .i64 x.Bidder.Eligibility):=by
 obtain ⟨v3,h0,h4⟩:=h;subst h0;rfl
theorem Gholder.c2 {F:Frz}{c:List Value}{x:Gholder}(h:d9 F c x):c[2]?=some (.int .i64 x.Bidder.Waivers):=by
 obtain ⟨v3,h0,h4⟩:=h;subst h0;rfl
theorem Gholder.c3 {F:Frz}{c:List Value}{x:Gholder}(h:d9 F c x):c[3]?=some (cS c 3)∧SlC F (cS c 3) 1 (x.Bidder.Blocks.map eI):=by
 obtain ⟨v3,h0,h4⟩:=h;subst h0;exact ⟨rfl,h4⟩
theorem Gholder.c4 {F:Frz}{c:List Value}{x:Gholder}(h:d9 F c x):c[4]?=some (.int .i64 x.units):=by
 obtain ⟨v3,h0,h4⟩:=h;subst h0;rfl
theorem Gholder.form {F:Frz}{c:List Value}{x:Gholder}(h:d9 F c x):(c.drop 0).take 5=[.int .i64 x.Bidder.ID, .int .i64 x.Bidder.Eligibility, .int .i64 x.Bidder.Waivers,cS c 3, .int .i64 x.units]:=by
 obtain ⟨v3,h0,h4⟩:=h;subst h0;rfl
def kg (n:Int)(low:Int)(high:Int):Bool:=
 ((decide (low≤n))&&(decide (n≤high)))
theorem zcD (F0:Frz)(w:World)(hF0:F0.At w)(n:Int)(low:Int)(high:Int):Calls Tryz.prog 133 #[.int .i64 n, .int .i64 low, .int .i64 high] w fun e w'=>e= .returned (.bool (kg n low high))∧Below w.heap.size w w':=by
 obtain ⟨r,hk⟩:∃r,kg n low high=r:=⟨_,rfl⟩;rw [hk];unfold kg at hk;obtain ⟨S0,F1,rfl,hS0,hp0⟩:=dY hF0;refine dG Tryz.func133 rfl rfl rfl hp0 ?_;refine eM ?_;refine c9 (ι:=Unit) (fun z=>[(6, .bool ((decide (low≤n))&&(decide (n≤high))))]) (fun z=>[.fr F1]) (fun z=>True) ?_ ?_
 ·refine kP ?_;refine db rfl rfl rfl (fun h1=>?_) (fun h1=>?_)
  ·have p1:=of_decide_eq_true h1;refine jH ?_;exact q4X
  ·have p1:=of_decide_eq_false h1;refine jH ?_;exact q4Y
 ·rintro _ _;refine T.ret ?_;subst hk;exact dS
def zb0 (x_:Int):Bool:=
 (decide (¬x_=x_))
theorem ze4 (F0:Frz)(w:World)(hF0:F0.At w)(x_:Int):Calls Tryz.prog 202 #[.int .i64 x_] w fun e w'=>e= .returned (.bool (zb0 x_))∧Below w.heap.size w w':=by
 obtain ⟨r,hk⟩:∃r,zb0 x_=r:=⟨_,rfl⟩;rw [hk];unfold zb0 at hk;obtain ⟨S0,F1,rfl,hS0,hp0⟩:=dY hF0;refine dG Tryz.func202 rfl rfl rfl hp0 ?_;refine io ?_;refine TL.run 4 rfl ?_;refine gp ?_;subst hk;exact dS
def kz (x_:Int)(y:Int):Int:=
 (bif (zb0 x_) then
  (bif (zb0 y) then
   0
   else
   (-1))
  else
  (bif (zb0 y) then
   1
   else
   (bif decide (x_<y) then
    (-1)
    else
    (bif decide (y<x_) then
     1
     else
     0))))
theorem zeu (F0:Frz)(w:World)(hF0:F0.At w)(x_:Int)(y:Int):Calls Tryz.prog 136 #[.int .i64 x_, .int .i64 y] w fun e w'=>e= .returned (.int .i64 (kz x_ y))∧Below w.heap.size w w':=by
 obtain ⟨r,hk⟩:∃r,kz x_ y=r:=⟨_,rfl⟩;rw [hk];unfold kz at hk;obtain ⟨S0,F1,rfl,hS0,hp0⟩:=dY hF0;refine dG Tryz.func136 rfl rfl rfl hp0 ?_;refine io ?_;refine dr ?_;refine cZ (da rfl rfl rfl (fun w hw=>ze4 _ w (hw.fr (i:=0) rfl) x_)) ?_;refine dU ?_;refine iL ?_;refine dr ?_;refine cZ (da rfl rfl rfl (fun w hw=>ze4 _ w (hw.fr (i:=0) rfl) y)) ?_;refine dU ?_;refine jl ?_;refine dJ ?_;refine T.cond rfl (fun h1=>?_) (fun h1=>?_)
 ·replace hk:=dj hk h1;refine iu ?_;refine dJ ?_;refine T.cond rfl (fun h2=>?_) (fun h2=>?_)
  ·replace hk:=dj hk h2;refine fS ?_;refine dC (T.ret (gC (gC ?_)));subst hk;exact dS
  ·replace hk:=di hk h2;refine ik ?_;refine jb ?_;subst hk;exact dS
 ·replace hk:=di hk h1;refine il ?_;refine dJ ?_;refine T.cond rfl (fun h3=>?_) (fun h3=>?_)
  ·replace hk:=dj hk h3;refine gw ?_;subst hk;exact dS
  ·replace hk:=di hk h3;refine il ?_;refine kT ?_;refine T.cond rfl (fun h4=>?_) (fun h4=>?_)
   ·have p4:=of_decide_eq_true h4;replace hk:=dj hk h4;refine gw ?_;subst hk;exact dS
   ·have p4:=of_decide_eq_false h4;replace hk:=di hk h4;refine il ?_;refine kT ?_;refine T.cond rfl (fun h5=>?_) (fun h5=>?_)
    ·have p5:=of_decide_eq_true h5;replace hk:=dj hk h5;refine gw ?_;subst hk;exact dS
    ·have p5:=of_decide_eq_false h5;replace hk:=di hk h5;refine ik ?_;refine gq ?_;subst hk;exact dS
def zcZ (vals:List Int):Int:=
 dF (fun (_:Unit)=>
  0)
 (fun k1=>
  dq (fun (i_3:Nat) (next2:Unit→Int) (_:Unit)=>
   (bif decide (¬(cS vals i_3)=0) then
    (cS vals i_3)
    else
    next2 ()))
  (fun (_:Unit)=>
   k1 ()) (vals.length - 0) 0 ())
theorem zfR (F0:Frz)(w:World)(hF0:F0.At w)(vals:List Int)(vvals:Value)(hvals:SlC F0 vvals 1 (vals.map eI)):Calls Tryz.prog 135 #[vvals] w fun e w'=>e= .returned (.int .i64 (zcZ vals))∧Below w.heap.size w w':=by
 obtain ⟨r,hk⟩:∃r,zcZ vals=r:=⟨_,rfl⟩;rw [hk];unfold zcZ at hk;haveI:=hvals.oneC;obtain ⟨S0,F1,rfl,hS0,hp0⟩:=dY hF0;refine dG Tryz.func135 rfl rfl rfl hp0 ?_;refine io ?_;refine ip ?_;refine cU (dn rfl rfl hvals (List.length_map _)) ?_;have hm7:vals.length≤9223372036854775807:=(List.length_map _)▸hvals.max;refine dJ ?_;have hq:=dP hk;clear hk;obtain ⟨k1,hk1,hk⟩:=hq; (try dsimp only at hk);refine c9 (ι:=Unit) (fun z=>[(3, .int .i64 0)]) (fun z=>[.fr F1]) (fun z=>k1 ()=r) ?_ ?_
 ·have hq:=eX hk;clear hk;obtain ⟨f2,kk2,hf2,hkk2,hk⟩:=hq;refine ed ?_;refine T.loop (ι:=Nat) (fun z=>[(3, .int .i64 0),(6,vvals),(7, .int .i64 (vals.length:Int)),(8, .int .i64 (z:Int))]) (fun z=>[.fr F1]) (fun z=>dq f2 kk2 (vals.length - z) z ()=r) (fun z=>vals.length - z) 0 ?_ ?_ ?_ ?_
  ·exact hk
  ·exact gR
  ·exact eb
  ·rintro i_3 hk;refine eM ?_;refine T.cond rfl (fun h4=>?_) (fun h4=>?_)
   ·have p4:=of_decide_eq_true h4;rw [eW a7] at hk;generalize hn2:dq f2 kk2 (vals.length - (i_3+1)) (i_3+1)=next2 at hk;rw [←hf2] at hk; (try dsimp only at hk);refine jv ?_;refine cU (dc (i:=i_3) rfl rfl rfl hvals (List.length_map _) rfl a7) ?_;refine cU (dv 0 (i:=i_3) (j:=0) rfl rfl rfl hvals a7) ?_;refine iL ?_;refine kT ?_;refine T.cond rfl (fun h5=>?_) (fun h5=>?_)
    ·have p5:=of_decide_eq_true h5;replace hk:=dj hk h5;refine fM ?_;refine q0Y ?_;subst hk;exact dS
    ·have p5:=of_decide_eq_false h5;replace hk:=di hk h5;refine q4c ?_;rw [←hn2] at hk;exact q4C
   ·have p4:=of_decide_eq_false h4;rw [eY a7,←hkk2] at hk; (try dsimp only at hk);refine ek ?_;exact cY () hk (.c .nil) (List.Sublist.refl _)
 ·rintro _ hk;rw [←hk1] at hk; (try dsimp only at hk);refine kM ?_;subst hk;exact dS
def lf (a:GProduct)(b:GProduct):Int:=
 (zcZ [(kz a.Area b.Area),(kz a.Category b.Category)])
theorem zfU (F0:Frz)(w:World)(hF0:F0.At w)(a:GProduct)(b:GProduct):Calls Tryz.prog 134 #[.agg [.int .i64 a.Area, .int .i64 a.Category, .int .i64 a.Supply, .int .i64 a.Units, .int .i64 a.Reserve].toArray, .agg [.int .i64 b.Area, .int .i64 b.Category, .int .i64 b.Supply, .int .i64 b.Units, .int .i64 b.Reserve].toArray] w fun e w'=>e= .returned (.int .i64 (lf a b))∧Below w.heap.size w w':=by
 obtain ⟨r,hk⟩:∃r,lf a b=r:=⟨_,rfl⟩;rw [hk];unfold lf at hk;obtain ⟨S0,F1,rfl,hS0,hp0⟩:=dY hF0;refine dG Tryz.func134 rfl rfl rfl hp0 ?_;refine fV ?_;rintro _ _ ⟨g2,rfl,rfl⟩;refine q3D ?_;rintro _ _ ⟨g3,rfl,rfl⟩;refine fI ?_;refine dL (sN 0 4 (sN 5 4 (.eff 4 (.eff 9 (.eff 10 (.eff 11 (.still 12 .done))))))) _ b5 (List.Sublist.refl _) ?_;refine jN ?_;refine gh ?_;refine jN ?_;refine lu ?_;refine c5 rfl (cW) rfl rfl (da rfl rfl rfl (fun w hw=>zeu _ w (hw.fr (i:=2) rfl) a.Area b.Area)) ?_;refine dU ?_;refine jt ?_;refine c5 rfl (cW) rfl rfl (da rfl rfl rfl (fun w hw=>zeu _ w (hw.fr (i:=2) rfl) a.Category b.Category)) ?_;refine dU ?_;refine jt ?_;refine kl ?_;rintro _ _ ⟨g15,rfl,rfl⟩;refine gB ?_;refine iA (fun w hw=>hw.freezeR (i:=3) (j:=0) a8 rfl rfl) ?_;rintro F2 ⟨le1_2,hz2⟩;refine eH ?_;have hfF2:SlC F2.toFrz (.slice (some ⟨g15,0,none⟩) 2 2) 1 ([(kz a.Area b.Area),(kz a.Category b.Category)].map eI):=(SlK.lit hz2 rfl (Nat.le_refl _) a8).toF (xs:=[(kz a.Area b.Area),(kz a.Category b.Category)]) rfl (fun _=>rfl);refine dH ?_;refine c5 rfl (cW) rfl rfl (da rfl rfl rfl (fun w hw=>zfR _ w (hw.fr (i:=2) rfl) [(kz a.Area b.Area),(kz a.Category b.Category)] (.slice (some ⟨g15,0,none⟩) 2 2) hfF2)) ?_;refine dU ?_;refine q3O ?_;refine q3S ?_;subst hk;exact dS
def zb8 (p:GProduct)(xf0_:Vec 64 Int):Option (Bool×Vec 64 Int):=
 (bif (((!(kg p.Area 0 63))||(!(kg p.Category 1 2)))||(!(kg p.Supply 1 12))) then
  some (false,xf0_)
  else
  dl (0≤p.Area∧p.Area<(64:Int)) <|
  some ((((decide ((Vec.get (Vec.put xf0_ p.Area.toNat (wI ((Vec.get xf0_ p.Area.toNat)+p.Supply))) p.Area.toNat)≤12))&&(kg p.Units 1 100000))&&(kg p.Reserve 0 549755813888)),(Vec.put xf0_ p.Area.toNat (wI ((Vec.get xf0_ p.Area.toNat)+p.Supply)))))
theorem zfV (F0:Frz)(w:World)(hF0:F0.At w)(p:GProduct)(xf0_:Vec 64 Int)(gf0_:Nat)(hO:Hp w (dx [.row gf0_ 179 (xf0_.1.map vI)]) [.row gf0_ 179 (xf0_.1.map vI)] w)(hA:∀g,dx [.row gf0_ 179 (xf0_.1.map vI)] g→¬F0.S g)(r:Bool×Vec 64 Int)(hr:zb8 p xf0_=some r):Calls Tryz.prog 132 #[.agg [.int .i64 p.Area, .int .i64 p.Category, .int .i64 p.Supply, .int .i64 p.Units, .int .i64 p.Reserve].toArray, .pointer (some ⟨gf0_,0,none⟩)] w fun e w'=>∃(y:Unit),(True)∧e= .returned (.bool r.1)∧FxM F0 w (dx [.row gf0_ 179 (xf0_.1.map vI)]) F0 [.row gf0_ 179 (r.2.1.map vI)] w':=by
 have hk:=hr;unfold zb8 at hk;obtain ⟨S0,F1,rfl,hS0,hp0⟩:=fJ hF0 hO hA;refine dG (hs:=[.row gf0_ 179 (xf0_.1.map vI), .fr F1]) Tryz.func132 rfl rfl rfl hp0 ?_;refine fV ?_;rintro _ _ ⟨g2,rfl,rfl⟩;refine jC ?_;refine c9 (ι:=Unit) (fun z=>[(1, .pointer (some ⟨gf0_,0,none⟩)),(2, .pointer (some ⟨g2,0,none⟩)),(19, .bool (((!(kg p.Area 0 63))||(!(kg p.Category 1 2)))||(!(kg p.Supply 1 12))))]) (fun z=>[.row g2 55 [.int .i64 p.Area, .int .i64 p.Category, .int .i64 p.Supply, .int .i64 p.Units, .int .i64 p.Reserve], .row gf0_ 179 (xf0_.1.map vI), .fr F1]) (fun z=>True) ?_ ?_
 ·refine li ?_;refine cZ (da rfl rfl rfl (fun w hw=>zcD _ w (hw.fr (i:=2) rfl) p.Area 0 63)) ?_;refine iy ?_;refine db rfl rfl rfl (fun h1=>?_) (fun h1=>?_)
  ·refine TL.run 11 rfl ?_;refine e7 ?_;exact cY () trivial (.c (.c (.b (dQ (dQ h1)).symm .nil))) (List.Sublist.refl _)
  ·refine fR ?_;refine cZ (da rfl rfl rfl (fun w hw=>zcD _ w (hw.fr (i:=2) rfl) p.Category 1 2)) ?_;refine kV ?_;refine db rfl rfl rfl (fun h2=>?_) (fun h2=>?_)
   ·refine jH ?_;exact cY () trivial (.c (.c (.b (dQ (dZ h1 h2)).symm .nil))) (List.Sublist.refl _)
   ·refine fR ?_;refine cZ (da rfl rfl rfl (fun w hw=>zcD _ w (hw.fr (i:=2) rfl) p.Supply 1 12)) ?_;refine jB ?_;exact cY () trivial (.c (.c (.b (fg (dZ h1 h2)) .nil))) (List.Sublist.refl _)
 ·rintro _ _;refine T.cond rfl (fun h3=>?_) (fun h3=>?_)
  ·replace hk:=dj hk h3;refine gw ?_;obtain rfl:=Option.some.inj hk;exact q4G
  ·replace hk:=di hk h3;refine fD ?_;have hq:(0≤p.Area∧p.Area<(64:Int))∧_:=dp hk;clear hk;obtain ⟨g22,hk⟩:=hq; (try dsimp only at hk);refine dL (sN 0 3 (sN 4 2 (.eff 3 (sN 6 2 (.eff 8 .done))))) [.row g2 55 [.int .i64 p.Area, .int .i64 p.Category, .int .i64 p.Supply, .int .i64 p.Units, .int .i64 p.Reserve], .fr F1] b5 Sx ?_;refine gh ?_;refine cX rfl (du (i:=p.Area.toNat) rfl rfl rfl a7 a7) ?_;refine lu ?_;refine dI rfl (cW) rfl rfl (dh 1 rfl rfl rfl (e8 a7 (Vec.cell (i:=p.Area.toNat) a7))) (fun w hw=>hw.sub Sx) ?_;refine cX rfl (dd (v:= .int .i64 (wI ((Vec.get xf0_ p.Area.toNat)+p.Supply)))) ?_;refine cX rfl (du (i:=p.Area.toNat) rfl rfl rfl a7 a7) ?_;refine dH ?_;refine dy rfl (cW) rfl (eC 1 ((Vec.put xf0_ p.Area.toNat (wI ((Vec.get xf0_ p.Area.toNat)+p.Supply))).1.map vI) rfl rfl rfl rfl b7 (ic a7 (Vec.upd (x:=xf0_) (f:=vI) (i:=p.Area.toNat) (v:=wI ((Vec.get xf0_ p.Area.toNat)+p.Supply)) a7))) ?_;refine jV ?_;refine kr ?_;refine c9 (ι:=Unit) (fun z=>[(3, .bool (((decide ((Vec.get (Vec.put xf0_ p.Area.toNat (wI ((Vec.get xf0_ p.Area.toNat)+p.Supply))) p.Area.toNat)≤12))&&(kg p.Units 1 100000))&&(kg p.Reserve 0 549755813888)))]) (fun z=>[.row g2 55 [.int .i64 p.Area, .int .i64 p.Category, .int .i64 p.Supply, .int .i64 p.Units, .int .i64 p.Reserve], .row gf0_ 179 ((Vec.put xf0_ p.Area.toNat (wI ((Vec.get xf0_ p.Area.toNat)+p.Supply))).1.map vI), .fr F1]) (fun z=>True) ?_ ?_
   ·refine li ?_;refine cU (du (i:=p.Area.toNat) rfl rfl rfl a7 a7) ?_;refine cU (dh 1 rfl rfl rfl (e8 a7 (Vec.cell (i:=p.Area.toNat) a7))) ?_;refine d4 ?_;refine db rfl rfl rfl (fun h4=>?_) (fun h4=>?_)
    ·have p4:=of_decide_eq_true h4;refine fR ?_;refine cZ (da rfl rfl rfl (fun w hw=>zcD _ w (hw.fr (i:=2) rfl) p.Units 1 100000)) ?_;refine iy ?_;refine db rfl rfl rfl (fun h5=>?_) (fun h5=>?_)
     ·refine fR ?_;refine cZ (da rfl rfl rfl (fun w hw=>zcD _ w (hw.fr (i:=2) rfl) p.Reserve 0 549755813888)) ?_;refine jB ?_;exact cY () trivial (.b (jr (kA h4 h5)) .nil) (List.Sublist.refl _)
     ·refine jH ?_;exact cY () trivial (.b (gK (kA h4 h5)).symm .nil) (List.Sublist.refl _)
    ·have p4:=of_decide_eq_false h4;refine q3R ?_;exact cY () trivial (.b (gK (gK h4)).symm .nil) (List.Sublist.refl _)
   ·rintro _ _;refine T.ret ?_;obtain rfl:=Option.some.inj hk;exact q4G
def zaT (l:List GProduct)(x1c0_:Vec 64 Int):Option (Bool×Vec 64 Int):=
 dF (fun (c_1:Vec 64 Int)=>
  some (true,c_1))
 (fun k2=>
  dq (fun (i_5:Nat) (next4:Vec 64 Int→Option (Bool×Vec 64 Int)) (c_3:Vec 64 Int)=>
   (zb8 (cS l i_5) c_3).bind fun r18=>
   (bif ((!r18.1)||((decide (0<(i_5:Int)))&&(decide (0≤(lf (cS l (((i_5:Int) - 1).toNat)) (cS l i_5)))))) then
    some (false,r18.2)
    else
    next4 r18.2))
  (fun (c_3:Vec 64 Int)=>
   k2 c_3) (l.length - 0) 0 x1c0_)
theorem zcx (F0:Frz)(w:World)(hF0:F0.At w)(l:List GProduct)(vl:Value)(hl:SlC F0 vl 5 (l.map cV))(x1c0_:Vec 64 Int)(g1c0_:Nat)(hO:Hp w (dx [.row g1c0_ 179 (x1c0_.1.map vI)]) [.row g1c0_ 179 (x1c0_.1.map vI)] w)(hA:∀g,dx [.row g1c0_ 179 (x1c0_.1.map vI)] g→¬F0.S g)(r:Bool×Vec 64 Int)(hr:zaT l x1c0_=some r):Calls Tryz.prog 131 #[vl, .func (.func 132) #[] #[.pointer (some ⟨g1c0_,0,none⟩)], .func (.func 134) #[] #[]] w fun e w'=>∃(y:Unit),(True)∧e= .returned (.bool r.1)∧FxM F0 w (dx [.row g1c0_ 179 (x1c0_.1.map vI)]) F0 [.row g1c0_ 179 (r.2.1.map vI)] w':=by
 have hk:=hr;unfold zaT at hk;haveI:=hl.oneC;obtain ⟨S0,F1,rfl,hS0,hp0⟩:=fJ hF0 hO hA;refine dG (hs:=[.row g1c0_ 179 (x1c0_.1.map vI), .fr F1]) Tryz.func131 rfl rfl rfl hp0 ?_;refine ia ?_;refine j4 ?_;have hm10:l.length≤9223372036854775807:=(List.length_map _)▸hl.max;refine dJ ?_;have hq:=dP hk;clear hk;obtain ⟨k2,hk2,hk⟩:=hq; (try dsimp only at hk);refine c9 (ι:=Vec 64 Int) (fun z=>[]) (fun z=>[.row g1c0_ 179 (z.1.map vI), .fr F1]) (fun z=>k2 z=some r) ?_ ?_
 ·have hq:=eX hk;clear hk;obtain ⟨f4,kk4,hf4,hkk4,hk⟩:=hq;refine ed ?_;refine T.loop (ι:=Nat×Vec 64 Int) (fun z=>[(0,vl),(1, .func (.func 132) #[] #[.pointer (some ⟨g1c0_,0,none⟩)]),(2, .func (.func 134) #[] #[]),(9,vl),(10, .int .i64 (l.length:Int)),(11, .int .i64 (z.1:Int))]) (fun z=>[.row g1c0_ 179 (z.2.1.map vI), .fr F1]) (fun z=>dq f4 kk4 (l.length - z.1) z.1 z.2=some r) (fun z=>l.length - z.1) (0,x1c0_) ?_ ?_ ?_ ?_
  ·exact hk
  ·exact kI
  ·exact eb
  ·rintro ⟨i_5,c_3⟩ hk; (try dsimp only at *);refine eM ?_;refine T.cond rfl (fun h6=>?_) (fun h6=>?_)
   ·have p6:=of_decide_eq_true h6;rw [eW a7] at hk;generalize hn4:dq f4 kk4 (l.length - (i_5+1)) (i_5+1)=next4 at hk;rw [←hf4] at hk; (try dsimp only at hk);refine jE ?_;refine q30 ?_;refine cU (fP 1 (i:=i_5) rfl rfl rfl hl a7) ?_;refine fv ?_;rintro _ _ ⟨g8,rfl,rfl⟩;refine dr ?_;refine fx ?_;refine eR ?_;have hq:=dm hk;clear hk;obtain ⟨r18,hr18,hk⟩:=hq; (try dsimp only at hk);refine c9 (ι:=Unit) (fun z=>[(0,vl),(1, .func (.func 132) #[] #[.pointer (some ⟨g1c0_,0,none⟩)]),(2, .func (.func 134) #[] #[]),(9,vl),(10, .int .i64 (l.length:Int)),(11, .int .i64 (i_5:Int)),(34, .bool ((!r18.1)||((decide (0<(i_5:Int)))&&(decide (0≤(lf (cS l (((i_5:Int) - 1).toNat)) (cS l i_5)))))))]) (fun z=>[.row g8 55 [.int .i64 ((cS l i_5).Area), .int .i64 ((cS l i_5).Category), .int .i64 ((cS l i_5).Supply), .int .i64 ((cS l i_5).Units), .int .i64 ((cS l i_5).Reserve)], .row g1c0_ 179 (r18.2.1.map vI), .fr F1]) (fun z=>True) ?_ ?_
    ·refine dL (sN 0 2 (.eff 2 (sN 3 12 (.eff 15 (sN 16 2 (.still 18 .done)))))) [.row g8 55 [.int .i64 ((cS l i_5).Area), .int .i64 ((cS l i_5).Category), .int .i64 ((cS l i_5).Supply), .int .i64 ((cS l i_5).Units), .int .i64 ((cS l i_5).Reserve)], .fr F1] b5 Sx ?_;refine eN ?_;refine kc ?_;refine c5 rfl (cW) rfl rfl (dB [1,2,0] [.row g1c0_ 179 (c_3.1.map vI)] [.row g8 55 [.int .i64 ((cS l i_5).Area), .int .i64 ((cS l i_5).Category), .int .i64 ((cS l i_5).Supply), .int .i64 ((cS l i_5).Units), .int .i64 ((cS l i_5).Reserve)]] rfl rfl rfl rfl a8 (fun w hw hw2 hF=>zfV _ w hF (cS l i_5) c_3 g1c0_ hw2.takes.1 hw2.takes.2 r18 hr18)) ?_;rintro _ _ ⟨⟨⟩, -,rfl,rfl⟩;refine eG ?_;refine q20 ?_;refine eD ?_;refine ep rfl rfl rfl rfl (fun h7=>?_) (fun h7=>?_)
     ·refine TS.run 10 rfl ?_;refine dH ?_;refine im rfl (Wt.undef rfl rfl rfl) rfl rfl ?_;refine fj ?_;refine q1T ?_;exact cY () trivial (.c (.c (.c (.c (.c (.c (.b (dQ h7).symm .nil))))))) (List.Sublist.refl _)
     ·refine fj ?_;refine ep rfl rfl rfl rfl (fun h8=>?_) (fun h8=>?_)
      ·have p8:=of_decide_eq_true h8;refine fj ?_;refine q3M ?_;refine cX rfl (dc (i:=((i_5:Int) - 1).toNat) rfl rfl rfl hl (List.length_map _) a7 a7) ?_;refine cX rfl (fP 1 (i:=((i_5:Int) - 1).toNat) rfl rfl rfl hl a7) ?_;refine kc ?_;refine c5 rfl (Wt.some) rfl rfl (da rfl rfl rfl (fun w hw=>zfU _ w (hw.fr (i:=1) rfl) (cS l (((i_5:Int) - 1).toNat)) (cS l i_5))) ?_;refine dU ?_;refine q20 ?_;refine fj ?_;refine q1T ?_;exact cY () trivial (.c (.c (.c (.c (.c (.c (.b (Eq.trans (jr h8) (fg h7)) .nil))))))) (List.Sublist.refl _)
      ·have p8:=of_decide_eq_false h8;refine TS.run 7 rfl ?_;refine j8 ?_;refine fj ?_;refine q1T ?_;exact cY () trivial (.c (.c (.c (.c (.c (.c (.b (dZ h7 (gK h8)).symm .nil))))))) (List.Sublist.refl _)
    ·rintro _ _;refine T.cond rfl (fun h9=>?_) (fun h9=>?_)
     ·replace hk:=dj hk h9;refine kp ?_;obtain rfl:=Option.some.inj hk;exact q4G
     ·replace hk:=di hk h9;refine q4c ?_;rw [←hn4] at hk;refine q3J ?_;exact K.next ((i_5+1),r18.2) hk b6 (.c (.c (.c (.c (.c (.c .nil)))))) (List.Sublist.refl _)
   ·have p6:=of_decide_eq_false h6;rw [eY a7,←hkk4] at hk; (try dsimp only at hk);refine ek ?_;exact cY c_3 hk .nil (List.Sublist.refl _)
 ·rintro c_1 hk;rw [←hk2] at hk; (try dsimp only at hk);refine iU ?_;obtain rfl:=Option.some.inj hk;exact kf
def zbK (l:List GProduct):Option Bool:=
 (zaT l (Vec.fill 64 0)).bind fun r6=>
 some r6.1
theorem zcO (F0:Frz)(w:World)(hF0:F0.At w)(l:List GProduct)(vl:Value)(hl:SlC F0 vl 5 (l.map cV))(r:Bool)(hr:zbK l=some r):Calls Tryz.prog 51 #[vl] w fun e w'=>e= .returned (.bool r)∧Below w.heap.size w w':=by
 have hk:=hr;unfold zbK at hk;haveI:=hl.oneC;obtain ⟨S0,F1,rfl,hS0,hp0⟩:=dY hF0;refine dG Tryz.func51 rfl rfl rfl hp0 ?_;refine io ?_;refine cZ (jz (l:=((Vec.fill 64 0).1.map vI)) rfl b5) ?_;rintro _ _ ⟨g3,rfl,rfl⟩;refine eR ?_;have hq:=dm hk;clear hk;obtain ⟨r6,hr6,hk⟩:=hq; (try dsimp only at hk);refine eo ?_;refine cZ (dB [0,1] [.row g3 179 ((Vec.fill 64 0).1.map vI)] [] rfl rfl rfl rfl a8 (fun w hw hw2 hF=>zcx _ w hF l vl hl (Vec.fill 64 0) g3 hw2.takes.1 hw2.takes.2 r6 hr6)) ?_;rintro _ _ ⟨⟨⟩, -,rfl,rfl⟩;refine eG ?_;refine gq ?_;obtain rfl:=Option.some.inj hk;exact dS
def kw (l:List GProduct)(blocks:List Int):Bool:=
 (bif decide (¬(blocks.length:Int)=(l.length:Int)) then
  false
  else
  dF (fun (_:Unit)=>
   true)
  (fun k2=>
   dq (fun (i_4:Nat) (next3:Unit→Bool) (_:Unit)=>
    (bif ((decide ((cS blocks i_4)<0))||(decide ((cS l i_4).Supply<(cS blocks i_4)))) then
     false
     else
     next3 ()))
   (fun (_:Unit)=>
    k2 ()) (blocks.length - 0) 0 ()))
theorem zfE (F0:Frz)(w:World)(hF0:F0.At w)(l:List GProduct)(vl:Value)(hl:SlC F0 vl 5 (l.map cV))(blocks:List Int)(vblocks:Value)(hblocks:SlC F0 vblocks 1 (blocks.map eI)):Calls Tryz.prog 137 #[vl,vblocks] w fun e w'=>e= .returned (.bool (kw l blocks))∧Below w.heap.size w w':=by
 obtain ⟨r,hk⟩:∃r,kw l blocks=r:=⟨_,rfl⟩;rw [hk];unfold kw at hk;haveI:=hl.oneC;haveI:=hblocks.oneC;obtain ⟨S0,F1,rfl,hS0,hp0⟩:=dY hF0;refine dG Tryz.func137 rfl rfl rfl hp0 ?_;refine ia ?_;refine q34 ?_;have hm8:blocks.length≤9223372036854775807:=(List.length_map _)▸hblocks.max;refine dr ?_;refine j4 ?_;have hm10:l.length≤9223372036854775807:=(List.length_map _)▸hl.max;refine dJ ?_;refine T.cond rfl (fun h1=>?_) (fun h1=>?_)
 ·have p1:=of_decide_eq_true h1;replace hk:=dj hk h1;refine gw ?_;subst hk;exact dS
 ·have p1:=of_decide_eq_false h1;replace hk:=di hk h1;refine il ?_;refine dr ?_;refine q34 ?_;refine dJ ?_;have hq:=dP hk;clear hk;obtain ⟨k2,hk2,hk⟩:=hq; (try dsimp only at hk);refine c9 (ι:=Unit) (fun z=>[]) (fun z=>[.fr F1]) (fun z=>k2 ()=r) ?_ ?_
  ·have hq:=eX hk;clear hk;obtain ⟨f3,kk3,hf3,hkk3,hk⟩:=hq;refine ed ?_;refine T.loop (ι:=Nat) (fun z=>[(0,vl),(12,vblocks),(13, .int .i64 (blocks.length:Int)),(14, .int .i64 (z:Int))]) (fun z=>[.fr F1]) (fun z=>dq f3 kk3 (blocks.length - z) z ()=r) (fun z=>blocks.length - z) 0 ?_ ?_ ?_ ?_
   ·exact hk
   ·exact gR
   ·exact eb
   ·rintro i_4 hk;refine eM ?_;refine T.cond rfl (fun h5=>?_) (fun h5=>?_)
    ·have p5:=of_decide_eq_true h5;rw [eW a7] at hk;generalize hn3:dq f3 kk3 (blocks.length - (i_4+1)) (i_4+1)=next3 at hk;rw [←hf3] at hk; (try dsimp only at hk);refine jE ?_;refine cU (dc (i:=i_4) rfl rfl rfl hblocks (List.length_map _) rfl a7) ?_;refine cU (dv 0 (i:=i_4) (j:=0) rfl rfl rfl hblocks a7) ?_;refine d4 ?_;refine eR ?_;refine c9 (ι:=Unit) (fun z=>[(0,vl),(12,vblocks),(13, .int .i64 (blocks.length:Int)),(14, .int .i64 (i_4:Int)),(29, .bool ((decide ((cS blocks i_4)<0))||(decide ((cS l i_4).Supply<(cS blocks i_4)))))]) (fun z=>[.fr F1]) (fun z=>True) ?_ ?_
     ·refine gI ?_;refine db rfl rfl rfl (fun h6=>?_) (fun h6=>?_)
      ·have p6:=of_decide_eq_true h6;refine TL.run 8 rfl ?_;refine e7 ?_;exact cY () trivial (.c (.c (.c (.c (.b (dQ h6).symm .nil))))) (List.Sublist.refl _)
      ·have p6:=of_decide_eq_false h6;refine fA ?_;refine cU (dc (i:=i_4) rfl rfl rfl hl (List.length_map _) rfl a7) ?_;refine q3F ?_;refine cU (dv 0 (i:=i_4) (j:=2) rfl rfl rfl hl a7) ?_;refine hY ?_;exact cY () trivial (.c (.c (.c (.c (.b (fg h6) .nil))))) (List.Sublist.refl _)
     ·rintro _ _;refine T.cond rfl (fun h7=>?_) (fun h7=>?_)
      ·replace hk:=dj hk h7;refine kp ?_;subst hk;exact dS
      ·have p7:=h7; (try simp only [gH] at p7);replace hk:=di hk h7;refine q4c ?_;rw [←hn3] at hk;exact K.next (i_4+1) hk a7 (.c (.c (.c (.c .nil)))) (List.Sublist.refl _)
    ·have p5:=of_decide_eq_false h5;rw [eY a7,←hkk3] at hk; (try dsimp only at hk);refine ek ?_;exact jh
  ·rintro _ hk;rw [←hk2] at hk; (try dsimp only at hk);refine iU ?_;subst hk;exact dS
def zcn (l:List GProduct)(blocks:List Int):Option Int:=
 dF (fun (sum_1:Int)=>
  some sum_1)
 (fun k2=>
  dq (fun (i_5:Nat) (next4:Int→Option Int) (sum_3:Int)=>
   dl (0≤(i_5:Int)∧(i_5:Int)<(l.length:Int)) <|
   next4 (wI (sum_3+(wI ((cS blocks i_5) * ((cS l i_5).Units))))))
  (fun (sum_3:Int)=>
   k2 sum_3) (blocks.length - 0) 0 0)
theorem zfq (F0:Frz)(w:World)(hF0:F0.At w)(l:List GProduct)(vl:Value)(hl:SlC F0 vl 5 (l.map cV))(blocks:List Int)(vblocks:Value)(hblocks:SlC F0 vblocks 1 (blocks.map eI))(r:Int)(hr:zcn l blocks=some r):Calls Tryz.prog 138 #[vl,vblocks] w fun e w'=>e= .returned (.int .i64 r)∧Below w.heap.size w w':=by
 have hk:=hr;unfold zcn at hk;haveI:=hl.oneC;haveI:=hblocks.oneC;obtain ⟨S0,F1,rfl,hS0,hp0⟩:=dY hF0;refine dG Tryz.func138 rfl rfl rfl hp0 ?_;refine io ?_;refine ip ?_;refine q34 ?_;have hm9:blocks.length≤9223372036854775807:=(List.length_map _)▸hblocks.max;refine dJ ?_;have hq:=dP hk;clear hk;obtain ⟨k2,hk2,hk⟩:=hq; (try dsimp only at hk);refine c9 (ι:=Int) (fun z=>[(5, .int .i64 z)]) (fun z=>[.fr F1]) (fun z=>k2 z=some r) ?_ ?_
 ·have hq:=eX hk;clear hk;obtain ⟨f4,kk4,hf4,hkk4,hk⟩:=hq;refine ed ?_;refine T.loop (ι:=Nat×Int) (fun z=>[(0,vl),(5, .int .i64 z.2),(8,vblocks),(9, .int .i64 (blocks.length:Int)),(10, .int .i64 (z.1:Int))]) (fun z=>[.fr F1]) (fun z=>dq f4 kk4 (blocks.length - z.1) z.1 z.2=some r) (fun z=>blocks.length - z.1) (0,0) ?_ ?_ ?_ ?_
  ·exact hk
  ·exact iS
  ·exact eb
  ·rintro ⟨i_5,sum_3⟩ hk; (try dsimp only at *);refine eM ?_;refine T.cond rfl (fun h6=>?_) (fun h6=>?_)
   ·have p6:=of_decide_eq_true h6;rw [eW a7] at hk;generalize hn4:dq f4 kk4 (blocks.length - (i_5+1)) (i_5+1)=next4 at hk;rw [←hf4] at hk; (try dsimp only at hk);refine jE ?_;refine cU (dc (i:=i_5) rfl rfl rfl hblocks (List.length_map _) rfl a7) ?_;refine cU (dv 0 (i:=i_5) (j:=0) rfl rfl rfl hblocks a7) ?_;refine iZ ?_;have hq:(0≤(i_5:Int)∧(i_5:Int)<(l.length:Int))∧_:=dp hk;clear hk;obtain ⟨g19,hk⟩:=hq; (try dsimp only at hk);refine kP ?_;refine q30 ?_;refine q3F ?_;refine cU (dv 0 (i:=i_5) (j:=3) rfl rfl rfl hl a7) ?_;refine cU (dd (v:= .int .i64 (wI ((cS blocks i_5) * ((cS l i_5).Units))))) ?_;refine cU (dd (v:= .int .i64 (wI (sum_3+(wI ((cS blocks i_5) * ((cS l i_5).Units))))))) ?_;refine dr ?_;refine iH ?_;rw [←hn4] at hk;exact K.next ((i_5+1),wI (sum_3+(wI ((cS blocks i_5) * ((cS l i_5).Units))))) hk b6 (.c (.c (.c (.c (.c .nil))))) (List.Sublist.refl _)
   ·have p6:=of_decide_eq_false h6;rw [eY a7,←hkk4] at hk; (try dsimp only at hk);refine ek ?_;exact cY sum_3 hk (.c .nil) (List.Sublist.refl _)
 ·rintro sum_1 hk;rw [←hk2] at hk; (try dsimp only at hk);refine kM ?_;obtain rfl:=Option.some.inj hk;exact dS
def kH (l:List GProduct)(bidders:List GBidder):Option Bool:=
 dF (fun (x_1:Bool)=>
  (bif x_1 then
   some false
   else
   dF (fun (_:Unit)=>
    some true)
   (fun k5=>
    dq (fun (i_8:Nat) (next7:Int→Option Bool) (last_6:Int)=>
     (bif ((decide ((cS bidders i_8).ID≤last_6))||(decide (32≤(cS bidders i_8).ID))) then
      some false
      else
      (bif ((((decide ((cS bidders i_8).Eligibility<0))||(decide (76800000<(cS bidders i_8).Eligibility)))||(decide ((cS bidders i_8).Waivers<0)))||(decide (3<(cS bidders i_8).Waivers))) then
       some false
       else
       dF (fun (x_16:Bool)=>
        (bif x_16 then
         some false
         else
         next7 ((cS bidders i_8).ID)))
       (fun k17=>
        (bif !(kw l ((cS bidders i_8).Blocks)) then
         k17 true
         else
         (zcn l ((cS bidders i_8).Blocks)).bind fun r58=>
         k17 (decide ((cS bidders i_8).Eligibility<r58)))))))
    (fun (last_6:Int)=>
     k5 ()) (bidders.length - 0) 0 (-1))))
 (fun k2=>
  (bif decide (32<(bidders.length:Int)) then
   k2 true
   else
   (zbK l).bind fun r13=>
   k2 (!r13)))
theorem zbU (F0:Frz)(w:World)(hF0:F0.At w)(l:List GProduct)(vl:Value)(hl:SlC F0 vl 5 (l.map cV))(bidders:List GBidder)(vbidders:Value)(cbidders:List (List Value))(hbidders:SlD cT F0 vbidders 4 cbidders bidders)(r:Bool)(hr:kH l bidders=some r):Calls Tryz.prog 52 #[vl,vbidders] w fun e w'=>e= .returned (.bool r)∧Below w.heap.size w w':=by
 have hk:=hr;unfold kH at hk;haveI:=hl.oneC;haveI:=hbidders.1.oneC;obtain ⟨S0,F1,rfl,hS0,hp0⟩:=dY hF0;refine dG Tryz.func52 rfl rfl rfl hp0 ?_;refine fS ?_;refine hI ?_; (try dsimp only at hk);have hq:=dP hk;clear hk;obtain ⟨k2,hk2,hk⟩:=hq; (try dsimp only at hk);refine c9 (ι:=Bool) (fun z=>[(0,vl),(1,vbidders),(15, .bool z)]) (fun z=>[.fr F1]) (fun z=>k2 z=some r) ?_ ?_
 ·refine ec ?_;refine q2D ?_;have hm9:bidders.length≤9223372036854775807:=hbidders.2.1▸hbidders.1.max;refine d4 ?_;refine db rfl rfl rfl (fun h3=>?_) (fun h3=>?_)
  ·have p3:=of_decide_eq_true h3;replace hk:=dj hk h3;refine iz ?_;exact q4M
  ·have p3:=of_decide_eq_false h3;replace hk:=di hk h3;refine dr ?_;have hq:=dm hk;clear hk;obtain ⟨r13,hr13,hk⟩:=hq;refine cZ (da rfl rfl rfl (fun w hw=>zcO _ w (hw.fr (i:=0) rfl) l vl hl r13 hr13)) ?_;refine jB ?_;exact cY (!r13) hk (.c (.c (.c .nil))) (List.Sublist.refl _)
 ·rintro x_1 hk;rw [←hk2] at hk; (try dsimp only at hk);refine T.cond rfl (fun h4=>?_) (fun h4=>?_)
  ·replace hk:=dj hk h4;refine gw ?_;obtain rfl:=Option.some.inj hk;exact dS
  ·replace hk:=di hk h4;refine ik ?_;refine ip ?_;refine q2D ?_;have hm17:bidders.length≤9223372036854775807:=hbidders.2.1▸hbidders.1.max;refine dJ ?_;have hq:=dP hk;clear hk;obtain ⟨k5,hk5,hk⟩:=hq; (try dsimp only at hk);refine c9 (ι:=Unit) (fun z=>[]) (fun z=>[.fr F1]) (fun z=>k5 ()=some r) ?_ ?_
   ·have hq:=eX hk;clear hk;obtain ⟨f7,kk7,hf7,hkk7,hk⟩:=hq;refine ed ?_;refine T.loop (ι:=Nat×Int) (fun z=>[(0,vl),(5, .int .i64 z.2),(16,vbidders),(17, .int .i64 (bidders.length:Int)),(18, .int .i64 (z.1:Int))]) (fun z=>[.fr F1]) (fun z=>dq f7 kk7 (bidders.length - z.1) z.1 z.2=some r) (fun z=>bidders.length - z.1) (0,(-1)) ?_ ?_ ?_ ?_
    ·exact hk
    ·exact iS
    ·exact eb
    ·rintro ⟨i_8,last_6⟩ hk; (try dsimp only at *);refine eM ?_;refine T.cond rfl (fun h9=>?_) (fun h9=>?_)
     ·have p9:=of_decide_eq_true h9;rw [eW a7] at hk;generalize hn7:dq f7 kk7 (bidders.length - (i_8+1)) (i_8+1)=next7 at hk;rw [←hf7] at hk; (try dsimp only at hk);refine jv ?_;refine cU (dc (i:=i_8) rfl rfl rfl hbidders.1 hbidders.2.1 rfl a7) ?_;refine cU (eV 0 (i:=i_8) (j:=0) rfl rfl rfl hbidders.1 hbidders.2.1 a7 rfl (d8 (hbidders.2.2 i_8 a7))) ?_;have hd21_3:=(dM (hbidders.2.2 i_8 a7)).2;haveI:=hd21_3.oneC;refine fv ?_;rintro _ _ ⟨g7,rfl,rfl⟩;refine fx ?_;refine hI ?_;refine c9 (ι:=Unit) (fun z=>[(0,vl),(7, .pointer (some ⟨g7,0,none⟩)),(16,vbidders),(17, .int .i64 (bidders.length:Int)),(18, .int .i64 (i_8:Int)),(30, .bool ((decide ((cS bidders i_8).ID≤last_6))||(decide (32≤(cS bidders i_8).ID))))]) (fun z=>[.row g7 57 [.int .i64 ((cS bidders i_8).ID), .int .i64 ((cS bidders i_8).Eligibility), .int .i64 ((cS bidders i_8).Waivers),(cS (cS cbidders i_8) 3)], .fr F1]) (fun z=>True) ?_ ?_
      ·refine fO ?_;refine gX ?_;refine db rfl rfl rfl (fun h10=>?_) (fun h10=>?_)
       ·have p10:=of_decide_eq_true h10;refine iz ?_;exact cY () trivial (.c (.c (.c (.c (.c (.b (dQ h10).symm .nil)))))) (List.Sublist.refl _)
       ·have p10:=of_decide_eq_false h10;refine fR ?_;refine hY ?_;exact cY () trivial (.c (.c (.c (.c (.c (.b (fg h10) .nil)))))) (List.Sublist.refl _)
      ·rintro _ _;refine T.cond rfl (fun h11=>?_) (fun h11=>?_)
       ·replace hk:=dj hk h11;refine kR ?_;obtain rfl:=Option.some.inj hk;exact dS
       ·have p11:=h11; (try simp only [gH] at p11);replace hk:=di hk h11;refine q35 ?_;refine c9 (ι:=Unit) (fun z=>[(0,vl),(7, .pointer (some ⟨g7,0,none⟩)),(16,vbidders),(17, .int .i64 (bidders.length:Int)),(18, .int .i64 (i_8:Int)),(48, .bool ((((decide ((cS bidders i_8).Eligibility<0))||(decide (76800000<(cS bidders i_8).Eligibility)))||(decide ((cS bidders i_8).Waivers<0)))||(decide (3<(cS bidders i_8).Waivers))))]) (fun z=>[.row g7 57 [.int .i64 ((cS bidders i_8).ID), .int .i64 ((cS bidders i_8).Eligibility), .int .i64 ((cS bidders i_8).Waivers),(cS (cS cbidders i_8) 3)], .fr F1]) (fun z=>True) ?_ ?_
        ·refine li ?_;refine d4 ?_;refine db rfl rfl rfl (fun h12=>?_) (fun h12=>?_)
         ·have p12:=of_decide_eq_true h12;refine q3W ?_;exact cY () trivial (.c (.c (.c (.c (.c (.b (dQ (dQ (dQ h12))).symm .nil)))))) (List.Sublist.refl _)
         ·have p12:=of_decide_eq_false h12;refine gX ?_;refine db rfl rfl rfl (fun h13=>?_) (fun h13=>?_)
          ·have p13:=of_decide_eq_true h13;refine q2V ?_;exact cY () trivial (.c (.c (.c (.c (.c (.b (dQ (dQ (dZ h12 h13))).symm .nil)))))) (List.Sublist.refl _)
          ·have p13:=of_decide_eq_false h13;refine gX ?_;refine db rfl rfl rfl (fun h14=>?_) (fun h14=>?_)
           ·have p14:=of_decide_eq_true h14;refine iz ?_;exact cY () trivial (.c (.c (.c (.c (.c (.b (dQ (dZ (dZ h12 h13) h14)).symm .nil)))))) (List.Sublist.refl _)
           ·have p14:=of_decide_eq_false h14;refine fR ?_;refine hY ?_;exact cY () trivial (.c (.c (.c (.c (.c (.b (fg (dZ (dZ h12 h13) h14)) .nil)))))) (List.Sublist.refl _)
        ·rintro _ _;refine T.cond rfl (fun h15=>?_) (fun h15=>?_)
         ·replace hk:=dj hk h15;refine kR ?_;obtain rfl:=Option.some.inj hk;exact dS
         ·have p15:=h15; (try simp only [gH] at p15);replace hk:=di hk h15;refine q35 ?_; (try dsimp only at hk);have hq:=dP hk;clear hk;obtain ⟨k17,hk17,hk⟩:=hq; (try dsimp only at hk);refine c9 (ι:=Bool) (fun z=>[(0,vl),(7, .pointer (some ⟨g7,0,none⟩)),(16,vbidders),(17, .int .i64 (bidders.length:Int)),(18, .int .i64 (i_8:Int)),(62, .bool z)]) (fun z=>[.row g7 57 [.int .i64 ((cS bidders i_8).ID), .int .i64 ((cS bidders i_8).Eligibility), .int .i64 ((cS bidders i_8).Waivers),(cS (cS cbidders i_8) 3)], .fr F1]) (fun z=>k17 z=some r) ?_ ?_
          ·refine dL (sN 0 3 (.eff 3 (sN 4 5 (sN 10 2 (.eff 9 (.still 12 (.still 13 .done))))))) _ b5 (List.Sublist.refl _) ?_;refine eN ?_;refine lu ?_;refine c5 rfl (cW) rfl rfl (da rfl rfl rfl (fun w hw=>zfE _ w (hw.fr (i:=1) rfl) l vl hl ((cS bidders i_8).Blocks) (cS (cS cbidders i_8) 3) hd21_3)) ?_;refine q4d ?_;refine eD ?_;refine ep rfl rfl rfl rfl (fun h18=>?_) (fun h18=>?_)
           ·replace hk:=dj hk h18;refine TS.run 5 rfl ?_;refine j8 ?_;refine jq ?_;exact cY true hk (.c (.c (.c (.c (.c (.c .nil)))))) (List.Sublist.refl _)
           ·replace hk:=di hk h18;refine eN ?_;refine gh ?_;refine lu ?_;have hq:=dm hk;clear hk;obtain ⟨r58,hr58,hk⟩:=hq;refine c5 rfl (Wt.some) rfl rfl (da rfl rfl rfl (fun w hw=>zfq _ w (hw.fr (i:=1) rfl) l vl hl ((cS bidders i_8).Blocks) (cS (cS cbidders i_8) 3) hd21_3 r58 hr58)) ?_;refine q4d ?_;refine jq ?_;exact cY (decide ((cS bidders i_8).Eligibility<r58)) hk (.c (.c (.c (.c (.c (.c .nil)))))) (List.Sublist.refl _)
          ·rintro x_16 hk;rw [←hk17] at hk; (try dsimp only at hk);refine T.cond rfl (fun h19=>?_) (fun h19=>?_)
           ·replace hk:=dj hk h19;refine kR ?_;obtain rfl:=Option.some.inj hk;exact dS
           ·replace hk:=di hk h19;refine T.skip (K.seq (T.region ?_));refine jO ?_;refine iH ?_;rw [←hn7] at hk;refine jf ?_;exact K.next ((i_8+1),(cS bidders i_8).ID) hk b6 (.c (.c (.c (.c (.c .nil))))) (List.Sublist.refl _)
     ·have p9:=of_decide_eq_false h9;rw [eY a7,←hkk7] at hk; (try dsimp only at hk);refine ek ?_;exact jh
   ·rintro _ hk;rw [←hk5] at hk; (try dsimp only at hk);refine iU ?_;obtain rfl:=Option.some.inj hk;exact dS
def zcs (x_:GBidder)(xf0_:GBid):Bool:=
 (decide (x_.ID=xf0_.Bidder))
theorem zfp (F0:Frz)(w:World)(hF0:F0.At w)(x_:GBidder)(vx__3:Value)(hx__3:SlC F0 vx__3 1 (x_.Blocks.map eI))(xf0_:GBid)(gf0_:Nat)(vf0_4:Value)(hf0_4:SlC F0 vf0_4 1 (xf0_.Point.Num.Digits.map (eK .u8)))(vf0_6:Value)(hf0_6:SlC F0 vf0_6 1 (xf0_.Point.Den.Digits.map (eK .u8)))(hO:Hp w (dx [.row gf0_ 79 [.int .i64 xf0_.Bidder, .int .i64 xf0_.Product, .int .i64 xf0_.Change, .bool xf0_.Point.Num.Neg,vf0_4, .bool xf0_.Point.Den.Neg,vf0_6]]) [.row gf0_ 79 [.int .i64 xf0_.Bidder, .int .i64 xf0_.Product, .int .i64 xf0_.Change, .bool xf0_.Point.Num.Neg,vf0_4, .bool xf0_.Point.Den.Neg,vf0_6]] w)(hA:∀g,dx [.row gf0_ 79 [.int .i64 xf0_.Bidder, .int .i64 xf0_.Product, .int .i64 xf0_.Change, .bool xf0_.Point.Num.Neg,vf0_4, .bool xf0_.Point.Den.Neg,vf0_6]] g→¬F0.S g):Calls Tryz.prog 141 #[.agg [.int .i64 x_.ID, .int .i64 x_.Eligibility, .int .i64 x_.Waivers,vx__3].toArray, .pointer (some ⟨gf0_,0,none⟩)] w fun e w'=>∃(y:Unit),(True)∧e= .returned (.bool (zcs x_ xf0_))∧FxM F0 w (dx [.row gf0_ 79 [.int .i64 xf0_.Bidder, .int .i64 xf0_.Product, .int .i64 xf0_.Change, .bool xf0_.Point.Num.Neg,vf0_4, .bool xf0_.Point.Den.Neg,vf0_6]]) F0 [.row gf0_ 79 [.int .i64 xf0_.Bidder, .int .i64 xf0_.Product, .int .i64 xf0_.Change, .bool xf0_.Point.Num.Neg,vf0_4, .bool xf0_.Point.Den.Neg,vf0_6]] w':=by
 obtain ⟨r,hk⟩:∃r,zcs x_ xf0_=r:=⟨_,rfl⟩;rw [hk];unfold zcs at hk;haveI:=hx__3.oneC;haveI:=hf0_4.oneC;haveI:=hf0_6.oneC;obtain ⟨S0,F1,rfl,hS0,hp0⟩:=fJ hF0 hO hA;refine dG (hs:=[.row gf0_ 79 [.int .i64 xf0_.Bidder, .int .i64 xf0_.Product, .int .i64 xf0_.Change, .bool xf0_.Point.Num.Neg,vf0_4, .bool xf0_.Point.Den.Neg,vf0_6], .fr F1]) Tryz.func141 rfl rfl rfl hp0 ?_;refine fV ?_;rintro _ _ ⟨g2,rfl,rfl⟩;refine iL ?_;refine fR ?_;refine jc ?_;refine q4a ?_;subst hk;exact q4G
def zat (s:List GBidder)(x1c0_:GBid):Int:=
 dF (fun (_:Unit)=>
  (-1))
 (fun k1=>
  dq (fun (i_3:Nat) (next2:Unit→Int) (_:Unit)=>
   (bif (zcs (cS s i_3) x1c0_) then
    (i_3:Int)
    else
    next2 ()))
  (fun (_:Unit)=>
   k1 ()) (s.length - 0) 0 ())
theorem zbG (F0:Frz)(w:World)(hF0:F0.At w)(s:List GBidder)(vs:Value)(cs:List (List Value))(hs:SlD cT F0 vs 4 cs s)(x1c0_:GBid)(g1c0_:Nat)(v1c0_4:Value)(h1c0_4:SlC F0 v1c0_4 1 (x1c0_.Point.Num.Digits.map (eK .u8)))(v1c0_6:Value)(h1c0_6:SlC F0 v1c0_6 1 (x1c0_.Point.Den.Digits.map (eK .u8)))(hO:Hp w (dx [.row g1c0_ 79 [.int .i64 x1c0_.Bidder, .int .i64 x1c0_.Product, .int .i64 x1c0_.Change, .bool x1c0_.Point.Num.Neg,v1c0_4, .bool x1c0_.Point.Den.Neg,v1c0_6]]) [.row g1c0_ 79 [.int .i64 x1c0_.Bidder, .int .i64 x1c0_.Product, .int .i64 x1c0_.Change, .bool x1c0_.Point.Num.Neg,v1c0_4, .bool x1c0_.Point.Den.Neg,v1c0_6]] w)(hA:∀g,dx [.row g1c0_ 79 [.int .i64 x1c0_.Bidder, .int .i64 x1c0_.Product, .int .i64 x1c0_.Change, .bool x1c0_.Point.Num.Neg,v1c0_4, .bool x1c0_.Point.Den.Neg,v1c0_6]] g→¬F0.S g):Calls Tryz.prog 118 #[vs, .func (.func 141) #[] #[.pointer (some ⟨g1c0_,0,none⟩)]] w fun e w'=>∃(y:Unit),(True)∧e= .returned (.int .i64 (zat s x1c0_))∧FxM F0 w (dx [.row g1c0_ 79 [.int .i64 x1c0_.Bidder, .int .i64 x1c0_.Product, .int .i64 x1c0_.Change, .bool x1c0_.Point.Num.Neg,v1c0_4, .bool x1c0_.Point.Den.Neg,v1c0_6]]) F0 [.row g1c0_ 79 [.int .i64 x1c0_.Bidder, .int .i64 x1c0_.Product, .int .i64 x1c0_.Change, .bool x1c0_.Point.Num.Neg,v1c0_4, .bool x1c0_.Point.Den.Neg,v1c0_6]] w':=by
 obtain ⟨r,hk⟩:∃r,zat s x1c0_=r:=⟨_,rfl⟩;rw [hk];unfold zat at hk;haveI:=hs.1.oneC;haveI:=h1c0_4.oneC;haveI:=h1c0_6.oneC;obtain ⟨S0,F1,rfl,hS0,hp0⟩:=fJ hF0 hO hA;refine dG (hs:=[.row g1c0_ 79 [.int .i64 x1c0_.Bidder, .int .i64 x1c0_.Product, .int .i64 x1c0_.Change, .bool x1c0_.Point.Num.Neg,v1c0_4, .bool x1c0_.Point.Den.Neg,v1c0_6], .fr F1]) Tryz.func118 rfl rfl rfl hp0 ?_;refine ia ?_;refine cU (dn rfl rfl hs.1 hs.2.1) ?_;have hm7:s.length≤9223372036854775807:=hs.2.1▸hs.1.max;refine dJ ?_;have hq:=dP hk;clear hk;obtain ⟨k1,hk1,hk⟩:=hq; (try dsimp only at hk);refine c9 (ι:=Unit) (fun z=>[]) (fun z=>[.row g1c0_ 79 [.int .i64 x1c0_.Bidder, .int .i64 x1c0_.Product, .int .i64 x1c0_.Change, .bool x1c0_.Point.Num.Neg,v1c0_4, .bool x1c0_.Point.Den.Neg,v1c0_6], .fr F1]) (fun z=>k1 ()=r) ?_ ?_
 ·have hq:=eX hk;clear hk;obtain ⟨f2,kk2,hf2,hkk2,hk⟩:=hq;refine ed ?_;refine T.loop (ι:=Nat) (fun z=>[(0,vs),(1, .func (.func 141) #[] #[.pointer (some ⟨g1c0_,0,none⟩)]),(7, .int .i64 (s.length:Int)),(8, .int .i64 (z:Int))]) (fun z=>[.row g1c0_ 79 [.int .i64 x1c0_.Bidder, .int .i64 x1c0_.Product, .int .i64 x1c0_.Change, .bool x1c0_.Point.Num.Neg,v1c0_4, .bool x1c0_.Point.Den.Neg,v1c0_6], .fr F1]) (fun z=>dq f2 kk2 (s.length - z) z ()=r) (fun z=>s.length - z) 0 ?_ ?_ ?_ ?_
  ·exact hk
  ·exact gR
  ·exact eb
  ·rintro i_3 hk;refine eM ?_;refine T.cond rfl (fun h4=>?_) (fun h4=>?_)
   ·have p4:=of_decide_eq_true h4;rw [eW a7] at hk;generalize hn2:dq f2 kk2 (s.length - (i_3+1)) (i_3+1)=next2 at hk;rw [←hf2] at hk; (try dsimp only at hk);refine q2O ?_;have hd15_3:=(dM (hs.2.2 i_3 a7)).2;haveI:=hd15_3.oneC;refine cZ (dB [0,1] [.row g1c0_ 79 [.int .i64 x1c0_.Bidder, .int .i64 x1c0_.Product, .int .i64 x1c0_.Change, .bool x1c0_.Point.Num.Neg,v1c0_4, .bool x1c0_.Point.Den.Neg,v1c0_6]] [] rfl rfl rfl rfl a8 (fun w hw hw2 hF=>zfp _ w hF (cS s i_3) (cS (cS cs i_3) 3) hd15_3 x1c0_ g1c0_ v1c0_4 h1c0_4 v1c0_6 h1c0_6 hw2.takes.1 hw2.takes.2)) ?_;rintro _ _ ⟨⟨⟩, -,rfl,rfl⟩;refine kj ?_;refine T.cond rfl (fun h5=>?_) (fun h5=>?_)
    ·replace hk:=dj hk h5;refine fM ?_;refine q0Y ?_;subst hk;exact kf
    ·replace hk:=di hk h5;refine q4c ?_;rw [←hn2] at hk;exact q4C
   ·have p4:=of_decide_eq_false h4;rw [eY a7,←hkk2] at hk; (try dsimp only at hk);refine ek ?_;exact jh
 ·rintro _ hk;rw [←hk1] at hk; (try dsimp only at hk);refine iU ?_;subst hk;exact kf
def zas (s:List GBidder)(x1c0_:GBid):Bool:=
 (decide (0≤(zat s x1c0_)))
theorem zbz (F0:Frz)(w:World)(hF0:F0.At w)(s:List GBidder)(vs:Value)(cs:List (List Value))(hs:SlD cT F0 vs 4 cs s)(x1c0_:GBid)(g1c0_:Nat)(v1c0_4:Value)(h1c0_4:SlC F0 v1c0_4 1 (x1c0_.Point.Num.Digits.map (eK .u8)))(v1c0_6:Value)(h1c0_6:SlC F0 v1c0_6 1 (x1c0_.Point.Den.Digits.map (eK .u8)))(hO:Hp w (dx [.row g1c0_ 79 [.int .i64 x1c0_.Bidder, .int .i64 x1c0_.Product, .int .i64 x1c0_.Change, .bool x1c0_.Point.Num.Neg,v1c0_4, .bool x1c0_.Point.Den.Neg,v1c0_6]]) [.row g1c0_ 79 [.int .i64 x1c0_.Bidder, .int .i64 x1c0_.Product, .int .i64 x1c0_.Change, .bool x1c0_.Point.Num.Neg,v1c0_4, .bool x1c0_.Point.Den.Neg,v1c0_6]] w)(hA:∀g,dx [.row g1c0_ 79 [.int .i64 x1c0_.Bidder, .int .i64 x1c0_.Product, .int .i64 x1c0_.Change, .bool x1c0_.Point.Num.Neg,v1c0_4, .bool x1c0_.Point.Den.Neg,v1c0_6]] g→¬F0.S g):Calls Tryz.prog 140 #[vs, .func (.func 141) #[] #[.pointer (some ⟨g1c0_,0,none⟩)]] w fun e w'=>∃(y:Unit),(True)∧e= .returned (.bool (zas s x1c0_))∧FxM F0 w (dx [.row g1c0_ 79 [.int .i64 x1c0_.Bidder, .int .i64 x1c0_.Product, .int .i64 x1c0_.Change, .bool x1c0_.Point.Num.Neg,v1c0_4, .bool x1c0_.Point.Den.Neg,v1c0_6]]) F0 [.row g1c0_ 79 [.int .i64 x1c0_.Bidder, .int .i64 x1c0_.Product, .int .i64 x1c0_.Change, .bool x1c0_.Point.Num.Neg,v1c0_4, .bool x1c0_.Point.Den.Neg,v1c0_6]] w':=by
 obtain ⟨r,hk⟩:∃r,zas s x1c0_=r:=⟨_,rfl⟩;rw [hk];unfold zas at hk;haveI:=hs.1.oneC;haveI:=h1c0_4.oneC;haveI:=h1c0_6.oneC;obtain ⟨S0,F1,rfl,hS0,hp0⟩:=fJ hF0 hO hA;refine dG (hs:=[.row g1c0_ 79 [.int .i64 x1c0_.Bidder, .int .i64 x1c0_.Product, .int .i64 x1c0_.Change, .bool x1c0_.Point.Num.Neg,v1c0_4, .bool x1c0_.Point.Den.Neg,v1c0_6], .fr F1]) Tryz.func140 rfl rfl rfl hp0 ?_;refine io ?_;refine d4 ?_;refine cZ (dB [0,1] [.row g1c0_ 79 [.int .i64 x1c0_.Bidder, .int .i64 x1c0_.Product, .int .i64 x1c0_.Change, .bool x1c0_.Point.Num.Neg,v1c0_4, .bool x1c0_.Point.Den.Neg,v1c0_6]] [] rfl rfl rfl rfl a8 (fun w hw hw2 hF=>zbG _ w hF s vs cs hs x1c0_ g1c0_ v1c0_4 h1c0_4 v1c0_6 h1c0_6 hw2.takes.1 hw2.takes.2)) ?_;rintro _ _ ⟨⟨⟩, -,rfl,rfl⟩;refine eG ?_;refine q4a ?_;subst hk;exact kf
def zdy (l:List GProduct)(bidders:List GBidder)(bids:List GBid):Option Bool:=
 dF (fun (x_1:Bool)=>
  (bif x_1 then
   some false
   else
   dF (fun (_:Unit)=>
    some true)
   (fun k5=>
    dq (fun (i_8:Nat) (next7:Int→Option Bool) (last_6:Int)=>
     (bif (((decide ((cS bids i_8).Bidder<last_6))||(decide ((cS bids i_8).Product<0)))||(decide ((l.length:Int)≤(cS bids i_8).Product))) then
      some false
      else
      (bif (((decide ((cS bids i_8).Change<(-12)))||(decide (12<(cS bids i_8).Change)))||(decide ((cS bids i_8).Change=0))) then
       some false
       else
       (bif !(zas bidders (cS bids i_8)) then
        some false
        else
        next7 ((cS bids i_8).Bidder)))))
    (fun (last_6:Int)=>
     k5 ()) (bids.length - 0) 0 0)))
 (fun k2=>
  (bif decide (128<(bids.length:Int)) then
   k2 true
   else
   (kH l bidders).bind fun r16=>
   k2 (!r16)))
theorem zfJ (F0:Frz)(w:World)(hF0:F0.At w)(l:List GProduct)(vl:Value)(hl:SlC F0 vl 5 (l.map cV))(bidders:List GBidder)(vbidders:Value)(cbidders:List (List Value))(hbidders:SlD cT F0 vbidders 4 cbidders bidders)(bids:List GBid)(vbids:Value)(cbids:List (List Value))(hbids:SlD c7 F0 vbids 7 cbids bids)(r:Bool)(hr:zdy l bidders bids=some r):Calls Tryz.prog 58 #[vl,vbidders,vbids] w fun e w'=>e= .returned (.bool r)∧Below w.heap.size w w':=by
 have hk:=hr;unfold zdy at hk;haveI:=hl.oneC;haveI:=hbidders.1.oneC;haveI:=hbids.1.oneC;obtain ⟨S0,F1,rfl,hS0,hp0⟩:=dY hF0;refine dG Tryz.func58 rfl rfl rfl hp0 ?_;refine fS ?_;refine hI ?_; (try dsimp only at hk);have hq:=dP hk;clear hk;obtain ⟨k2,hk2,hk⟩:=hq; (try dsimp only at hk);refine c9 (ι:=Bool) (fun z=>[(0,vl),(1,vbidders),(2,vbids),(18, .bool z)]) (fun z=>[.fr F1]) (fun z=>k2 z=some r) ?_ ?_
 ·refine ec ?_;refine cU (dn rfl rfl hbids.1 hbids.2.1) ?_;have hm11:bids.length≤9223372036854775807:=hbids.2.1▸hbids.1.max;refine d4 ?_;refine db rfl rfl rfl (fun h3=>?_) (fun h3=>?_)
  ·have p3:=of_decide_eq_true h3;replace hk:=dj hk h3;refine jH ?_;exact q4V
  ·have p3:=of_decide_eq_false h3;replace hk:=di hk h3;refine d4 ?_;have hq:=dm hk;clear hk;obtain ⟨r16,hr16,hk⟩:=hq;refine cZ (da rfl rfl rfl (fun w hw=>zbU _ w (hw.fr (i:=0) rfl) l vl hl bidders vbidders cbidders hbidders r16 hr16)) ?_;refine jB ?_;exact cY (!r16) hk (.c (.c (.c (.c .nil)))) (List.Sublist.refl _)
 ·rintro x_1 hk;rw [←hk2] at hk; (try dsimp only at hk);refine T.cond rfl (fun h4=>?_) (fun h4=>?_)
  ·replace hk:=dj hk h4;refine gw ?_;obtain rfl:=Option.some.inj hk;exact dS
  ·replace hk:=di hk h4;refine ik ?_;refine ip ?_;refine cU (dn rfl rfl hbids.1 hbids.2.1) ?_;have hm20:bids.length≤9223372036854775807:=hbids.2.1▸hbids.1.max;refine dJ ?_;have hq:=dP hk;clear hk;obtain ⟨k5,hk5,hk⟩:=hq; (try dsimp only at hk);refine c9 (ι:=Unit) (fun z=>[]) (fun z=>[.fr F1]) (fun z=>k5 ()=some r) ?_ ?_
   ·have hq:=eX hk;clear hk;obtain ⟨f7,kk7,hf7,hkk7,hk⟩:=hq;refine ed ?_;refine T.loop (ι:=Nat×Int) (fun z=>[(0,vl),(1,vbidders),(7, .int .i64 z.2),(19,vbids),(20, .int .i64 (bids.length:Int)),(21, .int .i64 (z.1:Int))]) (fun z=>[.fr F1]) (fun z=>dq f7 kk7 (bids.length - z.1) z.1 z.2=some r) (fun z=>bids.length - z.1) (0,0) ?_ ?_ ?_ ?_
    ·exact hk
    ·exact kI
    ·exact eb
    ·rintro ⟨i_8,last_6⟩ hk; (try dsimp only at *);refine eM ?_;refine T.cond rfl (fun h9=>?_) (fun h9=>?_)
     ·have p9:=of_decide_eq_true h9;rw [eW a7] at hk;generalize hn7:dq f7 kk7 (bids.length - (i_8+1)) (i_8+1)=next7 at hk;rw [←hf7] at hk; (try dsimp only at hk);refine jv ?_;refine cU (dc (i:=i_8) rfl rfl rfl hbids.1 hbids.2.1 rfl a7) ?_;refine cU (eV 0 (i:=i_8) (j:=0) rfl rfl rfl hbids.1 hbids.2.1 a7 rfl (eA (hbids.2.2 i_8 a7))) ?_;have hd24_4:=(fe (hbids.2.2 i_8 a7)).2;haveI:=hd24_4.oneC;have hd24_6:=(fc (hbids.2.2 i_8 a7)).2;haveI:=hd24_6.oneC;refine fv ?_;rintro _ _ ⟨g9,rfl,rfl⟩;refine fx ?_;refine hI ?_;refine c9 (ι:=Unit) (fun z=>[(0,vl),(1,vbidders),(9, .pointer (some ⟨g9,0,none⟩)),(19,vbids),(20, .int .i64 (bids.length:Int)),(21, .int .i64 (i_8:Int)),(40, .bool (((decide ((cS bids i_8).Bidder<last_6))||(decide ((cS bids i_8).Product<0)))||(decide ((l.length:Int)≤(cS bids i_8).Product))))]) (fun z=>[.row g9 79 [.int .i64 ((cS bids i_8).Bidder), .int .i64 ((cS bids i_8).Product), .int .i64 ((cS bids i_8).Change), .bool ((cS bids i_8).Point.Num.Neg),(cS (cS cbids i_8) 4), .bool ((cS bids i_8).Point.Den.Neg),(cS (cS cbids i_8) 6)], .fr F1]) (fun z=>True) ?_ ?_
      ·refine fO ?_;refine gX ?_;refine db rfl rfl rfl (fun h10=>?_) (fun h10=>?_)
       ·have p10:=of_decide_eq_true h10;refine TL.run 11 rfl ?_;refine e7 ?_;exact cY () trivial (.c (.c (.c (.c (.c (.c (.b (dQ (dQ h10)).symm .nil))))))) (List.Sublist.refl _)
       ·have p10:=of_decide_eq_false h10;refine gX ?_;refine db rfl rfl rfl (fun h11=>?_) (fun h11=>?_)
        ·have p11:=of_decide_eq_true h11;refine q3b ?_;exact cY () trivial (.c (.c (.c (.c (.c (.c (.b (dQ (dZ h10 h11)).symm .nil))))))) (List.Sublist.refl _)
        ·have p11:=of_decide_eq_false h11;refine jO ?_;refine j4 ?_;have hm38:l.length≤9223372036854775807:=(List.length_map _)▸hl.max;refine hY ?_;exact cY () trivial (.c (.c (.c (.c (.c (.c (.b (fg (dZ h10 h11)) .nil))))))) (List.Sublist.refl _)
      ·rintro _ _;have hm38:l.length≤9223372036854775807:=(List.length_map _)▸hl.max;refine T.cond rfl (fun h12=>?_) (fun h12=>?_)
       ·replace hk:=dj hk h12;refine kR ?_;obtain rfl:=Option.some.inj hk;exact dS
       ·have p12:=h12; (try simp only [gH] at p12);replace hk:=di hk h12;refine q35 ?_;refine c9 (ι:=Unit) (fun z=>[(0,vl),(1,vbidders),(9, .pointer (some ⟨g9,0,none⟩)),(19,vbids),(20, .int .i64 (bids.length:Int)),(21, .int .i64 (i_8:Int)),(53, .bool (((decide ((cS bids i_8).Change<(-12)))||(decide (12<(cS bids i_8).Change)))||(decide ((cS bids i_8).Change=0))))]) (fun z=>[.row g9 79 [.int .i64 ((cS bids i_8).Bidder), .int .i64 ((cS bids i_8).Product), .int .i64 ((cS bids i_8).Change), .bool ((cS bids i_8).Point.Num.Neg),(cS (cS cbids i_8) 4), .bool ((cS bids i_8).Point.Den.Neg),(cS (cS cbids i_8) 6)], .fr F1]) (fun z=>True) ?_ ?_
        ·refine li ?_;refine d4 ?_;refine db rfl rfl rfl (fun h13=>?_) (fun h13=>?_)
         ·have p13:=of_decide_eq_true h13;refine q2V ?_;exact cY () trivial (.c (.c (.c (.c (.c (.c (.b (dQ (dQ h13)).symm .nil))))))) (List.Sublist.refl _)
         ·have p13:=of_decide_eq_false h13;refine gX ?_;refine db rfl rfl rfl (fun h14=>?_) (fun h14=>?_)
          ·have p14:=of_decide_eq_true h14;refine iz ?_;exact cY () trivial (.c (.c (.c (.c (.c (.c (.b (dQ (dZ h13 h14)).symm .nil))))))) (List.Sublist.refl _)
          ·have p14:=of_decide_eq_false h14;refine fR ?_;refine hY ?_;exact cY () trivial (.c (.c (.c (.c (.c (.c (.b (fg (dZ h13 h14)) .nil))))))) (List.Sublist.refl _)
        ·rintro _ _;refine T.cond rfl (fun h15=>?_) (fun h15=>?_)
         ·replace hk:=dj hk h15;refine kR ?_;obtain rfl:=Option.some.inj hk;exact dS
         ·have p15:=h15; (try simp only [gH] at p15);replace hk:=di hk h15;refine il ?_;refine d4 ?_;refine cZ (dB [0,1] [.row g9 79 [.int .i64 ((cS bids i_8).Bidder), .int .i64 ((cS bids i_8).Product), .int .i64 ((cS bids i_8).Change), .bool ((cS bids i_8).Point.Num.Neg),(cS (cS cbids i_8) 4), .bool ((cS bids i_8).Point.Den.Neg),(cS (cS cbids i_8) 6)]] [] rfl rfl rfl rfl a8 (fun w hw hw2 hF=>zbz _ w hF bidders vbidders cbidders hbidders (cS bids i_8) g9 (cS (cS cbids i_8) 4) hd24_4 (cS (cS cbids i_8) 6) hd24_6 hw2.takes.1 hw2.takes.2)) ?_;rintro _ _ ⟨⟨⟩, -,rfl,rfl⟩;refine eG ?_;refine dJ ?_;refine T.cond rfl (fun h16=>?_) (fun h16=>?_)
          ·replace hk:=dj hk h16;refine kR ?_;obtain rfl:=Option.some.inj hk;exact dS
          ·replace hk:=di hk h16;refine T.skip (K.seq (T.region ?_));refine jO ?_;refine iH ?_;rw [←hn7] at hk;refine jf ?_;exact K.next ((i_8+1),(cS bids i_8).Bidder) hk b6 (.c (.c (.c (.c (.c (.c .nil)))))) (List.Sublist.refl _)
     ·have p9:=of_decide_eq_false h9;rw [eY a7,←hkk7] at hk; (try dsimp only at hk);refine ek ?_;exact jh
   ·rintro _ hk;rw [←hk5] at hk; (try dsimp only at hk);refine iU ?_;obtain rfl:=Option.some.inj hk;exact dS
def zc7 (l:List GProduct)(bidders:List GBidder):Option (List Int×Int):=
 (kH l bidders).bind fun r13=>
 (bif !r13 then
  some ([],2)
  else
  dl (df l.length 8) <|
  dF (fun (l_2:List Int)=>
   some (l_2,0))
  (fun k3=>
   dq (fun (i_6:Nat) (next5:List Int→Option (List Int×Int)) (l_4:List Int)=>
    dq (fun (i_10:Nat) (next9:List Int→Option (List Int×Int)) (l_8:List Int)=>
     dl (0≤(i_10:Int)∧(i_10:Int)<(l_8.length:Int)) <|
     next9 (l_8.set i_10 (wI ((cS l_8 i_10)+(cS ((cS bidders i_6).Blocks) i_10)))))
    (fun (l_8:List Int)=>
     next5 l_8) ((((cS bidders i_6).Blocks).length) - 0) 0 l_4)
   (fun (l_4:List Int)=>
    k3 l_4) (bidders.length - 0) 0 (List.replicate l.length (0:Int))))
theorem zgI (F0:Frz)(w:World)(hF0:F0.At w)(l:List GProduct)(vl:Value)(hl:SlC F0 vl 5 (l.map cV))(bidders:List GBidder)(vbidders:Value)(cbidders:List (List Value))(hbidders:SlD cT F0 vbidders 4 cbidders bidders)(r:List Int×Int)(hr:zc7 l bidders=some r):Calls Tryz.prog 67 #[vl,vbidders] w fun e w'=>∃(y:Value),(True)∧e= .returned (.tuple #[y, .int .i64 r.2])∧FxM F0 w (dx []) F0 [.sl y 3 1 r.1.length (r.1.flatMap eI)] w':=by
 have hk:=hr;unfold zc7 at hk;haveI:=hl.oneC;haveI:=hbidders.1.oneC;obtain ⟨S0,F1,rfl,hS0,hp0⟩:=dY hF0;rw [zgt];refine dG Tryz.func67 rfl rfl rfl hp0 ?_;refine fM ?_;refine hI ?_;have hq:=dm hk;clear hk;obtain ⟨r13,hr13,hk⟩:=hq; (try dsimp only at hk);refine eo ?_;refine cZ (da rfl rfl rfl (fun w hw=>zbU _ w (hw.fr (i:=0) rfl) l vl hl bidders vbidders cbidders hbidders r13 hr13)) ?_;refine kG ?_;refine T.cond rfl (fun h1=>?_) (fun h1=>?_)
 ·replace hk:=dj hk h1;refine jp ?_;refine K.slNil 3 1 ?_;obtain rfl:=Option.some.inj hk;exact eF rfl rfl rfl (fun w' hw=>⟨(.slice none 0 0),trivial,rfl,dk (hw.pick (idx:=[0,1]) rfl a8) hS0 (Frz.Le.refl _)⟩)
 ·replace hk:=di hk h1;refine fD ?_;have hq:(df l.length 8)∧_:=dp hk;clear hk;obtain ⟨g17,hk⟩:=hq; (try dsimp only at hk);refine ec ?_;refine j4 ?_;have hm16:l.length≤9223372036854775807:=(List.length_map _)▸hl.max;refine cZ (fG (n':=l.length) (enc:=eI) (u:=(0:Int)) rfl rfl rfl rfl g17 a8 a8 (fun _=>rfl) rfl) ?_;rintro v17 _ ⟨hv17,rfl⟩;refine i8 ?_;intro iv17 hmv17;refine ip ?_;refine q2D ?_;have hm19:bidders.length≤9223372036854775807:=hbidders.2.1▸hbidders.1.max;refine dJ ?_;have hq:=dP hk;clear hk;obtain ⟨k3,hk3,hk⟩:=hq; (try dsimp only at hk);refine c9 (ι:=List Int) (fun z=>[(6,v17)]) (fun z=>[.sl v17 3 1 z.length (z.flatMap eI), .fr F1]) (fun z=>k3 z=some r) ?_ ?_
  ·have hq:=eX hk;clear hk;obtain ⟨f5,kk5,hf5,hkk5,hk⟩:=hq;refine ed ?_;refine T.loop (ι:=Nat×List Int) (fun z=>[(6,v17),(18,vbidders),(19, .int .i64 (bidders.length:Int)),(20, .int .i64 (z.1:Int))]) (fun z=>[.sl v17 3 1 z.2.length (z.2.flatMap eI), .fr F1]) (fun z=>dq f5 kk5 (bidders.length - z.1) z.1 z.2=some r) (fun z=>bidders.length - z.1) (0,(List.replicate l.length (0:Int))) ?_ ?_ ?_ ?_
   ·exact hk
   ·exact gR
   ·exact eb
   ·rintro ⟨i_6,l_4⟩ hk; (try dsimp only at *);refine eM ?_;refine T.cond rfl (fun h7=>?_) (fun h7=>?_)
    ·have p7:=of_decide_eq_true h7;rw [eW a7] at hk;generalize hn5:dq f5 kk5 (bidders.length - (i_6+1)) (i_6+1)=next5 at hk;rw [←hf5] at hk; (try dsimp only at hk);refine jv ?_;refine cU (dc (i:=i_6) rfl rfl rfl hbidders.1 hbidders.2.1 rfl a7) ?_;refine cU (eV 1 (i:=i_6) (j:=0) rfl rfl rfl hbidders.1 hbidders.2.1 a7 rfl (d8 (hbidders.2.2 i_6 a7))) ?_;have hd23_3:=(dM (hbidders.2.2 i_6 a7)).2;haveI:=hd23_3.oneC;refine fv ?_;rintro _ _ ⟨g8,rfl,rfl⟩;refine fx ?_;refine ee ?_;refine fR ?_;refine cU (dn rfl rfl hd23_3 (List.length_map _)) ?_;have hm26:((cS bidders i_6).Blocks).length≤9223372036854775807:=(List.length_map _)▸hd23_3.max;refine dJ ?_;have hq:=eX hk;clear hk;obtain ⟨f9,kk9,hf9,hkk9,hk⟩:=hq;refine ed ?_;refine T.pick [1,2] rfl a8 ?_;refine T.loop (ι:=Nat×List Int) (fun z=>[(6,v17),(18,vbidders),(19, .int .i64 (bidders.length:Int)),(20, .int .i64 (i_6:Int)),(25,(cS (cS cbidders i_6) 3)),(26, .int .i64 (((cS bidders i_6).Blocks).length:Int)),(27, .int .i64 (z.1:Int))]) (fun z=>[.sl v17 3 1 z.2.length (z.2.flatMap eI), .fr F1]) (fun z=>dq f9 kk9 ((((cS bidders i_6).Blocks).length) - z.1) z.1 z.2=some r) (fun z=>(((cS bidders i_6).Blocks).length) - z.1) (0,l_4) ?_ ?_ ?_ ?_
     ·exact hk
     ·exact q4J
     ·exact eb
     ·rintro ⟨i_10,l_8⟩ hk; (try dsimp only at *);refine eM ?_;refine T.cond rfl (fun h11=>?_) (fun h11=>?_)
      ·have p11:=of_decide_eq_true h11;rw [eW a7] at hk;generalize hn9:dq f9 kk9 ((((cS bidders i_6).Blocks).length) - (i_10+1)) (i_10+1)=next9 at hk;rw [←hf9] at hk; (try dsimp only at hk);refine jE ?_;refine cU (dc (i:=i_10) rfl rfl rfl hd23_3 (List.length_map _) rfl a7) ?_;refine cU (dv 1 (i:=i_10) (j:=0) rfl rfl rfl hd23_3 a7) ?_;refine iZ ?_;have hq:(0≤(i_10:Int)∧(i_10:Int)<(l_8.length:Int))∧_:=dp hk;clear hk;obtain ⟨g34,hk⟩:=hq; (try dsimp only at hk);refine eo ?_;refine cU (dA 0 (i:=i_10) rfl rfl rfl rfl rfl a7) ?_;refine cU (dX 0 rfl rfl rfl a7 (gl (enc:=eI) (i:=i_10) (j:=0) (fun _=>rfl) a7 a8)) ?_;refine dr ?_;refine cU (dd (v:= .int .i64 (wI ((cS l_8 i_10)+(cS ((cS bidders i_6).Blocks) i_10))))) ?_;refine cU (dA 0 (i:=i_10) rfl rfl rfl rfl rfl a7) ?_;refine dz (ef 0 (k':=(l_8.set i_10 (wI ((cS l_8 i_10)+(cS ((cS bidders i_6).Blocks) i_10)))).length) (l':=(l_8.set i_10 (wI ((cS l_8 i_10)+(cS ((cS bidders i_6).Blocks) i_10)))).flatMap eI) rfl rfl rfl rfl a7 (gD (enc:=eI) (xs:=l_8) (i:=i_10) (j:=0) (size:=1) (fun _=>rfl) a7 a8 a7) (gF (enc:=eI) (xs:=l_8) (i:=i_10) (j:=0) (size:=1) (x:=(wI ((cS l_8 i_10)+(cS ((cS bidders i_6).Blocks) i_10)))) (fun _=>rfl) a7 a8 a7 rfl) (List.length_set ..)) ?_;refine dU ?_;refine iH ?_;rw [←hn9] at hk;exact K.next ((i_10+1),(l_8.set i_10 (wI ((cS l_8 i_10)+(cS ((cS bidders i_6).Blocks) i_10))))) hk b6 (.c (.c (.c (.c (.c (.c (.c .nil))))))) (List.Sublist.refl _)
      ·have p11:=of_decide_eq_false h11;rw [eY a7,←hkk9] at hk; (try dsimp only at hk);refine q2C ?_;refine hJ ?_;rw [←hn5] at hk;exact K.next ((i_6+1),l_8) hk b6 (.c (.c (.c (.c .nil)))) (List.Sublist.refl _)
    ·have p7:=of_decide_eq_false h7;rw [eY a7,←hkk5] at hk; (try dsimp only at hk);refine ek ?_;exact q4L
  ·rintro l_2 hk;rw [←hk3] at hk; (try dsimp only at hk);refine iM ?_;refine gp ?_;obtain rfl:=Option.some.inj hk;exact eF rfl rfl rfl (fun w' hw=>⟨v17,trivial,rfl,dk (hw.pick (idx:=[0,1]) rfl a8) hS0 (Frz.Le.refl _)⟩)
def zez (l:List GProduct)(blocks:List Int):Option Bool:=
 (zbK l).bind fun r6=>
 some (r6&&(kw l blocks))
theorem zgG (F0:Frz)(w:World)(hF0:F0.At w)(l:List GProduct)(vl:Value)(hl:SlC F0 vl 5 (l.map cV))(blocks:List Int)(vblocks:Value)(hblocks:SlC F0 vblocks 1 (blocks.map eI))(r:Bool)(hr:zez l blocks=some r):Calls Tryz.prog 241 #[vl,vblocks] w fun e w'=>e= .returned (.bool r)∧Below w.heap.size w w':=by
 have hk:=hr;unfold zez at hk;haveI:=hl.oneC;haveI:=hblocks.oneC;obtain ⟨S0,F1,rfl,hS0,hp0⟩:=dY hF0;refine dG Tryz.func241 rfl rfl rfl hp0 ?_;refine eM ?_;have hq:=dm hk;clear hk;obtain ⟨r6,hr6,hk⟩:=hq; (try dsimp only at hk);refine c9 (ι:=Unit) (fun z=>[(4, .bool (r6&&(kw l blocks)))]) (fun z=>[.fr F1]) (fun z=>True) ?_ ?_
 ·refine ec ?_;refine cZ (da rfl rfl rfl (fun w hw=>zcO _ w (hw.fr (i:=0) rfl) l vl hl r6 hr6)) ?_;refine dU ?_;refine dr ?_;refine db rfl rfl rfl (fun h1=>?_) (fun h1=>?_)
  ·refine d4 ?_;refine cZ (da rfl rfl rfl (fun w hw=>zfE _ w (hw.fr (i:=0) rfl) l vl hl blocks vblocks hblocks)) ?_;refine jB ?_;exact q4X
  ·refine jH ?_;exact q4Y
 ·rintro _ _;refine T.ret ?_;obtain rfl:=Option.some.inj hk;exact dS
def zey (l:List GProduct)(blocks:List Int):Option (Int×Int):=
 (zez l blocks).bind fun r8=>
 (bif !r8 then
  some (0,2)
  else
  (zcn l blocks).bind fun r12=>
  some (r12,0))
theorem zgM (F0:Frz)(w:World)(hF0:F0.At w)(l:List GProduct)(vl:Value)(hl:SlC F0 vl 5 (l.map cV))(blocks:List Int)(vblocks:Value)(hblocks:SlC F0 vblocks 1 (blocks.map eI))(r:Int×Int)(hr:zey l blocks=some r):Calls Tryz.prog 209 #[vl,vblocks] w fun e w'=>e= .returned (.tuple #[.int .i64 r.1, .int .i64 r.2])∧Below w.heap.size w w':=by
 have hk:=hr;unfold zey at hk;haveI:=hl.oneC;haveI:=hblocks.oneC;obtain ⟨S0,F1,rfl,hS0,hp0⟩:=dY hF0;refine dG Tryz.func209 rfl rfl rfl hp0 ?_;refine fM ?_;refine hI ?_;have hq:=dm hk;clear hk;obtain ⟨r8,hr8,hk⟩:=hq; (try dsimp only at hk);refine eo ?_;refine cZ (da rfl rfl rfl (fun w hw=>zgG _ w (hw.fr (i:=0) rfl) l vl hl blocks vblocks hblocks r8 hr8)) ?_;refine kG ?_;refine T.cond rfl (fun h1=>?_) (fun h1=>?_)
 ·replace hk:=dj hk h1;refine jp ?_;obtain rfl:=Option.some.inj hk;exact j7
 ·replace hk:=di hk h1;refine fD ?_;have hq:=dm hk;clear hk;obtain ⟨r12,hr12,hk⟩:=hq; (try dsimp only at hk);refine eo ?_;refine cZ (da rfl rfl rfl (fun w hw=>zfq _ w (hw.fr (i:=0) rfl) l vl hl blocks vblocks hblocks r12 hr12)) ?_;refine iy ?_;refine gp ?_;obtain rfl:=Option.some.inj hk;exact j7
def zdF (l:List GProduct)(b:GBidder):Option (Gholder×Bool):=
 (kH l [b]).bind fun r11=>
 (bif !r11 then
  some ((Gholder.mk (GBidder.mk 0 0 0 []) 0),false)
  else
  (zey l b.Blocks).bind fun r18=>
  some ((Gholder.mk (GBidder.mk b.ID b.Eligibility b.Waivers b.Blocks) r18.1),decide (r18.2=0)))
theorem ze6 (F0:Frz)(w:World)(hF0:F0.At w)(l:List GProduct)(vl:Value)(hl:SlC F0 vl 5 (l.map cV))(b:GBidder)(vb_3:Value)(hb_3:SlC F0 vb_3 1 (b.Blocks.map eI))(r:Gholder×Bool)(hr:zdF l b=some r):Calls Tryz.prog 151 #[vl, .agg [.int .i64 b.ID, .int .i64 b.Eligibility, .int .i64 b.Waivers,vb_3].toArray] w fun e w'=>∃(y:Value) (G:Frz),(SlC G y 1 (r.1.Bidder.Blocks.map eI))∧e= .returned (.tuple #[.agg [.int .i64 r.1.Bidder.ID, .int .i64 r.1.Bidder.Eligibility, .int .i64 r.1.Bidder.Waivers,y, .int .i64 r.1.units].toArray, .bool r.2])∧Fx F0 w G w':=by
 have hk:=hr;unfold zdF at hk;haveI:=hl.oneC;haveI:=hb_3.oneC;obtain ⟨S0,F1,rfl,hS0,hp0⟩:=dY hF0;refine dG Tryz.func151 rfl rfl rfl hp0 ?_;refine fV ?_;rintro _ _ ⟨g3,rfl,rfl⟩;refine fv ?_;rintro _ _ ⟨g4,rfl,rfl⟩;refine jC ?_;have hq:=dm hk;clear hk;obtain ⟨r11,hr11,hk⟩:=hq; (try dsimp only at hk);refine ec ?_;refine jZ ?_;refine ga ?_;rintro _ _ ⟨g10,rfl,rfl⟩;have hl10:OwnD cT F1.toFrz 4 [[.int .i64 b.ID, .int .i64 b.Eligibility, .int .i64 b.Waivers,vb_3]] [b]:=(eu (OwnD.nil _ _ 4) ⟨_,rfl,hb_3⟩);refine q3e ?_;rintro F2 ⟨le1_2,hz2⟩;refine eH ?_;have hf2:SlD cT F2.toFrz (.slice (some ⟨g10,0,none⟩) 1 1) 4 [[.int .i64 b.ID, .int .i64 b.Eligibility, .int .i64 b.Waivers,vb_3]] [b]:=(SlK.lit hz2 rfl (Nat.le_refl _) a8).toD (OwnD.mono (rep:=cT) (fun _ _ _ _=>GBidder.mono) hl10 le1_2) rfl;refine cZ (da rfl rfl rfl (fun w hw=>zbU _ w (hw.fr (i:=2) rfl) l vl (SlC.mono hl le1_2) [b] (.slice (some ⟨g10,0,none⟩) 1 1) [[.int .i64 b.ID, .int .i64 b.Eligibility, .int .i64 b.Waivers,vb_3]] hf2 r11 hr11)) ?_;refine kG ?_;refine T.cond rfl (fun h1=>?_) (fun h1=>?_)
 ·replace hk:=dj hk h1;refine lj ?_;refine fx ?_;refine jb ?_;obtain rfl:=Option.some.inj hk;exact gE 0 rfl rfl rfl rfl rfl (fun w' hw=>⟨(.slice none 0 0),F2.toFrz,(SlC.nil _ 1),rfl,dK hw (i:=2) rfl hS0 le1_2⟩)
 ·replace hk:=di hk h1;refine fD ?_;have hq:=dm hk;clear hk;obtain ⟨r18,hr18,hk⟩:=hq; (try dsimp only at hk);refine ec ?_;refine jc ?_;refine cZ (da rfl rfl rfl (fun w hw=>zgM _ w (hw.fr (i:=2) rfl) l vl (SlC.mono hl le1_2) b.Blocks vb_3 (SlC.mono hb_3 le1_2) r18 hr18)) ?_;refine dU ?_;refine hN ?_;refine ee ?_;refine jZ ?_;refine dr ?_;refine iP ?_;refine d4 ?_;refine fx ?_;refine gq ?_;obtain rfl:=Option.some.inj hk;exact gE 0 rfl rfl rfl rfl rfl (fun w' hw=>⟨vb_3,F2.toFrz,(SlC.mono hb_3 le1_2),rfl,dK hw (i:=2) rfl hS0 le1_2⟩)
def kB (n:Int)(low:Int)(high:Int):Bool:=
 ((decide (low≤n))&&(decide (n≤high)))
theorem zcw (F0:Frz)(w:World)(hF0:F0.At w)(n:Int)(low:Int)(high:Int):Calls Tryz.prog 152 #[.int .i64 n, .int .i64 low, .int .i64 high] w fun e w'=>e= .returned (.bool (kB n low high))∧Below w.heap.size w w':=by
 obtain ⟨r,hk⟩:∃r,kB n low high=r:=⟨_,rfl⟩;rw [hk];unfold kB at hk;obtain ⟨S0,F1,rfl,hS0,hp0⟩:=dY hF0;refine dG Tryz.func152 rfl rfl rfl hp0 ?_;refine eM ?_;refine c9 (ι:=Unit) (fun z=>[(6, .bool ((decide (low≤n))&&(decide (n≤high))))]) (fun z=>[.fr F1]) (fun z=>True) ?_ ?_
 ·refine kP ?_;refine db rfl rfl rfl (fun h1=>?_) (fun h1=>?_)
  ·have p1:=of_decide_eq_true h1;refine jH ?_;exact q4X
  ·have p1:=of_decide_eq_false h1;refine jH ?_;exact q4Y
 ·rintro _ _;refine T.ret ?_;subst hk;exact dS
def zbJ (h_:Gholder)(l:List GProduct)(product:Int):Option Int:=
 dl (0≤product∧product<(l.length:Int)) <|
 dl (0≤product∧product<(h_.Bidder.Blocks.length:Int)) <|
 dl (0≤wI (h_.Bidder.Eligibility - h_.units)∧wI (h_.Bidder.Eligibility - h_.units)≤9223372036854775807∧1≤(cS l product.toNat).Units) <|
 some (min (wI (((cS l product.toNat).Supply) - (cS h_.Bidder.Blocks product.toNat))) ((wI (h_.Bidder.Eligibility - h_.units)) / ((cS l product.toNat).Units)))
theorem zdE (F0:Frz)(w:World)(hF0:F0.At w)(h_:Gholder)(vh__3:Value)(hh__3:SlC F0 vh__3 1 (h_.Bidder.Blocks.map eI))(l:List GProduct)(vl:Value)(hl:SlC F0 vl 5 (l.map cV))(product:Int)(r:Int)(hr:zbJ h_ l product=some r):Calls Tryz.prog 153 #[.agg [.int .i64 h_.Bidder.ID, .int .i64 h_.Bidder.Eligibility, .int .i64 h_.Bidder.Waivers,vh__3, .int .i64 h_.units].toArray,vl, .int .i64 product] w fun e w'=>e= .returned (.int .i64 r)∧Below w.heap.size w w':=by
 have hk:=hr;unfold zbJ at hk;haveI:=hh__3.oneC;haveI:=hl.oneC;obtain ⟨S0,F1,rfl,hS0,hp0⟩:=dY hF0;refine dG Tryz.func153 rfl rfl rfl hp0 ?_;refine fV ?_;rintro _ _ ⟨g3,rfl,rfl⟩;refine fI ?_;have hq:(0≤product∧product<(l.length:Int))∧_:=dp hk;clear hk;obtain ⟨g10,hk⟩:=hq; (try dsimp only at hk);refine eo ?_;refine cU (dc (i:=product.toNat) rfl rfl rfl hl (List.length_map _) a7 a7) ?_;refine cU (fP 1 (i:=product.toNat) rfl rfl rfl hl a7) ?_;refine fv ?_;rintro _ _ ⟨g7,rfl,rfl⟩;refine fx ?_;refine eR ?_;have hq:(0≤product∧product<(h_.Bidder.Blocks.length:Int))∧_:=dp hk;clear hk;obtain ⟨g18,hk⟩:=hq;have hq:(0≤wI (h_.Bidder.Eligibility - h_.units)∧wI (h_.Bidder.Eligibility - h_.units)≤9223372036854775807∧1≤(cS l product.toNat).Units)∧_:=dp hk;clear hk;obtain ⟨g29,hk⟩:=hq; (try dsimp only at hk);refine dL (sN 0 19 (.still 19 .done)) _ b5 (List.Sublist.refl _) ?_;refine gh ?_;refine ii ?_;refine jN ?_;refine eN ?_;refine cX rfl (dc (i:=product.toNat) rfl rfl rfl hh__3 (List.length_map _) a7 a7) ?_;refine cX rfl (dv 2 (i:=product.toNat) (j:=0) rfl rfl rfl hh__3 a7) ?_;refine cX rfl (dd (v:= .int .i64 (wI (((cS l product.toNat).Supply) - (cS h_.Bidder.Blocks product.toNat))))) ?_;refine ii ?_;refine jN ?_;refine jN ?_;refine cX rfl (dd (v:= .int .i64 (wI (h_.Bidder.Eligibility - h_.units)))) ?_;refine gh ?_;refine cX rfl (fB (a:=wI (h_.Bidder.Eligibility - h_.units)) (b:=(cS l product.toNat).Units) rfl rfl rfl g29) ?_;refine cX rfl (Yv.min2 rfl rfl rfl) ?_;refine q3S ?_;obtain rfl:=Option.some.inj hk;exact dS
def zcN (l:List GProduct)(total:List Int):Option (List Int×Int):=
 (zbK l).bind fun r10=>
 (bif ((!r10)||(decide (¬(total.length:Int)=(l.length:Int)))) then
  some ([],2)
  else
  dl (df l.length 8) <|
  dF (fun (l_3:List Int)=>
   some (l_3,0))
  (fun k4=>
   dq (fun (i_7:Nat) (next6:List Int→Option (List Int×Int)) (l_5:List Int)=>
    (bif ((decide ((cS total i_7)<0))||(decide (384<(cS total i_7)))) then
     some ([],2)
     else
     dl (0≤(i_7:Int)∧(i_7:Int)<(l_5.length:Int)) <|
     next6 (l_5.set i_7 (max (wI ((cS total i_7) - ((cS l i_7).Supply))) 0))))
   (fun (l_5:List Int)=>
    k4 l_5) (total.length - 0) 0 (List.replicate l.length (0:Int))))
theorem zgz (F0:Frz)(w:World)(hF0:F0.At w)(l:List GProduct)(vl:Value)(hl:SlC F0 vl 5 (l.map cV))(total:List Int)(vtotal:Value)(htotal:SlC F0 vtotal 1 (total.map eI))(r:List Int×Int)(hr:zcN l total=some r):Calls Tryz.prog 114 #[vl,vtotal] w fun e w'=>∃(y:Value) (G:Frz),(SlC G y 1 (r.1.map eI))∧e= .returned (.tuple #[y, .int .i64 r.2])∧Fx F0 w G w':=by
 have hk:=hr;unfold zcN at hk;haveI:=hl.oneC;haveI:=htotal.oneC;obtain ⟨S0,F1,rfl,hS0,hp0⟩:=dY hF0;refine dG Tryz.func114 rfl rfl rfl hp0 ?_;refine fM ?_;refine hI ?_;have hq:=dm hk;clear hk;obtain ⟨r10,hr10,hk⟩:=hq; (try dsimp only at hk);refine c9 (ι:=Unit) (fun z=>[(0,vl),(1,vtotal),(18, .bool ((!r10)||(decide (¬(total.length:Int)=(l.length:Int)))))]) (fun z=>[.fr F1]) (fun z=>True) ?_ ?_
 ·refine ec ?_;refine cZ (da rfl rfl rfl (fun w hw=>zcO _ w (hw.fr (i:=0) rfl) l vl hl r10 hr10)) ?_;refine iy ?_;refine db rfl rfl rfl (fun h1=>?_) (fun h1=>?_)
  ·refine q3b ?_;exact q4P
  ·refine dr ?_;refine cU (dn rfl rfl htotal (List.length_map _)) ?_;have hm14:total.length≤9223372036854775807:=(List.length_map _)▸htotal.max;refine dr ?_;refine j4 ?_;have hm16:l.length≤9223372036854775807:=(List.length_map _)▸hl.max;refine hY ?_;exact q4Q
 ·rintro _ _;have hm14:total.length≤9223372036854775807:=(List.length_map _)▸htotal.max;have hm16:l.length≤9223372036854775807:=(List.length_map _)▸hl.max;refine T.cond rfl (fun h2=>?_) (fun h2=>?_)
  ·replace hk:=dj hk h2;refine jp ?_;obtain rfl:=Option.some.inj hk;exact q4R
  ·have p2:=h2; (try simp only [gH] at p2);replace hk:=di hk h2;refine fD ?_;have hq:(df l.length 8)∧_:=dp hk;clear hk;obtain ⟨g21,hk⟩:=hq; (try dsimp only at hk);refine ec ?_;refine j4 ?_;refine cZ (fG (n':=l.length) (enc:=eI) (u:=(0:Int)) rfl rfl rfl rfl g21 a8 a8 (fun _=>rfl) rfl) ?_;rintro v21 _ ⟨hv21,rfl⟩;refine i8 ?_;intro iv21 hmv21;refine ip ?_;refine cU (dn rfl rfl htotal (List.length_map _)) ?_;refine dJ ?_;have hq:=dP hk;clear hk;obtain ⟨k4,hk4,hk⟩:=hq; (try dsimp only at hk);refine c9 (ι:=List Int) (fun z=>[(6,v21)]) (fun z=>[.sl v21 3 1 z.length (z.flatMap eI), .fr F1]) (fun z=>k4 z=some r) ?_ ?_
   ·have hq:=eX hk;clear hk;obtain ⟨f6,kk6,hf6,hkk6,hk⟩:=hq;refine ed ?_;refine T.loop (ι:=Nat×List Int) (fun z=>[(0,vl),(6,v21),(22,vtotal),(23, .int .i64 (total.length:Int)),(24, .int .i64 (z.1:Int))]) (fun z=>[.sl v21 3 1 z.2.length (z.2.flatMap eI), .fr F1]) (fun z=>dq f6 kk6 (total.length - z.1) z.1 z.2=some r) (fun z=>total.length - z.1) (0,(List.replicate l.length (0:Int))) ?_ ?_ ?_ ?_
    ·exact hk
    ·exact iS
    ·exact eb
    ·rintro ⟨i_7,l_5⟩ hk; (try dsimp only at *);refine eM ?_;refine T.cond rfl (fun h8=>?_) (fun h8=>?_)
     ·have p8:=of_decide_eq_true h8;rw [eW a7] at hk;generalize hn6:dq f6 kk6 (total.length - (i_7+1)) (i_7+1)=next6 at hk;rw [←hf6] at hk; (try dsimp only at hk);refine jE ?_;refine q2l ?_;refine d4 ?_;refine hI ?_;refine c9 (ι:=Unit) (fun z=>[(0,vl),(6,v21),(7, .int .i64 (i_7:Int)),(8, .int .i64 (cS total i_7)),(22,vtotal),(23, .int .i64 (total.length:Int)),(24, .int .i64 (i_7:Int)),(34, .bool ((decide ((cS total i_7)<0))||(decide (384<(cS total i_7)))))]) (fun z=>[.sl v21 3 1 l_5.length (l_5.flatMap eI), .fr F1]) (fun z=>True) ?_ ?_
      ·refine gI ?_;refine db rfl rfl rfl (fun h9=>?_) (fun h9=>?_)
       ·have p9:=of_decide_eq_true h9;refine fA ?_;refine e7 ?_;exact cY () trivial (.c (.c (.c (.c (.c (.c (.c (.b (dQ h9).symm .nil)))))))) (List.Sublist.refl _)
       ·have p9:=of_decide_eq_false h9;refine fA ?_;refine e7 ?_;exact cY () trivial (.c (.c (.c (.c (.c (.c (.c (.b (fg h9) .nil)))))))) (List.Sublist.refl _)
      ·rintro _ _;refine T.cond rfl (fun h10=>?_) (fun h10=>?_)
       ·replace hk:=dj hk h10;refine fM ?_;refine q05 ?_;obtain rfl:=Option.some.inj hk;exact q47
       ·have p10:=h10; (try simp only [gH] at p10);replace hk:=di hk h10;refine T.skip (K.seq ?_);have hq:(0≤(i_7:Int)∧(i_7:Int)<(l_5.length:Int))∧_:=dp hk;clear hk;obtain ⟨g45,hk⟩:=hq; (try dsimp only at hk);refine fO ?_;refine hN ?_;refine cU (dc (i:=i_7) rfl rfl rfl hl (List.length_map _) rfl a7) ?_;refine q3F ?_;refine cU (dv 1 (i:=i_7) (j:=2) rfl rfl rfl hl a7) ?_;refine cU (dd (v:= .int .i64 (wI ((cS total i_7) - ((cS l i_7).Supply))))) ?_;refine cU (Yv.max2 rfl rfl rfl) ?_;refine cU (dA 0 (i:=i_7) rfl rfl rfl rfl rfl a7) ?_;refine dz (ef 0 (k':=(l_5.set i_7 (max (wI ((cS total i_7) - ((cS l i_7).Supply))) 0)).length) (l':=(l_5.set i_7 (max (wI ((cS total i_7) - ((cS l i_7).Supply))) 0)).flatMap eI) rfl rfl rfl rfl a7 (gD (enc:=eI) (xs:=l_5) (i:=i_7) (j:=0) (size:=1) (fun _=>rfl) a7 a8 a7) (gF (enc:=eI) (xs:=l_5) (i:=i_7) (j:=0) (size:=1) (x:=(max (wI ((cS total i_7) - ((cS l i_7).Supply))) 0)) (fun _=>rfl) a7 a8 a7 rfl) (List.length_set ..)) ?_;refine dU ?_;refine iH ?_;rw [←hn6] at hk;exact K.next ((i_7+1),(l_5.set i_7 (max (wI ((cS total i_7) - ((cS l i_7).Supply))) 0))) hk b6 (.c (.c (.c (.c (.c .nil))))) (List.Sublist.refl _)
     ·have p8:=of_decide_eq_false h8;rw [eY a7,←hkk6] at hk; (try dsimp only at hk);refine ek ?_;exact cY l_5 hk (.c .nil) (List.Sublist.refl _)
   ·rintro l_3 hk;rw [←hk4] at hk; (try dsimp only at hk);refine iM ?_;refine q1j ?_;rintro F2 ⟨le1_2,hz2⟩;refine eH ?_;have hfF2:=hz2.toF rfl (fun _=>rfl);haveI:=hfF2.oneC;obtain rfl:=Option.some.inj hk;exact eF rfl rfl rfl (fun w' hw=>⟨v21,F2.toFrz,hfF2,rfl,dK hw (i:=0) rfl hS0 le1_2⟩)
def zdr (eligibility:Int)(percent:Int):Option (Int×Int):=
 (bif ((!(kB eligibility 0 76800000))||(!(kB percent 1 100))) then
  some (0,2)
  else
  dl (0≤wI ((wI (eligibility*percent))+99)∧wI ((wI (eligibility*percent))+99)≤9223372036854775807∧1≤(100:Int)) <|
  some (((wI ((wI (eligibility*percent))+99)) / 100),0))
theorem zfz (F0:Frz)(w:World)(hF0:F0.At w)(eligibility:Int)(percent:Int)(r:Int×Int)(hr:zdr eligibility percent=some r):Calls Tryz.prog 240 #[.int .i64 eligibility, .int .i64 percent] w fun e w'=>e= .returned (.tuple #[.int .i64 r.1, .int .i64 r.2])∧Below w.heap.size w w':=by
 have hk:=hr;unfold zdr at hk;obtain ⟨S0,F1,rfl,hS0,hp0⟩:=dY hF0;refine dG Tryz.func240 rfl rfl rfl hp0 ?_;refine fM ?_;refine hI ?_;refine c9 (ι:=Unit) (fun z=>[(0, .int .i64 eligibility),(1, .int .i64 percent),(13, .bool ((!(kB eligibility 0 76800000))||(!(kB percent 1 100))))]) (fun z=>[.fr F1]) (fun z=>True) ?_ ?_
 ·refine ec ?_;refine cZ (da rfl rfl rfl (fun w hw=>zcw _ w (hw.fr (i:=0) rfl) eligibility 0 76800000)) ?_;refine iy ?_;refine db rfl rfl rfl (fun h1=>?_) (fun h1=>?_)
  ·refine iz ?_;exact q4P
  ·refine dr ?_;refine cZ (da rfl rfl rfl (fun w hw=>zcw _ w (hw.fr (i:=0) rfl) percent 1 100)) ?_;refine jB ?_;exact q4Q
 ·rintro _ _;refine T.cond rfl (fun h2=>?_) (fun h2=>?_)
  ·replace hk:=dj hk h2;refine jp ?_;obtain rfl:=Option.some.inj hk;exact j7
  ·replace hk:=di hk h2;refine fD ?_;have hq:(0≤wI ((wI (eligibility*percent))+99)∧wI ((wI (eligibility*percent))+99)≤9223372036854775807∧1≤(100:Int))∧_:=dp hk;clear hk;obtain ⟨g18,hk⟩:=hq; (try dsimp only at hk);refine kP ?_;refine cU (fB rfl rfl rfl g18) ?_;refine q4a ?_;obtain rfl:=Option.some.inj hk;exact j7
def zej (eligibility:Int)(waivers:Int)(activity:Int)(percent:Int):Option (Int×Int×Int):=
 (zdr eligibility percent).bind fun r16=>
 (bif (((decide (¬r16.2=0))||(!(kB waivers 0 3)))||(!(kB activity 0 eligibility))) then
  some (0,0,2)
  else
  (bif decide (r16.1≤activity) then
   some (eligibility,waivers,0)
   else
   (bif decide (0<waivers) then
    some (eligibility,wI (waivers - 1),0)
    else
    dl (0≤wI (activity*100)∧wI (activity*100)≤9223372036854775807∧1≤percent) <|
    some (((wI (activity*100)) / percent),0,0))))
theorem zgC (F0:Frz)(w:World)(hF0:F0.At w)(eligibility:Int)(waivers:Int)(activity:Int)(percent:Int)(r:Int×Int×Int)(hr:zej eligibility waivers activity percent=some r):Calls Tryz.prog 208 #[.int .i64 eligibility, .int .i64 waivers, .int .i64 activity, .int .i64 percent] w fun e w'=>e= .returned (.tuple #[.int .i64 r.1, .int .i64 r.2.1, .int .i64 r.2.2])∧Below w.heap.size w w':=by
 have hk:=hr;unfold zej at hk;obtain ⟨S0,F1,rfl,hS0,hp0⟩:=dY hF0;refine dG Tryz.func208 rfl rfl rfl hp0 ?_;refine iM ?_;refine eR ?_;have hq:=dm hk;clear hk;obtain ⟨r16,hr16,hk⟩:=hq; (try dsimp only at hk);refine eo ?_;refine cZ (da rfl rfl rfl (fun w hw=>zfz _ w (hw.fr (i:=0) rfl) eligibility percent r16 hr16)) ?_;refine dU ?_;refine hN ?_;refine hI ?_;refine c9 (ι:=Unit) (fun z=>[(0, .int .i64 eligibility),(1, .int .i64 waivers),(2, .int .i64 activity),(3, .int .i64 percent),(11, .int .i64 r16.1),(31, .bool (((decide (¬r16.2=0))||(!(kB waivers 0 3)))||(!(kB activity 0 eligibility))))]) (fun z=>[.fr F1]) (fun z=>True) ?_ ?_
 ·refine gI ?_;refine db rfl rfl rfl (fun h1=>?_) (fun h1=>?_)
  ·have p1:=of_decide_eq_true h1;refine q3R ?_;exact cY () trivial (.c (.c (.c (.c (.c (.b (dQ (dQ h1)).symm .nil)))))) (List.Sublist.refl _)
  ·have p1:=of_decide_eq_false h1;refine dr ?_;refine cZ (da rfl rfl rfl (fun w hw=>zcw _ w (hw.fr (i:=0) rfl) waivers 0 3)) ?_;refine kV ?_;refine db rfl rfl rfl (fun h2=>?_) (fun h2=>?_)
   ·refine jH ?_;exact cY () trivial (.c (.c (.c (.c (.c (.b (dQ (dZ h1 h2)).symm .nil)))))) (List.Sublist.refl _)
   ·refine d4 ?_;refine cZ (da rfl rfl rfl (fun w hw=>zcw _ w (hw.fr (i:=0) rfl) activity 0 eligibility)) ?_;refine jB ?_;exact cY () trivial (.c (.c (.c (.c (.c (.b (fg (dZ h1 h2)) .nil)))))) (List.Sublist.refl _)
 ·rintro _ _;refine T.cond rfl (fun h3=>?_) (fun h3=>?_)
  ·replace hk:=dj hk h3;refine iM ?_;refine jJ ?_;obtain rfl:=Option.some.inj hk;exact q4S
  ·have p3:=h3; (try simp only [gH] at p3);replace hk:=di hk h3;refine jv ?_;refine TL.run 4 rfl ?_;refine dC ?_;refine T.cond rfl (fun h4=>?_) (fun h4=>?_)
   ·have p4:=of_decide_eq_true h4;replace hk:=dj hk h4;refine d5 ?_;refine hN ?_;refine dC (T.ret (gU (gC ?_)));obtain rfl:=Option.some.inj hk;exact q4S
   ·have p4:=of_decide_eq_false h4;replace hk:=di hk h4;refine iM ?_;refine dC ?_;refine T.cond rfl (fun h5=>?_) (fun h5=>?_)
    ·have p5:=of_decide_eq_true h5;replace hk:=dj hk h5;refine d5 ?_;refine TL.run 6 rfl ?_;refine dC (T.ret (gU (gC ?_)));obtain rfl:=Option.some.inj hk;exact q4S
    ·have p5:=of_decide_eq_false h5;replace hk:=di hk h5;refine T.skip (fk (K.seq (T.seq ?_)));have hq:(0≤wI (activity*100)∧wI (activity*100)≤9223372036854775807∧1≤percent)∧_:=dp hk;clear hk;obtain ⟨g47,hk⟩:=hq; (try dsimp only at hk);refine gI ?_;refine cU (fB rfl rfl rfl g47) ?_;refine fA ?_;refine gp ?_;obtain rfl:=Option.some.inj hk;exact q4S
def zdR (l:List GProduct)(b:GBidder)(percent:Int):Option (GBidder×Int):=
 (zdF l b).bind fun r16=>
 (bif !r16.2 then
  some ((GBidder.mk 0 0 0 []),2)
  else
  (zej r16.1.Bidder.Eligibility r16.1.Bidder.Waivers r16.1.units percent).bind fun r32=>
  (bif decide (¬r32.2.2=0) then
   some ((GBidder.mk 0 0 0 []),r32.2.2)
   else
   dl (df r16.1.Bidder.Blocks.length 8) <|
   some ((GBidder.mk r16.1.Bidder.ID r32.1 r32.2.1 r16.1.Bidder.Blocks),0)))
theorem zeE (F0:Frz)(w:World)(hF0:F0.At w)(l:List GProduct)(vl:Value)(hl:SlC F0 vl 5 (l.map cV))(b:GBidder)(vb_3:Value)(hb_3:SlC F0 vb_3 1 (b.Blocks.map eI))(percent:Int)(r:GBidder×Int)(hr:zdR l b percent=some r):Calls Tryz.prog 150 #[vl, .agg [.int .i64 b.ID, .int .i64 b.Eligibility, .int .i64 b.Waivers,vb_3].toArray, .int .i64 percent] w fun e w'=>∃(y:Value) (G:Frz),(SlC G y 1 (r.1.Blocks.map eI))∧e= .returned (.tuple #[.agg [.int .i64 r.1.ID, .int .i64 r.1.Eligibility, .int .i64 r.1.Waivers,y].toArray, .int .i64 r.2])∧Fx F0 w G w':=by
 have hk:=hr;unfold zdR at hk;haveI:=hl.oneC;haveI:=hb_3.oneC;obtain ⟨S0,F1,rfl,hS0,hp0⟩:=dY hF0;refine dG Tryz.func150 rfl rfl rfl hp0 ?_;refine fV ?_;rintro _ _ ⟨g4,rfl,rfl⟩;refine fv ?_;rintro _ _ ⟨g6,rfl,rfl⟩;refine fI ?_;have hq:=dm hk;clear hk;obtain ⟨r16,hr16,hk⟩:=hq; (try dsimp only at hk);refine ec ?_;refine jZ ?_;refine cZ (dg 2 rfl rfl rfl rfl (fun w hw hF=>ze6 _ w hF l vl hl b vb_3 hb_3 r16 hr16)) ?_;rintro _ _ ⟨v16_0_3,F2,le1_2,hf16_0_3,rfl,rfl⟩;haveI:=hf16_0_3.oneC;refine kb ?_;rintro _ _ ⟨g8,rfl,rfl⟩;refine fx ?_;refine q4f ?_;refine T.cond rfl (fun h1=>?_) (fun h1=>?_)
 ·replace hk:=dj hk h1;refine lj ?_;refine ln ?_;refine jb ?_;obtain rfl:=Option.some.inj hk;exact q48
 ·replace hk:=di hk h1;refine fD ?_;have hq:=dm hk;clear hk;obtain ⟨r32,hr32,hk⟩:=hq; (try dsimp only at hk);refine kU ?_;refine fR ?_;refine fX ?_;refine fR ?_;refine jO ?_;refine cZ (da rfl rfl rfl (fun w hw=>zgC _ w (hw.fr (i:=3) rfl) r16.1.Bidder.Eligibility r16.1.Bidder.Waivers r16.1.units percent r32 hr32)) ?_;refine dU ?_;refine TL.run 7 rfl ?_;refine q4b ?_;refine T.cond rfl (fun h2=>?_) (fun h2=>?_)
  ·have p2:=of_decide_eq_true h2;replace hk:=dj hk h2;refine lj ?_;refine dr ?_;refine ln ?_;refine jb ?_;obtain rfl:=Option.some.inj hk;exact q48
  ·have p2:=of_decide_eq_false h2;replace hk:=di hk h2;refine fD ?_;have hq:(df r16.1.Bidder.Blocks.length 8)∧_:=dp hk;clear hk;obtain ⟨g48,hk⟩:=hq; (try dsimp only at hk);refine dL (sN 0 8 (.eff 8 (.still 9 (.eff 10 (.still 11 .done))))) [.row g8 199 [.int .i64 r16.1.Bidder.ID, .int .i64 r16.1.Bidder.Eligibility, .int .i64 r16.1.Bidder.Waivers,v16_0_3, .int .i64 r16.1.units], .row g4 57 [.int .i64 b.ID, .int .i64 b.Eligibility, .int .i64 b.Waivers,vb_3], .fr F2] b5 Sx ?_;refine ii ?_;refine gh ?_;refine kQ ?_;refine lu ?_;refine c5 rfl (cW) rfl rfl (dg 3 rfl rfl rfl rfl (fun w hw hF=>zgx _ w hF r16.1.Bidder.Blocks v16_0_3 hf16_0_3 g48)) ?_;rintro _ _ ⟨v48_,F3,le2_3,hf48,hq,rfl⟩;obtain rfl:=hq.symm;have le1_3:=le1_2.trans le2_3;haveI:=hf48.oneC;refine ⟨(fun w hw=>(hw.frLe (i:=3) rfl le2_3).sub Sx),?_⟩;refine cX rfl (Yv.build) ?_;refine q3g ?_;refine ⟨(fun w hw=>(hw.frLe (i:=3) rfl le2_3).sub Sx),?_⟩;refine q3S ?_;obtain rfl:=Option.some.inj hk;exact gE 1 rfl rfl rfl rfl rfl (fun w' hw=>⟨v48_,F3.toFrz,hf48,rfl,dK hw (i:=3) rfl hS0 le1_3⟩)
def zea (l:List GProduct)(b:GBidder)(product:Int)(change:Int):Option (Int×Int):=
 (zdF l b).bind fun r15=>
 (bif ((!r15.2)||(!(kB product 0 (wI ((l.length:Int) - 1))))) then
  some (0,2)
  else
  (bif decide (0<change) then
   (zbJ r15.1 l product).bind fun r34=>
   some ((min change r34),0)
   else
   dl (0≤product∧product<(r15.1.Bidder.Blocks.length:Int)) <|
   some ((max change (wI (0 - (cS r15.1.Bidder.Blocks product.toNat)))),0)))
theorem zga (F0:Frz)(w:World)(hF0:F0.At w)(l:List GProduct)(vl:Value)(hl:SlC F0 vl 5 (l.map cV))(b:GBidder)(vb_3:Value)(hb_3:SlC F0 vb_3 1 (b.Blocks.map eI))(product:Int)(change:Int)(r:Int×Int)(hr:zea l b product change=some r):Calls Tryz.prog 207 #[vl, .agg [.int .i64 b.ID, .int .i64 b.Eligibility, .int .i64 b.Waivers,vb_3].toArray, .int .i64 product, .int .i64 change] w fun e w'=>e= .returned (.tuple #[.int .i64 r.1, .int .i64 r.2])∧Below w.heap.size w w':=by
 have hk:=hr;unfold zea at hk;haveI:=hl.oneC;haveI:=hb_3.oneC;obtain ⟨S0,F1,rfl,hS0,hp0⟩:=dY hF0;refine dG Tryz.func207 rfl rfl rfl hp0 ?_;refine fV ?_;rintro _ _ ⟨g5,rfl,rfl⟩;refine d4 ?_;refine eR ?_;have hq:=dm hk;clear hk;obtain ⟨r15,hr15,hk⟩:=hq; (try dsimp only at hk);refine ec ?_;refine iQ ?_;refine cZ (dg 1 rfl rfl rfl rfl (fun w hw hF=>ze6 _ w hF l vl hl b vb_3 hb_3 r15 hr15)) ?_;rintro _ _ ⟨v15_0_3,F2,le1_2,hf15_0_3,rfl,rfl⟩;haveI:=hf15_0_3.oneC;refine kb ?_;rintro _ _ ⟨g10,rfl,rfl⟩;refine fx ?_;refine jC ?_;refine c9 (ι:=Unit) (fun z=>[(0,vl),(2, .int .i64 product),(3, .int .i64 change),(10, .pointer (some ⟨g10,0,none⟩)),(27, .bool ((!r15.2)||(!(kB product 0 (wI ((l.length:Int) - 1))))))]) (fun z=>[.row g10 199 [.int .i64 r15.1.Bidder.ID, .int .i64 r15.1.Bidder.Eligibility, .int .i64 r15.1.Bidder.Waivers,v15_0_3, .int .i64 r15.1.units], .row g5 57 [.int .i64 b.ID, .int .i64 b.Eligibility, .int .i64 b.Waivers,vb_3], .fr F2]) (fun z=>True) ?_ ?_
 ·refine gI ?_;refine db rfl rfl rfl (fun h1=>?_) (fun h1=>?_)
  ·refine TL.run 7 rfl ?_;refine e7 ?_;exact cY () trivial (.c (.c (.c (.c (.b (dQ h1).symm .nil))))) (List.Sublist.refl _)
  ·refine d4 ?_;refine cU (dn rfl rfl (SlC.mono hl le1_2) (List.length_map _)) ?_;have hm23:l.length≤9223372036854775807:=(List.length_map _)▸(SlC.mono hl le1_2).max;refine iE ?_;refine cZ (da rfl rfl rfl (fun w hw=>zcw _ w (hw.fr (i:=2) rfl) product 0 ((l.length:Int) - 1))) ?_;refine jB ?_;exact cY () trivial (.c (.c (.c (.c (.b (Eq.trans (congrArg not (by rw [show wI ((l.length:Int) - 1)=((l.length:Int) - 1) from IntWalk.i64_in _ a7])) (fg h1)) .nil))))) (List.Sublist.refl _)
 ·rintro _ _;refine T.cond rfl (fun h2=>?_) (fun h2=>?_)
  ·replace hk:=dj hk h2;refine jp ?_;obtain rfl:=Option.some.inj hk;exact j7
  ·replace hk:=di hk h2;refine il ?_;refine iZ ?_;refine T.cond rfl (fun h3=>?_) (fun h3=>?_)
   ·have p3:=of_decide_eq_true h3;replace hk:=dj hk h3;refine T.seq ?_;have hq:=dm hk;clear hk;obtain ⟨r34,hr34,hk⟩:=hq; (try dsimp only at hk);refine ec ?_;refine iQ ?_;refine d4 ?_;refine cZ (da rfl rfl rfl (fun w hw=>zdE _ w (hw.fr (i:=2) rfl) r15.1 v15_0_3 hf15_0_3 l vl (SlC.mono hl le1_2) product r34 hr34)) ?_;refine dU ?_;refine cU (Yv.min2 rfl rfl rfl) ?_;refine d4 ?_;refine jJ ?_;obtain rfl:=Option.some.inj hk;exact j7
   ·have p3:=of_decide_eq_false h3;replace hk:=di hk h3;refine fD ?_;have hq:(0≤product∧product<(r15.1.Bidder.Blocks.length:Int))∧_:=dp hk;clear hk;obtain ⟨g41,hk⟩:=hq; (try dsimp only at hk);refine ec ?_;refine fX ?_;refine jO ?_;refine cU (dc (i:=product.toNat) rfl rfl rfl hf15_0_3 (List.length_map _) a7 a7) ?_;refine cU (dv 2 (i:=product.toNat) (j:=0) rfl rfl rfl hf15_0_3 a7) ?_;refine cU (gZ) ?_;refine cU (Yv.max2 rfl rfl rfl) ?_;refine q4a ?_;obtain rfl:=Option.some.inj hk;exact j7
end Go.Proofs.YtmnjbhkcfghebaaGreatDoor
