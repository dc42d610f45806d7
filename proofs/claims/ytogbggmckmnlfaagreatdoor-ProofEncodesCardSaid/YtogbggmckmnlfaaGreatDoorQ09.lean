/- Yp Si Yq R7 Pw Cv Lc Ga Gg Lq Na W7 Kn: shortened and put together by squeeze.py. -/
import Derived.Test.YtogbggmckmnlfaaGreatDoorQ08
set_option maxRecDepth 100000
set_option maxHeartbeats 4000000
set_option linter.unusedVariables false
set_option linter.unusedSectionVars false
set_option linter.unusedSimpArgs false
namespace Go.Proofs.YtogbggmckmnlfaaGreatDoor
open Go.RowKit
structure GSet where
 words:Vec 8 (BitVec 64)
deriving DecidableEq,Inhabited
abbrev mS (x:GSet):List Value:=(x.words.1.map U)
theorem GSet.len (x:GSet):(mS x).length=8:=Vec.len
def za1 (i:Int):Bool:=
 ((decide (0≤i))&&(decide (i<512)))
theorem zd9 (F0:Frz)(w:World)(hF0:F0.At w)(i:Int):Calls Tryz.prog 78 #[.int .i64 i] w fun e w'=>e= .returned (.bool (za1 i))∧Below w.heap.size w w':=by
 obtain ⟨r,hk⟩:∃r,za1 i=r:=⟨_,rfl⟩;rw [hk];unfold za1 at hk;obtain ⟨S0,F1,rfl,hS0,hp0⟩:=fE hF0;refine dy Tryz.func78 rfl rfl rfl hp0 ?_;refine eR ?_;refine dk (ι:=Unit) (fun z=>[(2, .bool ((decide (0≤i))&&(decide (i<512))))]) (fun z=>[.fr F1]) (fun z=>True) ?_ ?_
 ·refine lU ?_;refine dO rfl rfl rfl (fun h1=>?_) (fun h1=>?_)
  ·have p1:=of_decide_eq_true h1;refine lY ?_;exact q4f
  ·have p1:=of_decide_eq_false h1;refine lY ?_;exact q4g
 ·rintro _ _;refine T.ret ?_;subst hk;exact eY
def zb6 (l:List Int):Option (GSet×Int):=
 dN (fun (s3:Vec 8 (BitVec 64)×Vec 8 (BitVec 64))=>
  some ((GSet.mk s3.2),0))
 (fun k3=>
  di (fun (i_7:Nat) (next6:(Vec 8 (BitVec 64)×Vec 8 (BitVec 64))→Option (GSet×Int)) (s6:Vec 8 (BitVec 64)×Vec 8 (BitVec 64))=>
   (bif !(za1 (cQ l i_7)) then
    some ((GSet.mk (Vec.fill 8 (0#64))),2)
    else
    dU (0≤(cQ l i_7)∧(cQ l i_7)≤9223372036854775807∧1≤(64:Int)) <|
    dU (0≤((cQ l i_7) / 64)∧((cQ l i_7) / 64)<(8:Int)) <|
    dU (0≤(cQ l i_7)∧1≤(64:Int)) <|
    dU (0≤((cQ l i_7) % 64)∧((cQ l i_7) % 64)<(64:Int)) <|
    next6 (s6.1,(Vec.put s6.2 (((cQ l i_7) / 64).toNat) ((Vec.get s6.2 (((cQ l i_7) / 64).toNat)) ||| ((1#64) <<< (((cQ l i_7) % 64).toNat)))))))
  (fun (s6:Vec 8 (BitVec 64)×Vec 8 (BitVec 64))=>
   k3 (s6.1,s6.2)) (l.length - 0) 0 ((Vec.fill 8 (0#64)),(Vec.fill 8 (0#64))))
theorem zd8 (F0:Frz)(w:World)(hF0:F0.At w)(l:List Int)(vl:Value)(hl:SlC F0 vl 1 (l.map eI))(r:GSet×Int)(hr:zb6 l=some r):Calls Tryz.prog 41 #[vl] w fun e w'=>e= .returned (.tuple #[.agg (r.1.words.1.map U).toArray, .int .i64 r.2])∧Below w.heap.size w w':=by
 have hk:=hr;unfold zb6 at hk;haveI:=hl.oneC;obtain ⟨S0,F1,rfl,hS0,hp0⟩:=fE hF0;refine dy Tryz.func41 rfl rfl rfl hp0 ?_;refine dm ?_;refine q1K ?_;rintro _ _ ⟨g2,rfl,rfl⟩;refine gz ?_;refine q1K ?_;rintro _ _ ⟨g4,rfl,rfl⟩;refine mP ?_;refine q2b ?_;have hm8:l.length≤9223372036854775807:=(List.length_map _)▸hl.max;refine dL ?_;have hq:=eN hk;clear hk;obtain ⟨k3,hk3,hk⟩:=hq; (try dsimp only at hk);refine dk (ι:=Vec 8 (BitVec 64)×Vec 8 (BitVec 64)) (fun z=>[(2, .pointer (some ⟨g2,0,none⟩)),(4, .pointer (some ⟨g4,0,none⟩))]) (fun z=>[.row g2 83 (z.1.1.map U), .row g4 83 (z.2.1.map U), .fr F1]) (fun z=>k3 (z.1,z.2)=some r) ?_ ?_
 ·have hq:=fS hk;clear hk;obtain ⟨f6,kk6,hf6,hkk6,hk⟩:=hq;refine q3U ?_;refine T.loop (ι:=Nat×Vec 8 (BitVec 64)×Vec 8 (BitVec 64)) (fun z=>[(2, .pointer (some ⟨g2,0,none⟩)),(4, .pointer (some ⟨g4,0,none⟩)),(7,vl),(8, .int .i64 (l.length:Int)),(9, .int .i64 (z.1:Int))]) (fun z=>[.row g2 83 (z.2.1.1.map U), .row g4 83 (z.2.2.1.map U), .fr F1]) (fun z=>di f6 kk6 (l.length - z.1) z.1 (z.2.1,z.2.2)=some r) (fun z=>l.length - z.1) (0,(Vec.fill 8 (0#64)),(Vec.fill 8 (0#64))) ?_ ?_ ?_ ?_
  ·exact hk
  ·exact l9
  ·exact fx
  ·rintro ⟨i_7,c_4,c_5⟩ hk; (try dsimp only at *);refine eR ?_;refine T.cond rfl (fun h8=>?_) (fun h8=>?_)
   ·have p8:=of_decide_eq_true h8;rw [fT a5] at hk;generalize hn6:di f6 kk6 (l.length - (i_7+1)) (i_7+1)=next6 at hk;rw [←hf6] at hk; (try dsimp only at hk);refine fH ?_;refine cR (dH (i:=i_7) rfl rfl rfl hl (List.length_map _) rfl a5) ?_;refine cR (ft 2 (i:=i_7) (j:=0) rfl rfl rfl hl a5) ?_;refine l5 ?_;refine cX (cS rfl rfl rfl (fun w hw=>zd9 _ w (hw.fr (i:=2) rfl) (cQ l i_7))) ?_;refine fb ?_;refine dL ?_;refine T.cond rfl (fun h9=>?_) (fun h9=>?_)
    ·replace hk:=dC hk h9;refine dm ?_;refine cR ((Yv.build).eq (v:= .agg ((Vec.fill 8 (0#64)).1.map U).toArray) a7) ?_;refine q1p ?_;refine dp ?_;refine ml ?_;obtain rfl:=Option.some.inj hk;exact fO 0 rfl rfl rfl rfl Vec.len (fun w' hw=>⟨rfl,hw.isBelow⟩)
    ·replace hk:=dD hk h9;refine kP ?_;have hq:(0≤(cQ l i_7)∧(cQ l i_7)≤9223372036854775807∧1≤(64:Int))∧_:=eW hk;clear hk;obtain ⟨g18,hk⟩:=hq;have hq:(0≤((cQ l i_7) / 64)∧((cQ l i_7) / 64)<(8:Int))∧_:=eW hk;clear hk;obtain ⟨g20,hk⟩:=hq;have hq:(0≤(cQ l i_7)∧1≤(64:Int))∧_:=eW hk;clear hk;obtain ⟨g23,hk⟩:=hq;have hq:(0≤((cQ l i_7) % 64)∧((cQ l i_7) % 64)<(64:Int))∧_:=eW hk;clear hk;obtain ⟨g24,hk⟩:=hq; (try dsimp only at hk);refine d8 (sN 0 4 (sN 5 3 (.still 9 (.eff 4 (.still 8 (.still 10 (.eff 11 .done))))))) [.row g2 83 (c_4.1.map U), .fr F1] a7 Sx ?_;refine gj ?_;refine cZ rfl (jf rfl rfl rfl g18) ?_;refine iN ?_;refine cZ rfl (ep (i:=((cQ l i_7) / 64).toNat) rfl rfl rfl a5 a5) ?_;refine gj ?_;refine cZ rfl (iX rfl rfl rfl g23) ?_;refine cZ rfl (gG (a:=1#64) (((cQ l i_7) % 64).toNat) rfl rfl rfl a5 a5) ?_;refine lk ?_;refine ga rfl (Wt.none) rfl rfl (da 1 rfl rfl rfl (lH a5 (Vec.cell (i:=((cQ l i_7) / 64).toNat) a5))) (fun w hw=>hw.sub Sx) ?_;refine cZ rfl (gg (a:=(Vec.get c_5 (((cQ l i_7) / 64).toNat))) (b:=((1#64) <<< (((cQ l i_7) % 64).toNat)))) ?_;refine cZ rfl (ep (i:=((cQ l i_7) / 64).toNat) rfl rfl rfl a5 a5) ?_;refine dQ ?_;refine iP rfl (Wt.none) rfl (hJ 1 ((Vec.put c_5 (((cQ l i_7) / 64).toNat) ((Vec.get c_5 (((cQ l i_7) / 64).toNat)) ||| ((1#64) <<< (((cQ l i_7) % 64).toNat)))).1.map U) rfl rfl rfl rfl b7 (zgQ a5 (Vec.upd (x:=c_5) (f:=U) (i:=((cQ l i_7) / 64).toNat) (v:=((Vec.get c_5 (((cQ l i_7) / 64).toNat)) ||| ((1#64) <<< (((cQ l i_7) % 64).toNat)))) a5))) ?_;refine lT ?_;refine q1t ?_;rw [←hn6] at hk;exact K.next ((i_7+1),c_4,(Vec.put c_5 (((cQ l i_7) / 64).toNat) ((Vec.get c_5 (((cQ l i_7) / 64).toNat)) ||| ((1#64) <<< (((cQ l i_7) % 64).toNat))))) hk a9 (.c (.c (.c (.c (.c .nil))))) (List.Sublist.refl _)
   ·have p8:=of_decide_eq_false h8;rw [fR a5,←hkk6] at hk; (try dsimp only at hk);refine fi ?_;exact c4 (c_4,c_5) hk (.c (.c .nil)) (List.Sublist.refl _)
 ·rintro ⟨c_1,c_2⟩ hk; (try dsimp only at *);rw [←hk3] at hk; (try dsimp only at hk);refine dm ?_;refine cR (dY 1 rfl rfl rfl Vec.len) ?_;refine q1p ?_;refine fm ?_;obtain rfl:=Option.some.inj hk;exact fO 0 rfl rfl rfl rfl Vec.len (fun w' hw=>⟨rfl,hw.isBelow⟩)
def lu (s:GSet)(i:Int):Option Bool:=
 dN (fun (x_1:Bool)=>
  some x_1)
 (fun k2=>
  (bif (za1 i) then
   dU (0≤i∧i≤9223372036854775807∧1≤(64:Int)) <|
   dU (0≤(i / 64)∧(i / 64)<(8:Int)) <|
   dU (0≤i∧1≤(64:Int)) <|
   dU (0≤(i % 64)∧(i % 64)<(64:Int)) <|
   k2 (decide (((((Vec.get s.words ((i / 64).toNat)) >>> ((i % 64).toNat)) &&& (1#64)).toNat:Int)=((1#64).toNat:Int)))
   else
   k2 false))
theorem zaE (F0:Frz)(w:World)(hF0:F0.At w)(s:GSet)(i:Int)(r:Bool)(hr:lu s i=some r):Calls Tryz.prog 43 #[.agg (s.words.1.map U).toArray, .int .i64 i] w fun e w'=>e= .returned (.bool r)∧Below w.heap.size w w':=by
 have hk:=hr;unfold lu at hk;obtain ⟨S0,F1,rfl,hS0,hp0⟩:=fE hF0;refine dy Tryz.func43 rfl rfl rfl hp0 ?_;refine kg ?_;rintro _ _ ⟨g2,rfl,rfl⟩;refine ki ?_; (try dsimp only at hk);have hq:=eN hk;clear hk;obtain ⟨k2,hk2,hk⟩:=hq; (try dsimp only at hk);refine dk (ι:=Bool) (fun z=>[(4, .bool z)]) (fun z=>[.fr F1]) (fun z=>k2 z=some r) ?_ ?_
 ·refine fk ?_;refine cX (cS rfl rfl rfl (fun w hw=>zd9 _ w (hw.fr (i:=1) rfl) i)) ?_;refine mr ?_;refine dO rfl rfl rfl (fun h3=>?_) (fun h3=>?_)
  ·replace hk:=dC hk h3;refine dp ?_;have hq:(0≤i∧i≤9223372036854775807∧1≤(64:Int))∧_:=eW hk;clear hk;obtain ⟨g9,hk⟩:=hq;refine cR (jf rfl rfl rfl g9) ?_;refine fy ?_;have hq:(0≤(i / 64)∧(i / 64)<(8:Int))∧_:=eW hk;clear hk;obtain ⟨g11,hk⟩:=hq;refine cR (ep (i:=(i / 64).toNat) rfl rfl rfl a5 a5) ?_;refine cR (da 0 rfl rfl rfl (lH a5 (Vec.cell (i:=(i / 64).toNat) a5))) ?_;refine dp ?_;have hq:(0≤i∧1≤(64:Int))∧_:=eW hk;clear hk;obtain ⟨g14,hk⟩:=hq;refine cR (iX rfl rfl rfl g14) ?_;have hq:(0≤(i % 64)∧(i % 64)<(64:Int))∧_:=eW hk;clear hk;obtain ⟨g15,hk⟩:=hq;refine cR (fW (a:=(Vec.get s.words ((i / 64).toNat))) ((i % 64).toNat) rfl rfl rfl a5 a5) ?_;refine cR (gm (a:=((Vec.get s.words ((i / 64).toNat)) >>> ((i % 64).toNat))) (b:=1#64)) ?_;refine kd ?_;refine ll ?_;exact c4 (decide (((((Vec.get s.words ((i / 64).toNat)) >>> ((i % 64).toNat)) &&& (1#64)).toNat:Int)=((1#64).toNat:Int))) hk (.c .nil) (List.Sublist.refl _)
  ·replace hk:=dD hk h3;refine TL.run 12 rfl ?_;refine TL.nil ?_;refine ll ?_;exact q4r
 ·rintro x_1 hk;rw [←hk2] at hk; (try dsimp only at hk);refine T.ret ?_;obtain rfl:=Option.some.inj hk;exact eY
def zbs (x_:Int):Bool:=
 (decide (¬x_=x_))
theorem zeb (F0:Frz)(w:World)(hF0:F0.At w)(x_:Int):Calls Tryz.prog 140 #[.int .i64 x_] w fun e w'=>e= .returned (.bool (zbs x_))∧Below w.heap.size w w':=by
 obtain ⟨r,hk⟩:∃r,zbs x_=r:=⟨_,rfl⟩;rw [hk];unfold zbs at hk;obtain ⟨S0,F1,rfl,hS0,hp0⟩:=fE hF0;refine dy Tryz.func140 rfl rfl rfl hp0 ?_;refine mM ?_;refine TL.run 4 rfl ?_;refine fN ?_;subst hk;exact eY
def zbb (x_:Int)(y:Int):Int:=
 (bif (zbs x_) then
  (bif (zbs y) then
   0
   else
   (-1))
  else
  (bif (zbs y) then
   1
   else
   (bif decide (x_<y) then
    (-1)
    else
    (bif decide (y<x_) then
     1
     else
     0))))
theorem zfl (F0:Frz)(w:World)(hF0:F0.At w)(x_:Int)(y:Int):Calls Tryz.prog 107 #[.int .i64 x_, .int .i64 y] w fun e w'=>e= .returned (.int .i64 (zbb x_ y))∧Below w.heap.size w w':=by
 obtain ⟨r,hk⟩:∃r,zbb x_ y=r:=⟨_,rfl⟩;rw [hk];unfold zbb at hk;obtain ⟨S0,F1,rfl,hS0,hp0⟩:=fE hF0;refine dy Tryz.func107 rfl rfl rfl hp0 ?_;refine mD ?_;refine cX (cS rfl rfl rfl (fun w hw=>zeb _ w (hw.fr (i:=0) rfl) x_)) ?_;refine fb ?_;refine kH ?_;refine cX (cS rfl rfl rfl (fun w hw=>zeb _ w (hw.fr (i:=0) rfl) y)) ?_;refine fb ?_;refine i2 ?_;refine dL ?_;refine T.cond rfl (fun h1=>?_) (fun h1=>?_)
 ·replace hk:=dC hk h1;refine T.seq (dm ?_);refine dL ?_;refine T.cond rfl (fun h2=>?_) (fun h2=>?_)
  ·replace hk:=dC hk h2;refine gh ?_;refine TL.ns (T.ret (cV (cV ?_)));subst hk;exact eY
  ·replace hk:=dD hk h2;refine gW ?_;refine dp ?_;refine kh ?_;subst hk;exact eY
 ·replace hk:=dD hk h1;refine ke ?_;refine dL ?_;refine T.cond rfl (fun h3=>?_) (fun h3=>?_)
  ·replace hk:=dC hk h3;refine hD ?_;subst hk;exact eY
  ·replace hk:=dD hk h3;refine ke ?_;refine fF ?_;refine TL.ns ?_;refine T.cond rfl (fun h4=>?_) (fun h4=>?_)
   ·have p4:=of_decide_eq_true h4;replace hk:=dC hk h4;refine hD ?_;subst hk;exact eY
   ·have p4:=of_decide_eq_false h4;replace hk:=dD hk h4;refine ke ?_;refine fF ?_;refine TL.ns ?_;refine T.cond rfl (fun h5=>?_) (fun h5=>?_)
    ·have p5:=of_decide_eq_true h5;replace hk:=dC hk h5;refine hD ?_;subst hk;exact eY
    ·have p5:=of_decide_eq_false h5;replace hk:=dD hk h5;refine gW ?_;refine fm ?_;subst hk;exact eY
def zaR (s:GSet)(o:GSet):Bool:=
 dN (fun (_:Unit)=>
  true)
 (fun k1=>
  di (fun (i_3:Nat) (next2:Unit→Bool) (_:Unit)=>
   (bif decide (¬(((Vec.get s.words i_3) &&& ~~~(Vec.get o.words i_3)).toNat:Int)=((0#64).toNat:Int)) then
    false
    else
    next2 ()))
  (fun (_:Unit)=>
   k1 ()) (8 - 0) 0 ())
theorem zcy (F0:Frz)(w:World)(hF0:F0.At w)(s:GSet)(o:GSet):Calls Tryz.prog 116 #[.agg (s.words.1.map U).toArray, .agg (o.words.1.map U).toArray] w fun e w'=>e= .returned (.bool (zaR s o))∧Below w.heap.size w w':=by
 obtain ⟨r,hk⟩:∃r,zaR s o=r:=⟨_,rfl⟩;rw [hk];unfold zaR at hk;obtain ⟨S0,F1,rfl,hS0,hp0⟩:=fE hF0;refine dy Tryz.func116 rfl rfl rfl hp0 ?_;refine kg ?_;rintro _ _ ⟨g2,rfl,rfl⟩;refine q31 ?_;rintro _ _ ⟨g3,rfl,rfl⟩;refine i2 ?_;refine fy ?_;refine cR (dY 1 rfl rfl rfl Vec.len) ?_;refine dL ?_;have hq:=eN hk;clear hk;obtain ⟨k1,hk1,hk⟩:=hq; (try dsimp only at hk);refine dk (ι:=Unit) (fun z=>[]) (fun z=>[.fr F1]) (fun z=>k1 ()=r) ?_ ?_
 ·have hq:=fS hk;clear hk;obtain ⟨f2,kk2,hf2,hkk2,hk⟩:=hq;refine fJ ?_;refine T.pick [0,2] rfl a6 ?_;refine T.loop (ι:=Nat) (fun z=>[(3, .pointer (some ⟨g3,0,none⟩)),(8, .agg (s.words.1.map U).toArray),(9, .int .i64 (z:Int))]) (fun z=>[.row g3 83 (o.words.1.map U), .fr F1]) (fun z=>di f2 kk2 (8 - z) z ()=r) (fun z=>8 - z) 0 ?_ ?_ ?_ ?_
  ·exact hk
  ·exact q37
  ·exact fx
  ·rintro i_3 hk;refine eR ?_;refine T.cond rfl (fun h4=>?_) (fun h4=>?_)
   ·have p4:=of_decide_eq_true h4;rw [fT a5] at hk;generalize hn2:di f2 kk2 (8 - (i_3+1)) (i_3+1)=next2 at hk;rw [←hf2] at hk; (try dsimp only at hk);refine fH ?_;refine dp ?_;refine cR (mQ (i:=i_3) rfl rfl rfl rfl a5 (Vec.cell a5)) ?_;refine ez ?_;refine dR ?_;refine ez ?_;refine fy ?_;refine cR (ep (i:=i_3) rfl rfl rfl rfl a5) ?_;refine cR (da 0 rfl rfl rfl (lH a5 (Vec.cell (i:=i_3) a5))) ?_;refine cR (lz rfl rfl rfl) ?_;refine dL ?_;refine T.cond rfl (fun h5=>?_) (fun h5=>?_)
    ·replace hk:=dC hk h5;refine jv ?_;subst hk;exact eY
    ·replace hk:=dD hk h5;refine gZ ?_;rw [←hn2] at hk;exact q4u
   ·have p4:=of_decide_eq_false h4;rw [fR a5,←hkk2] at hk; (try dsimp only at hk);refine fi ?_;refine ll ?_;exact lD
 ·rintro _ hk;rw [←hk1] at hk; (try dsimp only at hk);refine lC ?_;subst hk;exact eY
def zaN (l:List Int):Bool:=
 dN (fun (_:Unit)=>
  true)
 (fun k1=>
  di (fun (i_3:Nat) (next2:Unit→Bool) (_:Unit)=>
   (bif !(jE (cQ l i_3)) then
    false
    else
    next2 ()))
  (fun (_:Unit)=>
   k1 ()) (l.length - 0) 0 ())
theorem zcD (F0:Frz)(w:World)(hF0:F0.At w)(l:List Int)(vl:Value)(hl:SlC F0 vl 1 (l.map eI)):Calls Tryz.prog 122 #[vl, .func (.func 79) #[] #[]] w fun e w'=>e= .returned (.bool (zaN l))∧Below w.heap.size w w':=by
 obtain ⟨r,hk⟩:∃r,zaN l=r:=⟨_,rfl⟩;rw [hk];unfold zaN at hk;haveI:=hl.oneC;obtain ⟨S0,F1,rfl,hS0,hp0⟩:=fE hF0;refine dy Tryz.func122 rfl rfl rfl hp0 ?_;refine i5 ?_;refine q2b ?_;have hm8:l.length≤9223372036854775807:=(List.length_map _)▸hl.max;refine dL ?_;have hq:=eN hk;clear hk;obtain ⟨k1,hk1,hk⟩:=hq; (try dsimp only at hk);refine dk (ι:=Unit) (fun z=>[]) (fun z=>[.fr F1]) (fun z=>k1 ()=r) ?_ ?_
 ·have hq:=fS hk;clear hk;obtain ⟨f2,kk2,hf2,hkk2,hk⟩:=hq;refine fJ ?_;refine T.loop (ι:=Nat) (fun z=>[(1, .func (.func 79) #[] #[]),(7,vl),(8, .int .i64 (l.length:Int)),(9, .int .i64 (z:Int))]) (fun z=>[.fr F1]) (fun z=>di f2 kk2 (l.length - z) z ()=r) (fun z=>l.length - z) 0 ?_ ?_ ?_ ?_
  ·exact hk
  ·exact q4a
  ·exact fx
  ·rintro i_3 hk;refine eR ?_;refine T.cond rfl (fun h4=>?_) (fun h4=>?_)
   ·have p4:=of_decide_eq_true h4;rw [fT a5] at hk;generalize hn2:di f2 kk2 (l.length - (i_3+1)) (i_3+1)=next2 at hk;rw [←hf2] at hk; (try dsimp only at hk);refine fH ?_;refine q3B ?_;refine gz ?_;refine ez ?_;refine cX (cS rfl rfl rfl (fun w hw=>zdb _ w (hw.fr (i:=0) rfl) (cQ l i_3))) ?_;refine fb ?_;refine dL ?_;refine T.cond rfl (fun h5=>?_) (fun h5=>?_)
    ·replace hk:=dC hk h5;refine jv ?_;subst hk;exact eY
    ·replace hk:=dD hk h5;refine gZ ?_;rw [←hn2] at hk;exact K.next (i_3+1) hk a5 (.c (.c (.c (.c .nil)))) (List.Sublist.refl _)
   ·have p4:=of_decide_eq_false h4;rw [fR a5,←hkk2] at hk; (try dsimp only at hk);refine fi ?_;exact lD
 ·rintro _ hk;rw [←hk1] at hk; (try dsimp only at hk);refine lC ?_;subst hk;exact eY
def zbd (l:List Int):Option Bool:=
 dN (fun (_:Unit)=>
  some true)
 (fun k1=>
  di (fun (i_3:Nat) (next2:Unit→Option Bool) (_:Unit)=>
   dU (0≤((i_3:Int) - 1)∧((i_3:Int) - 1)<(l.length:Int)) <|
   (bif decide (0≤(zbb (cQ l (((i_3:Int) - 1).toNat)) (cQ l i_3))) then
    some false
    else
    next2 ()))
  (fun (_:Unit)=>
   k1 ()) (l.length - 1) 1 ())
theorem zdi (F0:Frz)(w:World)(hF0:F0.At w)(l:List Int)(vl:Value)(hl:SlC F0 vl 1 (l.map eI))(r:Bool)(hr:zbd l=some r):Calls Tryz.prog 123 #[vl, .func (.func 107) #[] #[]] w fun e w'=>e= .returned (.bool r)∧Below w.heap.size w w':=by
 have hk:=hr;unfold zbd at hk;haveI:=hl.oneC;obtain ⟨S0,F1,rfl,hS0,hp0⟩:=fE hF0;refine dy Tryz.func123 rfl rfl rfl hp0 ?_;refine gh ?_;refine iM ?_;refine dL ?_;have hq:=eN hk;clear hk;obtain ⟨k1,hk1,hk⟩:=hq; (try dsimp only at hk);refine dk (ι:=Unit) (fun z=>[]) (fun z=>[.fr F1]) (fun z=>k1 ()=some r) ?_ ?_
 ·have hq:=fS hk;clear hk;obtain ⟨f2,kk2,hf2,hkk2,hk⟩:=hq;refine fJ ?_;refine T.loop (ι:=Nat) (fun z=>[(0,vl),(1, .func (.func 107) #[] #[]),(5, .int .i64 (z:Int))]) (fun z=>[.fr F1]) (fun z=>di f2 kk2 (l.length - z) z ()=some r) (fun z=>l.length - z) 1 ?_ ?_ ?_ ?_
  ·exact hk
  ·exact q37
  ·exact fx
  ·rintro i_3 hk;refine jS ?_;refine q2b ?_;have hm8:l.length≤9223372036854775807:=(List.length_map _)▸hl.max;refine dL ?_;refine T.cond rfl (fun h4=>?_) (fun h4=>?_)
   ·have p4:=of_decide_eq_true h4;rw [fT a5] at hk;generalize hn2:di f2 kk2 (l.length - (i_3+1)) (i_3+1)=next2 at hk;rw [←hf2] at hk; (try dsimp only at hk);refine kq ?_;have hq:(0≤((i_3:Int) - 1)∧((i_3:Int) - 1)<(l.length:Int))∧_:=eW hk;clear hk;obtain ⟨g16,hk⟩:=hq; (try dsimp only at hk);refine q2I ?_;refine q1X ?_;refine q2Q ?_;refine q2k ?_;refine dQ ?_;refine dx rfl (Wt.none) rfl rfl (cS rfl rfl rfl (fun w hw=>zfl _ w (hw.fr (i:=0) rfl) (cQ l (((i_3:Int) - 1).toNat)) (cQ l i_3))) ?_;refine lT ?_;refine kQ ?_;refine T.cond rfl (fun h5=>?_) (fun h5=>?_)
    ·have p5:=of_decide_eq_true h5;replace hk:=dC hk h5;refine jv ?_;obtain rfl:=Option.some.inj hk;exact eY
    ·have p5:=of_decide_eq_false h5;replace hk:=dD hk h5;refine li ?_;rw [←hn2] at hk;exact q4u
   ·have p4:=of_decide_eq_false h4;rw [fR a5,←hkk2] at hk; (try dsimp only at hk);refine fi ?_;exact lD
 ·rintro _ hk;rw [←hk1] at hk; (try dsimp only at hk);refine lC ?_;obtain rfl:=Option.some.inj hk;exact eY
def zaT (l:List Int):Option Bool:=
 dN (fun (x_1:Bool)=>
  some x_1)
 (fun k2=>
  (bif (zaN l) then
   (zbd l).bind fun r7=>
   k2 r7
   else
   k2 false))
theorem zcv (F0:Frz)(w:World)(hF0:F0.At w)(l:List Int)(vl:Value)(hl:SlC F0 vl 1 (l.map eI))(r:Bool)(hr:zaT l=some r):Calls Tryz.prog 77 #[vl] w fun e w'=>e= .returned (.bool r)∧Below w.heap.size w w':=by
 have hk:=hr;unfold zaT at hk;haveI:=hl.oneC;obtain ⟨S0,F1,rfl,hS0,hp0⟩:=fE hF0;refine dy Tryz.func77 rfl rfl rfl hp0 ?_;refine eR ?_; (try dsimp only at hk);have hq:=eN hk;clear hk;obtain ⟨k2,hk2,hk⟩:=hq; (try dsimp only at hk);refine dk (ι:=Bool) (fun z=>[(2, .bool z)]) (fun z=>[.fr F1]) (fun z=>k2 z=some r) ?_ ?_
 ·refine fk ?_;refine cX (cS rfl rfl rfl (fun w hw=>zcD _ w (hw.fr (i:=0) rfl) l vl hl)) ?_;refine mr ?_;refine dO rfl rfl rfl (fun h3=>?_) (fun h3=>?_)
  ·replace hk:=dC hk h3;refine dp ?_;have hq:=dV hk;clear hk;obtain ⟨r7,hr7,hk⟩:=hq;refine cX (cS rfl rfl rfl (fun w hw=>zdi _ w (hw.fr (i:=0) rfl) l vl hl r7 hr7)) ?_;refine mq ?_;exact c4 r7 hk (.c .nil) (List.Sublist.refl _)
  ·replace hk:=dD hk h3;refine lY ?_;exact q4r
 ·rintro x_1 hk;rw [←hk2] at hk; (try dsimp only at hk);refine T.ret ?_;obtain rfl:=Option.some.inj hk;exact eY
def zb5 (l:List GChoice)(stations:List Int):Option (List GChoice×Int):=
 dN (fun (x_1:Bool)=>
  (bif x_1 then
   some ([],2)
   else
   (zb6 stations).bind fun r21=>
   dN (fun (some_5:List GChoice)=>
    some (some_5,0))
   (fun k6=>
    di (fun (i_9:Nat) (next8:List GChoice→Option (List GChoice×Int)) (some_7:List GChoice)=>
     (lu r21.1 ((cQ l i_9).Station)).bind fun r33=>
     (bif r33 then
      dU (dd (some_7++[(cQ l i_9)]).length 16) <|
      next8 (some_7++[(cQ l i_9)])
      else
      next8 some_7))
    (fun (some_7:List GChoice)=>
     k6 some_7) (l.length - 0) 0 [])))
 (fun k2=>
  (bif !(kX l) then
   k2 true
   else
   (zaT stations).bind fun r16=>
   k2 (!r16)))
theorem zgS (F0:Frz)(w:World)(hF0:F0.At w)(l:List GChoice)(vl:Value)(hl:SlC F0 vl 2 (l.map cW))(stations:List Int)(vstations:Value)(hstations:SlC F0 vstations 1 (stations.map eI))(r:List GChoice×Int)(hr:zb5 l stations=some r):Calls Tryz.prog 40 #[vl,vstations] w fun e w'=>∃(y:Value) (G:Frz),(SlC G y 2 (r.1.map cW))∧e= .returned (.tuple #[y, .int .i64 r.2])∧Fx F0 w G w':=by
 have hk:=hr;unfold zb5 at hk;haveI:=hl.oneC;haveI:=hstations.oneC;obtain ⟨S0,F1,rfl,hS0,hp0⟩:=fE hF0;refine dy Tryz.func40 rfl rfl rfl hp0 ?_;refine iD ?_;refine iZ ?_; (try dsimp only at hk);have hq:=eN hk;clear hk;obtain ⟨k2,hk2,hk⟩:=hq; (try dsimp only at hk);refine dk (ι:=Bool) (fun z=>[(0,vl),(1,vstations),(18, .bool z)]) (fun z=>[.fr F1]) (fun z=>k2 z=some r) ?_ ?_
 ·refine fk ?_;refine cX (cS rfl rfl rfl (fun w hw=>zcl _ w (hw.fr (i:=0) rfl) l vl hl)) ?_;refine fb ?_;refine ez ?_;refine dO rfl rfl rfl (fun h3=>?_) (fun h3=>?_)
  ·replace hk:=dC hk h3;refine lY ?_;exact q4D
  ·replace hk:=dD hk h3;refine dp ?_;have hq:=dV hk;clear hk;obtain ⟨r16,hr16,hk⟩:=hq;refine cX (cS rfl rfl rfl (fun w hw=>zcv _ w (hw.fr (i:=0) rfl) stations vstations hstations r16 hr16)) ?_;refine mq ?_;exact c4 (!r16) hk (.c (.c (.c .nil))) (List.Sublist.refl _)
 ·rintro x_1 hk;rw [←hk2] at hk; (try dsimp only at hk);refine T.cond rfl (fun h4=>?_) (fun h4=>?_)
  ·replace hk:=dC hk h4;refine ld ?_;obtain rfl:=Option.some.inj hk;exact eC rfl rfl rfl (fun w' hw=>⟨(.slice none 0 0),F1.toFrz,(SlC.nil _ 2),rfl,eD hw (i:=0) rfl hS0 (Frz.Le.refl _)⟩)
  ·replace hk:=dD hk h4;refine iK ?_;have hq:=dV hk;clear hk;obtain ⟨r21,hr21,hk⟩:=hq; (try dsimp only at hk);refine fk ?_;refine cX (cS rfl rfl rfl (fun w hw=>zd8 _ w (hw.fr (i:=0) rfl) stations vstations hstations r21 hr21)) ?_;refine fb ?_;refine fF ?_;refine q1K ?_;rintro _ _ ⟨g6,rfl,rfl⟩;refine q1p ?_;refine kH ?_;refine TL.slNil 68 2 ?_;refine mP ?_;refine q2b ?_;have hm25:l.length≤9223372036854775807:=(List.length_map _)▸hl.max;refine dL ?_;have hq:=eN hk;clear hk;obtain ⟨k6,hk6,hk⟩:=hq; (try dsimp only at hk);refine dk (ι:=List GChoice×Value) (fun z=>[(8,z.2)]) (fun z=>[.sl z.2 68 2 z.1.length (z.1.flatMap cW), .fr F1]) (fun z=>k6 z.1=some r∧OneC z.2) ?_ ?_
   ·have hq:=fS hk;clear hk;obtain ⟨f8,kk8,hf8,hkk8,hk⟩:=hq;refine fJ ?_;refine T.loop (ι:=Nat×List GChoice×Value) (fun z=>[(6, .pointer (some ⟨g6,0,none⟩)),(8,z.2.2),(24,vl),(25, .int .i64 (l.length:Int)),(26, .int .i64 (z.1:Int))]) (fun z=>[.sl z.2.2 68 2 z.2.1.length (z.2.1.flatMap cW), .row g6 83 (r21.1.words.1.map U), .fr F1]) (fun z=>di f8 kk8 (l.length - z.1) z.1 z.2.1=some r∧OneC z.2.2) (fun z=>l.length - z.1) (0,[],(.slice none 0 0)) ?_ ?_ ?_ ?_
    ·exact q4b
    ·exact l9
    ·exact fx
    ·rintro ⟨i_9,some_7,vsome_7⟩ ⟨hk,osome_7⟩; (try dsimp only at *);refine eR ?_;refine T.cond rfl (fun h10=>?_) (fun h10=>?_)
     ·have p10:=of_decide_eq_true h10;rw [fT a5] at hk;generalize hn8:di f8 kk8 (l.length - (i_9+1)) (i_9+1)=next8 at hk;rw [←hf8] at hk; (try dsimp only at hk);refine fH ?_;refine cR (dH (i:=i_9) rfl rfl rfl hl (List.length_map _) rfl a5) ?_;refine cR (fV 2 (i:=i_9) rfl rfl rfl hl a5) ?_;refine gw ?_;rintro _ _ ⟨g10,rfl,rfl⟩;refine iW ?_;refine gU ?_;have hq:=dV hk;clear hk;obtain ⟨r33,hr33,hk⟩:=hq; (try dsimp only at hk);refine fg ?_;refine cR (dY 2 rfl rfl rfl Vec.len) ?_;refine eX ?_;refine cX (cS rfl rfl rfl (fun w hw=>zaE _ w (hw.fr (i:=3) rfl) r21.1 ((cQ l i_9).Station) r33 hr33)) ?_;refine fb ?_;refine TL.ns ?_;refine T.cond rfl (fun h11=>?_) (fun h11=>?_)
      ·replace hk:=dC hk h11;have hq:(dd (some_7++[(cQ l i_9)]).length 16)∧_:=eW hk;clear hk;obtain ⟨g37,hk⟩:=hq; (try dsimp only at hk);refine fk ?_;refine iu ?_;refine jj ?_;rintro _ _ ⟨g36,rfl,rfl⟩;refine cX (fj 2 0 rfl rfl rfl rfl rfl rfl (j2 (ys:=[(cQ l i_9)])) (mn (enc:=cW) (xs:=some_7) (ys:=[(cQ l i_9)])) g37 a6) ?_;rintro v37 _ ⟨hv37,rfl⟩;refine mm ?_;rw [←hn8] at hk;refine K.pick [2,3,4] rfl a6 ?_;exact K.next ((i_9+1),(some_7++[(cQ l i_9)]),v37) ⟨hk,inferInstance⟩ a9 (.c (.c (.c (.c (.c .nil))))) (List.Sublist.refl _)
      ·replace hk:=dD hk h11;refine gZ ?_;rw [←hn8] at hk;refine q3l ?_;exact K.next ((i_9+1),some_7,vsome_7) ⟨hk,inferInstance⟩ a9 (.c (.c (.c (.c (.c .nil))))) (List.Sublist.refl _)
     ·have p10:=of_decide_eq_false h10;rw [fR a5,←hkk8] at hk; (try dsimp only at hk);refine fi ?_;refine K.pick [0,2] rfl a6 ?_;exact c4 (some_7,vsome_7) ⟨hk,inferInstance⟩ (.c .nil) (List.Sublist.refl _)
   ·rintro ⟨some_5,vsome_5⟩ ⟨hk,osome_5⟩; (try dsimp only at *);rw [←hk6] at hk; (try dsimp only at hk);refine dm ?_;refine fF ?_;refine fN ?_;refine q28 ?_;rintro F2 ⟨le1_2,hz2⟩;refine gY ?_;have hf2:=hz2.toF rfl GChoice.len;haveI:=hf2.oneC;obtain rfl:=Option.some.inj hk;exact eC rfl rfl rfl (fun w' hw=>⟨vsome_5,F2.toFrz,hf2,rfl,eD hw (i:=0) rfl hS0 le1_2⟩)
def zcF (p:GProblem):Option GSet:=
 dU (dd p.Domains.length 8) <|
 dN (fun (l_1:List Int)=>
  (zb6 l_1).bind fun r28=>
  some r28.1)
 (fun k2=>
  di (fun (i_5:Nat) (next4:List Int→Option GSet) (l_3:List Int)=>
   dU (0≤(i_5:Int)∧(i_5:Int)<(l_3.length:Int)) <|
   next4 (l_3.set i_5 ((cQ p.Domains i_5).Station)))
  (fun (l_3:List Int)=>
   k2 l_3) (p.Domains.length - 0) 0 (List.replicate p.Domains.length 0))
theorem zfx (F0:Frz)(w:World)(hF0:F0.At w)(p:GProblem)(vp_0:Value)(cp_0:List (List Value))(hp_0:SlD cT F0 vp_0 2 cp_0 p.Domains)(vp_1:Value)(hp_1:SlC F0 vp_1 5 (p.Rules.Pairs.map dh))(vp_2:Value)(hp_2:SlC F0 vp_2 5 (p.Rules.Loads.map dl))(vp_3:Value)(hp_3:SlC F0 vp_3 4 (p.Rules.Caps.map dv))(r:GSet)(hr:zcF p=some r):Calls Tryz.prog 109 #[.agg [vp_0,vp_1,vp_2,vp_3].toArray] w fun e w'=>e= .returned (.agg (r.words.1.map U).toArray)∧Below w.heap.size w w':=by
 have hk:=hr;unfold zcF at hk;haveI:=hp_0.1.oneC;haveI:=hp_1.oneC;haveI:=hp_2.oneC;haveI:=hp_3.oneC;obtain ⟨S0,F1,rfl,hS0,hp0⟩:=fE hF0;refine dy Tryz.func109 rfl rfl rfl hp0 ?_;refine kg ?_;rintro _ _ ⟨g1,rfl,rfl⟩;refine q1K ?_;rintro _ _ ⟨g2,rfl,rfl⟩;refine gU ?_;have hq:(dd p.Domains.length 8)∧_:=eW hk;clear hk;obtain ⟨g11,hk⟩:=hq; (try dsimp only at hk);refine fg ?_;refine j5 ?_;refine cR (dA rfl rfl hp_0.1 hp_0.2.1) ?_;have hm10:p.Domains.length≤9223372036854775807:=hp_0.2.1▸hp_0.1.max;refine cX (Ew.cy (n':=p.Domains.length) (enc:=eI) (u:=0) rfl rfl rfl rfl g11 a6 a6 (fun _=>rfl) rfl) ?_;rintro v11 _ ⟨hv11,rfl⟩;refine gF 0 rfl ?_;intro iv11 hmv11;refine i2 ?_;refine mg ?_;refine cR (dA rfl rfl hp_0.1 hp_0.2.1) ?_;refine dL ?_;have hq:=eN hk;clear hk;obtain ⟨k2,hk2,hk⟩:=hq; (try dsimp only at hk);refine dk (ι:=List Int) (fun z=>[(2, .pointer (some ⟨g2,0,none⟩)),(3,v11)]) (fun z=>[.sl v11 3 1 z.length (z.flatMap eI), .row g2 83 ((Vec.fill 8 (0#64)).1.map U), .fr F1]) (fun z=>k2 z=some r) ?_ ?_
 ·have hq:=fS hk;clear hk;obtain ⟨f4,kk4,hf4,hkk4,hk⟩:=hq;refine fJ ?_;refine T.pick [0,1,3] rfl a6 ?_;refine T.loop (ι:=Nat×List Int) (fun z=>[(2, .pointer (some ⟨g2,0,none⟩)),(3,v11),(13,vp_0),(14, .int .i64 (p.Domains.length:Int)),(15, .int .i64 (z.1:Int))]) (fun z=>[.sl v11 3 1 z.2.length (z.2.flatMap eI), .row g2 83 ((Vec.fill 8 (0#64)).1.map U), .fr F1]) (fun z=>di f4 kk4 (p.Domains.length - z.1) z.1 z.2=some r) (fun z=>p.Domains.length - z.1) (0,(List.replicate p.Domains.length 0)) ?_ ?_ ?_ ?_
  ·exact hk
  ·exact l9
  ·exact fx
  ·rintro ⟨i_5,l_3⟩ hk; (try dsimp only at *);refine eR ?_;refine T.cond rfl (fun h6=>?_) (fun h6=>?_)
   ·have p6:=of_decide_eq_true h6;rw [fT a5] at hk;generalize hn4:di f4 kk4 (p.Domains.length - (i_5+1)) (i_5+1)=next4 at hk;rw [←hf4] at hk; (try dsimp only at hk);refine fH ?_;refine dp ?_;refine q2W ?_;have hd19_1:=(GDomain.c1 (hp_0.2.2 i_5 a5)).2;haveI:=hd19_1.oneC;refine gw ?_;rintro _ _ ⟨g5,rfl,rfl⟩;refine dp ?_;refine iW ?_;refine TL.ns ?_;have hq:(0≤(i_5:Int)∧(i_5:Int)<(l_3.length:Int))∧_:=eW hk;clear hk;obtain ⟨g24,hk⟩:=hq; (try dsimp only at hk);refine gp ?_;refine eX ?_;refine cR (m4 1 (i:=i_5) rfl rfl rfl rfl rfl a5) ?_;refine eE (Ew.bW 1 (k':=(l_3.set i_5 ((cQ p.Domains i_5).Station)).length) (l':=(l_3.set i_5 ((cQ p.Domains i_5).Station)).flatMap eI) rfl rfl rfl rfl a5 (zhj (enc:=eI) (xs:=l_3) (i:=i_5) (j:=0) (size:=1) (fun _=>rfl) a5 a6 a5) (zia (enc:=eI) (xs:=l_3) (i:=i_5) (j:=0) (size:=1) (x:=((cQ p.Domains i_5).Station)) (fun _=>rfl) a5 a6 a5 rfl) (List.length_set ..)) ?_;refine fb ?_;refine l6 ?_;rw [←hn4] at hk;refine q3l ?_;exact K.next ((i_5+1),(l_3.set i_5 ((cQ p.Domains i_5).Station))) hk a9 (.c (.c (.c (.c (.c .nil))))) (List.Sublist.refl _)
   ·have p6:=of_decide_eq_false h6;rw [fR a5,←hkk4] at hk; (try dsimp only at hk);refine fi ?_;exact c4 l_3 hk (.c (.c .nil)) (List.Sublist.refl _)
 ·rintro l_1 hk;rw [←hk2] at hk; (try dsimp only at hk);refine T.seq ?_;have hq:=dV hk;clear hk;obtain ⟨r28,hr28,hk⟩:=hq; (try dsimp only at hk);refine fk ?_;refine cX (cS rfl rfl rfl (fun w hw=>(hw.bor (i:=2) (j:=0) rfl rfl).elim fun F9 b=>have le1_2:=b.1.le;zd8 F9 w b.1.at_ l_1 v11 (b.2.toF rfl (fun _=>rfl)) r28 hr28)) ?_;refine fb ?_;refine fF ?_;refine q1K ?_;rintro _ _ ⟨g6,rfl,rfl⟩;refine q1p ?_;refine gz ?_;refine cR (dY 0 rfl rfl rfl Vec.len) ?_;refine eE (dF 2 rfl rfl rfl rfl Vec.len (Vec.len.trans Vec.len.symm)) ?_;refine fb ?_;refine fN ?_;obtain rfl:=Option.some.inj hk;exact kB 2 rfl rfl rfl Vec.len (fun w' hw=>⟨rfl,hw.isBelow⟩)
def zcw (p:GProblem)(stations:List Int):Option (GProblem×Int):=
 dN (fun (x_1:Bool)=>
  (bif x_1 then
   some ((GProblem.mk [] (GRules.mk [] [] [])),2)
   else
   (zb6 stations).bind fun r28=>
   (zcF p).bind fun r33=>
   (bif !(zaR r28.1 r33) then
    some ((GProblem.mk [] (GRules.mk [] [] [])),9)
    else
    dN (fun (s10:List GDomain×List GPair×List GLoad×List GCap)=>
     dN (fun (s23:List GDomain×List GPair×List GLoad×List GCap)=>
      dN (fun (s39:List GDomain×List GPair×List GLoad×List GCap)=>
       dN (fun (s55:List GDomain×List GPair×List GLoad×List GCap)=>
        some ((GProblem.mk s55.1 (GRules.mk s55.2.1 s55.2.2.1 s55.2.2.2)),0))
       (fun k55=>
        di (fun (i_61:Nat) (next60:(List GDomain×List GPair×List GLoad×List GCap)→Option (GProblem×Int)) (s60:List GDomain×List GPair×List GLoad×List GCap)=>
         (lu r28.1 ((cQ p.Rules.Caps i_61).Station)).bind fun r125=>
         (bif r125 then
          dU (dd (s60.2.2.2++[(cQ p.Rules.Caps i_61)]).length 32) <|
          next60 (s60.1,s60.2.1,s60.2.2.1,(s60.2.2.2++[(cQ p.Rules.Caps i_61)]))
          else
          next60 (s60.1,s60.2.1,s60.2.2.1,s60.2.2.2)))
        (fun (s60:List GDomain×List GPair×List GLoad×List GCap)=>
         k55 (s60.1,s60.2.1,s60.2.2.1,s60.2.2.2)) (p.Rules.Caps.length - 0) 0 (s39.1,s39.2.1,s39.2.2.1,s39.2.2.2)))
      (fun k39=>
       di (fun (i_45:Nat) (next44:(List GDomain×List GPair×List GLoad×List GCap)→Option (GProblem×Int)) (s44:List GDomain×List GPair×List GLoad×List GCap)=>
        (lu r28.1 ((cQ p.Rules.Loads i_45).To)).bind fun r98=>
        dN (fun (x_47:Bool)=>
         (bif x_47 then
          dU (dd (s44.2.2.1++[(cQ p.Rules.Loads i_45)]).length 40) <|
          next44 (s44.1,s44.2.1,(s44.2.2.1++[(cQ p.Rules.Loads i_45)]),s44.2.2.2)
          else
          next44 (s44.1,s44.2.1,s44.2.2.1,s44.2.2.2)))
        (fun k48=>
         (bif r98 then
          (lu r28.1 ((cQ p.Rules.Loads i_45).From)).bind fun r103=>
          k48 r103
          else
          k48 false)))
       (fun (s44:List GDomain×List GPair×List GLoad×List GCap)=>
        k39 (s44.1,s44.2.1,s44.2.2.1,s44.2.2.2)) (p.Rules.Loads.length - 0) 0 (s23.1,s23.2.1,s23.2.2.1,s23.2.2.2)))
     (fun k23=>
      di (fun (i_29:Nat) (next28:(List GDomain×List GPair×List GLoad×List GCap)→Option (GProblem×Int)) (s28:List GDomain×List GPair×List GLoad×List GCap)=>
       (lu r28.1 ((cQ p.Rules.Pairs i_29).A)).bind fun r71=>
       dN (fun (x_31:Bool)=>
        (bif x_31 then
         dU (dd (s28.2.1++[(cQ p.Rules.Pairs i_29)]).length 40) <|
         next28 (s28.1,(s28.2.1++[(cQ p.Rules.Pairs i_29)]),s28.2.2.1,s28.2.2.2)
         else
         next28 (s28.1,s28.2.1,s28.2.2.1,s28.2.2.2)))
       (fun k32=>
        (bif r71 then
         (lu r28.1 ((cQ p.Rules.Pairs i_29).B)).bind fun r76=>
         k32 r76
         else
         k32 false)))
      (fun (s28:List GDomain×List GPair×List GLoad×List GCap)=>
       k23 (s28.1,s28.2.1,s28.2.2.1,s28.2.2.2)) (p.Rules.Pairs.length - 0) 0 (s10.1,s10.2.1,s10.2.2.1,s10.2.2.2)))
    (fun k10=>
     di (fun (i_16:Nat) (next15:(List GDomain×List GPair×List GLoad×List GCap)→Option (GProblem×Int)) (s15:List GDomain×List GPair×List GLoad×List GCap)=>
      (lu r28.1 ((cQ p.Domains i_16).Station)).bind fun r47=>
      (bif r47 then
       dU (dd (((cQ p.Domains i_16).Channels).length) 8) <|
       dU (dd (s15.1++[(GDomain.mk ((cQ p.Domains i_16).Station) ((cQ p.Domains i_16).Channels))]).length 32) <|
       next15 ((s15.1++[(GDomain.mk ((cQ p.Domains i_16).Station) ((cQ p.Domains i_16).Channels))]),s15.2.1,s15.2.2.1,s15.2.2.2)
       else
       next15 (s15.1,s15.2.1,s15.2.2.1,s15.2.2.2)))
     (fun (s15:List GDomain×List GPair×List GLoad×List GCap)=>
      k10 (s15.1,s15.2.1,s15.2.2.1,s15.2.2.2)) (p.Domains.length - 0) 0 ([],[],[],[])))))
 (fun k2=>
  (bif !(lE p) then
   k2 true
   else
   (zaT stations).bind fun r22=>
   k2 (!r22)))
theorem zfj (F0:Frz)(w:World)(hF0:F0.At w)(p:GProblem)(vp_0:Value)(cp_0:List (List Value))(hp_0:SlD cT F0 vp_0 2 cp_0 p.Domains)(vp_1:Value)(hp_1:SlC F0 vp_1 5 (p.Rules.Pairs.map dh))(vp_2:Value)(hp_2:SlC F0 vp_2 5 (p.Rules.Loads.map dl))(vp_3:Value)(hp_3:SlC F0 vp_3 4 (p.Rules.Caps.map dv))(stations:List Int)(vstations:Value)(hstations:SlC F0 vstations 1 (stations.map eI))(r:GProblem×Int)(hr:zcw p stations=some r):Calls Tryz.prog 73 #[.agg [vp_0,vp_1,vp_2,vp_3].toArray,vstations] w fun e w'=>∃(y:Value×List (List Value)×Value×Value×Value) (G:Frz),(SlD cT G y.1 2 y.2.1 r.1.Domains∧SlC G y.2.2.1 5 (r.1.Rules.Pairs.map dh)∧SlC G y.2.2.2.1 5 (r.1.Rules.Loads.map dl)∧SlC G y.2.2.2.2 4 (r.1.Rules.Caps.map dv))∧e= .returned (.tuple #[.agg [y.1,y.2.2.1,y.2.2.2.1,y.2.2.2.2].toArray, .int .i64 r.2])∧Fx F0 w G w':=by
 have hk:=hr;unfold zcw at hk;haveI:=hp_0.1.oneC;haveI:=hp_1.oneC;haveI:=hp_2.oneC;haveI:=hp_3.oneC;haveI:=hstations.oneC;obtain ⟨S0,F1,rfl,hS0,hp0⟩:=fE hF0;refine dy Tryz.func73 rfl rfl rfl hp0 ?_;refine kg ?_;rintro _ _ ⟨g2,rfl,rfl⟩;refine gw ?_;rintro _ _ ⟨g4,rfl,rfl⟩;refine dp ?_;refine iZ ?_; (try dsimp only at hk);have hq:=eN hk;clear hk;obtain ⟨k2,hk2,hk⟩:=hq; (try dsimp only at hk);refine dk (ι:=Bool) (fun z=>[(1,vstations),(2, .pointer (some ⟨g2,0,none⟩)),(4, .pointer (some ⟨g4,0,none⟩)),(24, .bool z)]) (fun z=>[.row g4 29 [(.slice none 0 0),(.slice none 0 0),(.slice none 0 0),(.slice none 0 0)], .row g2 29 [vp_0,vp_1,vp_2,vp_3], .fr F1]) (fun z=>k2 z=some r) ?_ ?_
 ·refine q3K ?_;refine dO rfl rfl rfl (fun h3=>?_) (fun h3=>?_)
  ·replace hk:=dC hk h3;refine lY ?_;exact c4 true hk (.c (.c (.c (.c .nil)))) (List.Sublist.refl _)
  ·replace hk:=dD hk h3;refine dp ?_;have hq:=dV hk;clear hk;obtain ⟨r22,hr22,hk⟩:=hq;refine cX (cS rfl rfl rfl (fun w hw=>zcv _ w (hw.fr (i:=2) rfl) stations vstations hstations r22 hr22)) ?_;refine mq ?_;exact c4 (!r22) hk (.c (.c (.c (.c .nil)))) (List.Sublist.refl _)
 ·rintro x_1 hk;rw [←hk2] at hk; (try dsimp only at hk);refine T.cond rfl (fun h4=>?_) (fun h4=>?_)
  ·replace hk:=dC hk h4;refine q1V ?_;obtain rfl:=Option.some.inj hk;exact fO 0 rfl rfl rfl rfl rfl (fun w' hw=>⟨((.slice none 0 0),[],(.slice none 0 0),(.slice none 0 0),(.slice none 0 0)),F1.toFrz,⟨(SlD.nil _ _ 2),(SlC.nil _ 5),(SlC.nil _ 5),(SlC.nil _ 4)⟩,rfl,eD hw (i:=2) rfl hS0 (Frz.Le.refl _)⟩)
  ·replace hk:=dD hk h4;refine iK ?_;have hq:=dV hk;clear hk;obtain ⟨r28,hr28,hk⟩:=hq; (try dsimp only at hk);refine fk ?_;refine cX (cS rfl rfl rfl (fun w hw=>zd8 _ w (hw.fr (i:=2) rfl) stations vstations hstations r28 hr28)) ?_;refine fb ?_;refine fF ?_;refine q1K ?_;rintro _ _ ⟨g6,rfl,rfl⟩;refine q1p ?_;refine dp ?_;refine iZ ?_;have hq:=dV hk;clear hk;obtain ⟨r33,hr33,hk⟩:=hq; (try dsimp only at hk);refine d8 (sN 0 2 (.eff 2 (.eff 3 (.still 4 .done)))) _ a7 (List.Sublist.refl _) ?_;refine cZ rfl (dY 0 rfl rfl rfl Vec.len) ?_;refine cZ rfl (dY 2) ?_;refine dQ ?_;refine dx rfl (Wt.none) rfl rfl (cS rfl rfl rfl (fun w hw=>zfx _ w (hw.fr (i:=3) rfl) p vp_0 cp_0 hp_0 vp_1 hp_1 vp_2 hp_2 vp_3 hp_3 r33 hr33)) ?_;refine lT ?_;refine dQ ?_;refine dx rfl (Wt.none) rfl rfl (cS rfl rfl rfl (fun w hw=>zcy _ w (hw.fr (i:=3) rfl) r28.1 r33)) ?_;refine lT ?_;refine kQ ?_;refine T.cond rfl (fun h5=>?_) (fun h5=>?_)
   ·replace hk:=dC hk h5;refine q3Q ?_;refine kh ?_;obtain rfl:=Option.some.inj hk;exact fO 1 rfl rfl rfl rfl rfl (fun w' hw=>⟨((.slice none 0 0),[],(.slice none 0 0),(.slice none 0 0),(.slice none 0 0)),F1.toFrz,⟨(SlD.nil _ _ 2),(SlC.nil _ 5),(SlC.nil _ 5),(SlC.nil _ 4)⟩,rfl,eD hw (i:=3) rfl hS0 (Frz.Le.refl _)⟩)
   ·replace hk:=dD hk h5;refine gW ?_;refine gw ?_;rintro _ _ ⟨g8,rfl,rfl⟩;refine TL.slNil 98 2 ?_;refine TL.slNil 100 5 ?_;refine TL.slNil 102 5 ?_;refine TL.slNil 104 4 ?_;refine iM ?_;refine q2E ?_;refine cR (dA rfl rfl hp_0.1 hp_0.2.1) ?_;have hm39:p.Domains.length≤9223372036854775807:=hp_0.2.1▸hp_0.1.max;refine dL ?_;have hq:=eN hk;clear hk;obtain ⟨k10,hk10,hk⟩:=hq; (try dsimp only at hk);refine dk (ι:=List GDomain×Value×List (List Value)×List GPair×Value×List GLoad×Value×List GCap×Value×FzB w (fun _=>False) S0) (fun z=>[(2, .pointer (some ⟨g2,0,none⟩)),(4, .pointer (some ⟨g4,0,none⟩)),(6, .pointer (some ⟨g6,0,none⟩)),(8, .pointer (some ⟨g8,0,none⟩))]) (fun z=>[.sl z.2.1 98 2 z.1.length z.2.2.1.flatten, .sl z.2.2.2.2.1 100 5 z.2.2.2.1.length (z.2.2.2.1.flatMap dh), .sl z.2.2.2.2.2.2.1 102 5 z.2.2.2.2.2.1.length (z.2.2.2.2.2.1.flatMap dl), .sl z.2.2.2.2.2.2.2.2.1 104 4 z.2.2.2.2.2.2.2.1.length (z.2.2.2.2.2.2.2.1.flatMap dv), .row g8 29 [z.2.1,z.2.2.2.2.1,z.2.2.2.2.2.2.1,z.2.2.2.2.2.2.2.2.1], .row g6 83 (r28.1.words.1.map U), .row g4 29 [(.slice none 0 0),(.slice none 0 0),(.slice none 0 0),(.slice none 0 0)], .row g2 29 [vp_0,vp_1,vp_2,vp_3], .fr z.2.2.2.2.2.2.2.2.2]) (fun z=>k10 (z.1,z.2.2.2.1,z.2.2.2.2.2.1,z.2.2.2.2.2.2.2.1)=some r∧OwnD cT z.2.2.2.2.2.2.2.2.2.toFrz 2 z.2.2.1 z.1∧OneC z.2.1∧OneC z.2.2.2.2.1∧OneC z.2.2.2.2.2.2.1∧OneC z.2.2.2.2.2.2.2.2.1∧F1.toFrz.Le z.2.2.2.2.2.2.2.2.2.toFrz) ?_ ?_
    ·have hq:=fS hk;clear hk;obtain ⟨f15,kk15,hf15,hkk15,hk⟩:=hq;refine fJ ?_;refine T.pick [3,2,1,0,4,5,6,7,8] rfl a6 ?_;refine T.loop (ι:=Nat×List GDomain×Value×List (List Value)×List GPair×Value×List GLoad×Value×List GCap×Value×FzB w (fun _=>False) S0) (fun z=>[(2, .pointer (some ⟨g2,0,none⟩)),(4, .pointer (some ⟨g4,0,none⟩)),(6, .pointer (some ⟨g6,0,none⟩)),(8, .pointer (some ⟨g8,0,none⟩)),(38,vp_0),(39, .int .i64 (p.Domains.length:Int)),(40, .int .i64 (z.1:Int))]) (fun z=>[.sl z.2.2.1 98 2 z.2.1.length z.2.2.2.1.flatten, .sl z.2.2.2.2.2.1 100 5 z.2.2.2.2.1.length (z.2.2.2.2.1.flatMap dh), .sl z.2.2.2.2.2.2.2.1 102 5 z.2.2.2.2.2.2.1.length (z.2.2.2.2.2.2.1.flatMap dl), .sl z.2.2.2.2.2.2.2.2.2.1 104 4 z.2.2.2.2.2.2.2.2.1.length (z.2.2.2.2.2.2.2.2.1.flatMap dv), .row g8 29 [z.2.2.1,z.2.2.2.2.2.1,z.2.2.2.2.2.2.2.1,z.2.2.2.2.2.2.2.2.2.1], .row g6 83 (r28.1.words.1.map U), .row g4 29 [(.slice none 0 0),(.slice none 0 0),(.slice none 0 0),(.slice none 0 0)], .row g2 29 [vp_0,vp_1,vp_2,vp_3], .fr z.2.2.2.2.2.2.2.2.2.2]) (fun z=>di f15 kk15 (p.Domains.length - z.1) z.1 (z.2.1,z.2.2.2.2.1,z.2.2.2.2.2.2.1,z.2.2.2.2.2.2.2.2.1)=some r∧OwnD cT z.2.2.2.2.2.2.2.2.2.2.toFrz 2 z.2.2.2.1 z.2.1∧OneC z.2.2.1∧OneC z.2.2.2.2.2.1∧OneC z.2.2.2.2.2.2.2.1∧OneC z.2.2.2.2.2.2.2.2.2.1∧F1.toFrz.Le z.2.2.2.2.2.2.2.2.2.2.toFrz) (fun z=>p.Domains.length - z.1) (0,[],(.slice none 0 0),[],[],(.slice none 0 0),[],(.slice none 0 0),[],(.slice none 0 0),F1) ?_ ?_ ?_ ?_
     ·exact ⟨hk,(OwnD.nil _ _ 2),inferInstance,inferInstance,inferInstance,inferInstance,(Frz.Le.refl _)⟩
     ·exact q4q
     ·exact fx
     ·rintro ⟨i_16,c_11,vc_11,cc_11,c_12,vc_12,c_13,vc_13,c_14,vc_14,F3⟩ ⟨hk,hc_11,oc_11,oc_12,oc_13,oc_14,le1_3⟩; (try dsimp only at *);refine eR ?_;refine T.cond rfl (fun h17=>?_) (fun h17=>?_)
      ·have p17:=of_decide_eq_true h17;rw [fT a5] at hk;generalize hn15:di f15 kk15 (p.Domains.length - (i_16+1)) (i_16+1)=next15 at hk;rw [←hf15] at hk; (try dsimp only at hk);refine fH ?_;refine cR (dH (i:=i_16) rfl rfl rfl (SlD.mono (rep:=cT) (fun _ _ _ _=>GDomain.mono) hp_0 le1_3).1 (SlD.mono (rep:=cT) (fun _ _ _ _=>GDomain.mono) hp_0 le1_3).2.1 rfl a5) ?_;refine cR (m3 8 (i:=i_16) (j:=0) rfl rfl rfl (SlD.mono (rep:=cT) (fun _ _ _ _=>GDomain.mono) hp_0 le1_3).1 (SlD.mono (rep:=cT) (fun _ _ _ _=>GDomain.mono) hp_0 le1_3).2.1 a5 rfl (iI ((SlD.mono (rep:=cT) (fun _ _ _ _=>GDomain.mono) hp_0 le1_3).2.2 i_16 a5)) rfl) ?_;have hd43_1:=(GDomain.c1 ((SlD.mono (rep:=cT) (fun _ _ _ _=>GDomain.mono) hp_0 le1_3).2.2 i_16 a5)).2;haveI:=hd43_1.oneC;refine gw ?_;rintro _ _ ⟨g10,rfl,rfl⟩;refine iW ?_;refine gU ?_;have hq:=dV hk;clear hk;obtain ⟨r47,hr47,hk⟩:=hq; (try dsimp only at hk);refine fg ?_;refine q2t ?_;refine cX (cS rfl rfl rfl (fun w hw=>zaE _ w (hw.fr (i:=9) rfl) r28.1 ((cQ p.Domains i_16).Station) r47 hr47)) ?_;refine fb ?_;refine TL.ns ?_;refine T.cond rfl (fun h18=>?_) (fun h18=>?_)
       ·replace hk:=dC hk h18;have hq:(dd (((cQ p.Domains i_16).Channels).length) 8)∧_:=eW hk;clear hk;obtain ⟨g54,hk⟩:=hq;have hq:(dd (c_11++[(GDomain.mk ((cQ p.Domains i_16).Station) ((cQ p.Domains i_16).Channels))]).length 32)∧_:=eW hk;clear hk;obtain ⟨g57,hk⟩:=hq; (try dsimp only at hk);refine d8 (.still 0 (.still 2 (.still 3 (.still 4 (.still 5 (.two 1 6 (.eff 6 (.still 7 (.eff 8 (.eff 9 (.still 10 (.eff 11 .done)))))) (.still 7 (.two 1 8 (.eff 8 (.eff 9 (.still 10 (.eff 11 .done)))) (.eff 1 (.eff 9 (.still 10 (.eff 11 .done)))))))))))) [.row g10 98 [.int .i64 ((cQ p.Domains i_16).Station),(cQ (cQ cp_0 i_16) 1)], .sl vc_12 100 5 c_12.length (c_12.flatMap dh), .sl vc_13 102 5 c_13.length (c_13.flatMap dl), .sl vc_14 104 4 c_14.length (c_14.flatMap dv), .row g6 83 (r28.1.words.1.map U), .row g4 29 [(.slice none 0 0),(.slice none 0 0),(.slice none 0 0),(.slice none 0 0)], .row g2 29 [vp_0,vp_1,vp_2,vp_3], .fr F3] a7 Sx ?_;refine iN ?_;refine gD ?_;refine gD ?_;refine TS.two ?_ ?_
        ·refine ga rfl (Wt.none) rfl rfl (da 5) (fun w hw=>hw.sub Sx) ?_;refine dQ ?_;refine q3u ?_;rintro _ _ ⟨v54_,F4,le3_4,hf54,hq,rfl⟩;obtain rfl:=hq.symm;have le1_4:=le1_3.trans le3_4;haveI:=hf54.oneC;refine ⟨(fun w hw=>(hw.frLe (i:=9) rfl le3_4).sub Sx),?_⟩;refine cZ rfl (Yv.build) ?_;refine dQ ?_;refine q1F ?_;rintro _ _ ⟨g56,rfl,rfl⟩;have hl56:OwnD cT F4.toFrz 2 [[.int .i64 ((cQ p.Domains i_16).Station),v54_]] [(GDomain.mk ((cQ p.Domains i_16).Station) ((cQ p.Domains i_16).Channels))]:=(dn (OwnD.nil _ _ 2) ⟨_,rfl,hf54⟩);refine ⟨(fun w hw=>(hw.frLe (i:=10) rfl le3_4).sub Sx),?_⟩;refine q1j ?_;rintro v57 _ ⟨hv57,rfl⟩;have ho57:OwnD cT F4.toFrz 2 (cc_11++[[.int .i64 ((cQ p.Domains i_16).Station),v54_]]) (c_11++[(GDomain.mk ((cQ p.Domains i_16).Station) ((cQ p.Domains i_16).Channels))]):=(dn (OwnD.mono (rep:=cT) (fun _ _ _ _=>GDomain.mono) hc_11 le3_4) ⟨_,rfl,hf54⟩);refine ⟨(fun w hw=>(hw.frLe (i:=10) rfl le3_4).sub Sx),?_⟩;refine q26 ?_;refine ⟨(fun w hw=>(hw.frLe (i:=10) rfl le3_4).sub Sx),?_⟩;refine q1t ?_;rw [←hn15] at hk;refine q3p ?_;exact K.next ((i_16+1),(c_11++[(GDomain.mk ((cQ p.Domains i_16).Station) ((cQ p.Domains i_16).Channels))]),v57,(cc_11++[[.int .i64 ((cQ p.Domains i_16).Station),v54_]]),c_12,vc_12,c_13,vc_13,c_14,vc_14,F4) ⟨hk,ho57,inferInstance,inferInstance,inferInstance,inferInstance,le1_4⟩ a9 (.c (.c (.c (.c (.c (.c (.c .nil))))))) (List.Sublist.refl _)
        ·refine q3u ?_;rintro _ _ ⟨v54_,F5,le3_5,hf54,hq,rfl⟩;obtain rfl:=hq.symm;have le1_5:=le1_3.trans le3_5;haveI:=hf54.oneC;refine ⟨(fun w hw=>(hw.frLe (i:=9) rfl le3_5).sub Sx),?_⟩;refine cZ rfl (Yv.build) ?_;refine TS.two ?_ ?_
         ·refine ga rfl (Wt.none) rfl rfl (da 5) (fun w hw=>(hw.frLe (i:=9) rfl le3_5).sub Sx) ?_;refine dQ ?_;refine q1F ?_;rintro _ _ ⟨g56,rfl,rfl⟩;have hl56:OwnD cT F5.toFrz 2 [[.int .i64 ((cQ p.Domains i_16).Station),v54_]] [(GDomain.mk ((cQ p.Domains i_16).Station) ((cQ p.Domains i_16).Channels))]:=(dn (OwnD.nil _ _ 2) ⟨_,rfl,hf54⟩);refine q2o ?_;refine q1j ?_;rintro v57 _ ⟨hv57,rfl⟩;have ho57:OwnD cT F5.toFrz 2 (cc_11++[[.int .i64 ((cQ p.Domains i_16).Station),v54_]]) (c_11++[(GDomain.mk ((cQ p.Domains i_16).Station) ((cQ p.Domains i_16).Channels))]):=(dn (OwnD.mono (rep:=cT) (fun _ _ _ _=>GDomain.mono) hc_11 le3_5) ⟨_,rfl,hf54⟩);refine q2o ?_;refine q26 ?_;refine q2o ?_;refine q1t ?_;rw [←hn15] at hk;refine q3p ?_;exact q4Q
         ·refine q1F ?_;rintro _ _ ⟨g56,rfl,rfl⟩;have hl56:OwnD cT F5.toFrz 2 [[.int .i64 ((cQ p.Domains i_16).Station),v54_]] [(GDomain.mk ((cQ p.Domains i_16).Station) ((cQ p.Domains i_16).Channels))]:=(dn (OwnD.nil _ _ 2) ⟨_,rfl,hf54⟩);refine q2o ?_;refine dQ ?_;refine ga rfl (Wt.none) rfl rfl (da 6) (fun w hw=>(hw.frLe (i:=10) rfl le3_5).sub Sx) ?_;refine q1j ?_;rintro v57 _ ⟨hv57,rfl⟩;have ho57:OwnD cT F5.toFrz 2 (cc_11++[[.int .i64 ((cQ p.Domains i_16).Station),v54_]]) (c_11++[(GDomain.mk ((cQ p.Domains i_16).Station) ((cQ p.Domains i_16).Channels))]):=(dn (OwnD.mono (rep:=cT) (fun _ _ _ _=>GDomain.mono) hc_11 le3_5) ⟨_,rfl,hf54⟩);refine q2o ?_;refine q26 ?_;refine q2o ?_;refine q1t ?_;rw [←hn15] at hk;refine q3p ?_;exact q4Q
       ·replace hk:=dD hk h18;refine gZ ?_;rw [←hn15] at hk;refine K.pick [1,2,3,4,5,6,7,8,9] rfl a6 ?_;exact K.next ((i_16+1),c_11,vc_11,cc_11,c_12,vc_12,c_13,vc_13,c_14,vc_14,F3) ⟨hk,hc_11,inferInstance,inferInstance,inferInstance,inferInstance,le1_3⟩ a9 (.c (.c (.c (.c (.c (.c (.c .nil))))))) (List.Sublist.refl _)
      ·have p17:=of_decide_eq_false h17;rw [fR a5,←hkk15] at hk; (try dsimp only at hk);refine fi ?_;exact c4 (c_11,vc_11,cc_11,c_12,vc_12,c_13,vc_13,c_14,vc_14,F3) ⟨hk,hc_11,inferInstance,inferInstance,inferInstance,inferInstance,le1_3⟩ (.c (.c (.c (.c .nil)))) (List.Sublist.refl _)
    ·rintro ⟨c_6,vc_6,cc_6,c_7,vc_7,c_8,vc_8,c_9,vc_9,F2⟩ ⟨hk,hc_6,oc_6,oc_7,oc_8,oc_9,le1_2⟩; (try dsimp only at *);rw [←hk10] at hk; (try dsimp only at hk);refine T.seq (dm ?_);refine fy ?_;refine q2E ?_;refine cR (dA rfl rfl (SlC.mono hp_1 le1_2) (List.length_map _)) ?_;have hm63:p.Rules.Pairs.length≤9223372036854775807:=(List.length_map _)▸(SlC.mono hp_1 le1_2).max;refine dL ?_;have hq:=eN hk;clear hk;obtain ⟨k23,hk23,hk⟩:=hq; (try dsimp only at hk);refine dk (ι:=List GDomain×Value×List (List Value)×List GPair×Value×List GLoad×Value×List GCap×Value) (fun z=>[(2, .pointer (some ⟨g2,0,none⟩)),(4, .pointer (some ⟨g4,0,none⟩)),(6, .pointer (some ⟨g6,0,none⟩)),(8, .pointer (some ⟨g8,0,none⟩))]) (fun z=>[.sl z.2.1 98 2 z.1.length z.2.2.1.flatten, .sl z.2.2.2.2.1 100 5 z.2.2.2.1.length (z.2.2.2.1.flatMap dh), .sl z.2.2.2.2.2.2.1 102 5 z.2.2.2.2.2.1.length (z.2.2.2.2.2.1.flatMap dl), .sl z.2.2.2.2.2.2.2.2 104 4 z.2.2.2.2.2.2.2.1.length (z.2.2.2.2.2.2.2.1.flatMap dv), .row g8 29 [z.2.1,z.2.2.2.2.1,z.2.2.2.2.2.2.1,z.2.2.2.2.2.2.2.2], .row g6 83 (r28.1.words.1.map U), .row g4 29 [(.slice none 0 0),(.slice none 0 0),(.slice none 0 0),(.slice none 0 0)], .row g2 29 [vp_0,vp_1,vp_2,vp_3], .fr F2]) (fun z=>k23 (z.1,z.2.2.2.1,z.2.2.2.2.2.1,z.2.2.2.2.2.2.2.1)=some r∧OwnD cT F2.toFrz 2 z.2.2.1 z.1∧OneC z.2.1∧OneC z.2.2.2.2.1∧OneC z.2.2.2.2.2.2.1∧OneC z.2.2.2.2.2.2.2.2) ?_ ?_
     ·have hq:=fS hk;clear hk;obtain ⟨f28,kk28,hf28,hkk28,hk⟩:=hq;refine fJ ?_;refine T.loop (ι:=Nat×List GDomain×Value×List (List Value)×List GPair×Value×List GLoad×Value×List GCap×Value) (fun z=>[(2, .pointer (some ⟨g2,0,none⟩)),(4, .pointer (some ⟨g4,0,none⟩)),(6, .pointer (some ⟨g6,0,none⟩)),(8, .pointer (some ⟨g8,0,none⟩)),(62,vp_1),(63, .int .i64 (p.Rules.Pairs.length:Int)),(64, .int .i64 (z.1:Int))]) (fun z=>[.sl z.2.2.1 98 2 z.2.1.length z.2.2.2.1.flatten, .sl z.2.2.2.2.2.1 100 5 z.2.2.2.2.1.length (z.2.2.2.2.1.flatMap dh), .sl z.2.2.2.2.2.2.2.1 102 5 z.2.2.2.2.2.2.1.length (z.2.2.2.2.2.2.1.flatMap dl), .sl z.2.2.2.2.2.2.2.2.2 104 4 z.2.2.2.2.2.2.2.2.1.length (z.2.2.2.2.2.2.2.2.1.flatMap dv), .row g8 29 [z.2.2.1,z.2.2.2.2.2.1,z.2.2.2.2.2.2.2.1,z.2.2.2.2.2.2.2.2.2], .row g6 83 (r28.1.words.1.map U), .row g4 29 [(.slice none 0 0),(.slice none 0 0),(.slice none 0 0),(.slice none 0 0)], .row g2 29 [vp_0,vp_1,vp_2,vp_3], .fr F2]) (fun z=>di f28 kk28 (p.Rules.Pairs.length - z.1) z.1 (z.2.1,z.2.2.2.2.1,z.2.2.2.2.2.2.1,z.2.2.2.2.2.2.2.2.1)=some r∧OwnD cT F2.toFrz 2 z.2.2.2.1 z.2.1∧OneC z.2.2.1∧OneC z.2.2.2.2.2.1∧OneC z.2.2.2.2.2.2.2.1∧OneC z.2.2.2.2.2.2.2.2.2) (fun z=>p.Rules.Pairs.length - z.1) (0,c_6,vc_6,cc_6,c_7,vc_7,c_8,vc_8,c_9,vc_9) ?_ ?_ ?_ ?_
      ·exact ⟨hk,hc_6,inferInstance,inferInstance,inferInstance,inferInstance⟩
      ·exact q4q
      ·exact fx
      ·rintro ⟨i_29,c_24,vc_24,cc_24,c_25,vc_25,c_26,vc_26,c_27,vc_27⟩ ⟨hk,hc_24,oc_24,oc_25,oc_26,oc_27⟩; (try dsimp only at *);refine eR ?_;refine T.cond rfl (fun h30=>?_) (fun h30=>?_)
       ·have p30:=of_decide_eq_true h30;rw [fT a5] at hk;generalize hn28:di f28 kk28 (p.Rules.Pairs.length - (i_29+1)) (i_29+1)=next28 at hk;rw [←hf28] at hk; (try dsimp only at hk);refine fH ?_;refine cR (dH (i:=i_29) rfl rfl rfl (SlC.mono hp_1 le1_2) (List.length_map _) rfl a5) ?_;refine cR (fV 8 (i:=i_29) rfl rfl rfl (SlC.mono hp_1 le1_2) a5) ?_;refine gw ?_;rintro _ _ ⟨g12,rfl,rfl⟩;refine iW ?_;refine gU ?_;have hq:=dV hk;clear hk;obtain ⟨r71,hr71,hk⟩:=hq; (try dsimp only at hk);have hq:=eN hk;clear hk;obtain ⟨k32,hk32,hk⟩:=hq; (try dsimp only at hk);refine dk (ι:=Bool) (fun z=>[(2, .pointer (some ⟨g2,0,none⟩)),(4, .pointer (some ⟨g4,0,none⟩)),(6, .pointer (some ⟨g6,0,none⟩)),(8, .pointer (some ⟨g8,0,none⟩)),(12, .pointer (some ⟨g12,0,none⟩)),(62,vp_1),(63, .int .i64 (p.Rules.Pairs.length:Int)),(64, .int .i64 (i_29:Int)),(77, .bool z)]) (fun z=>[.row g12 100 [.int .i64 ((cQ p.Rules.Pairs i_29).A), .int .i64 ((cQ p.Rules.Pairs i_29).B), .int .i64 ((cQ p.Rules.Pairs i_29).Offset), .int .i64 ((cQ p.Rules.Pairs i_29).Low), .int .i64 ((cQ p.Rules.Pairs i_29).High)], .sl vc_24 98 2 c_24.length cc_24.flatten, .sl vc_25 100 5 c_25.length (c_25.flatMap dh), .sl vc_26 102 5 c_26.length (c_26.flatMap dl), .sl vc_27 104 4 c_27.length (c_27.flatMap dv), .row g8 29 [vc_24,vc_25,vc_26,vc_27], .row g6 83 (r28.1.words.1.map U), .row g4 29 [(.slice none 0 0),(.slice none 0 0),(.slice none 0 0),(.slice none 0 0)], .row g2 29 [vp_0,vp_1,vp_2,vp_3], .fr F2]) (fun z=>k32 z=some r) ?_ ?_
        ·refine fg ?_;refine q2t ?_;refine cX (cS rfl rfl rfl (fun w hw=>zaE _ w (hw.fr (i:=9) rfl) r28.1 ((cQ p.Rules.Pairs i_29).A) r71 hr71)) ?_;refine mr ?_;refine dO rfl rfl rfl (fun h33=>?_) (fun h33=>?_)
         ·replace hk:=dC hk h33;refine q2t ?_;have hq:=dV hk;clear hk;obtain ⟨r76,hr76,hk⟩:=hq;refine cX (cS rfl rfl rfl (fun w hw=>zaE _ w (hw.fr (i:=9) rfl) r28.1 ((cQ p.Rules.Pairs i_29).B) r76 hr76)) ?_;refine mr ?_;refine TL.nil ?_;exact c4 r76 hk (.c (.c (.c (.c (.c (.c (.c (.c (.c .nil))))))))) (List.Sublist.refl _)
         ·replace hk:=dD hk h33;refine mi ?_;exact q4R
        ·rintro x_31 hk;rw [←hk32] at hk; (try dsimp only at hk);refine T.cond rfl (fun h34=>?_) (fun h34=>?_)
         ·replace hk:=dC hk h34;have hq:(dd (c_25++[(cQ p.Rules.Pairs i_29)]).length 40)∧_:=eW hk;clear hk;obtain ⟨g83,hk⟩:=hq; (try dsimp only at hk);refine q2R ?_;rintro _ _ ⟨g82,rfl,rfl⟩;refine cX (fj 3 0 rfl rfl rfl rfl rfl rfl (j2 (ys:=[(cQ p.Rules.Pairs i_29)])) (mn (enc:=dh) (xs:=c_25) (ys:=[(cQ p.Rules.Pairs i_29)])) g83 a6) ?_;rintro v83 _ ⟨hv83,rfl⟩;refine q2Y ?_;rw [←hn28] at hk;refine q3p ?_;exact K.next ((i_29+1),c_24,vc_24,cc_24,(c_25++[(cQ p.Rules.Pairs i_29)]),v83,c_26,vc_26,c_27,vc_27) ⟨hk,hc_24,inferInstance,inferInstance,inferInstance,inferInstance⟩ a9 (.c (.c (.c (.c (.c (.c (.c .nil))))))) (List.Sublist.refl _)
         ·replace hk:=dD hk h34;refine gZ ?_;rw [←hn28] at hk;refine K.pick [1,2,3,4,5,6,7,8,9] rfl a6 ?_;exact K.next ((i_29+1),c_24,vc_24,cc_24,c_25,vc_25,c_26,vc_26,c_27,vc_27) ⟨hk,hc_24,inferInstance,inferInstance,inferInstance,inferInstance⟩ a9 (.c (.c (.c (.c (.c (.c (.c .nil))))))) (List.Sublist.refl _)
       ·have p30:=of_decide_eq_false h30;rw [fR a5,←hkk28] at hk; (try dsimp only at hk);refine fi ?_;exact c4 (c_24,vc_24,cc_24,c_25,vc_25,c_26,vc_26,c_27,vc_27) ⟨hk,hc_24,inferInstance,inferInstance,inferInstance,inferInstance⟩ (.c (.c (.c (.c .nil)))) (List.Sublist.refl _)
     ·rintro ⟨c_19,vc_19,cc_19,c_20,vc_20,c_21,vc_21,c_22,vc_22⟩ ⟨hk,hc_19,oc_19,oc_20,oc_21,oc_22⟩; (try dsimp only at *);rw [←hk23] at hk; (try dsimp only at hk);refine T.seq (dm ?_);refine fy ?_;refine q2E ?_;refine cR (dA rfl rfl (SlC.mono hp_2 le1_2) (List.length_map _)) ?_;have hm90:p.Rules.Loads.length≤9223372036854775807:=(List.length_map _)▸(SlC.mono hp_2 le1_2).max;refine dL ?_;have hq:=eN hk;clear hk;obtain ⟨k39,hk39,hk⟩:=hq; (try dsimp only at hk);refine dk (ι:=List GDomain×Value×List (List Value)×List GPair×Value×List GLoad×Value×List GCap×Value) (fun z=>[(2, .pointer (some ⟨g2,0,none⟩)),(4, .pointer (some ⟨g4,0,none⟩)),(6, .pointer (some ⟨g6,0,none⟩)),(8, .pointer (some ⟨g8,0,none⟩))]) (fun z=>[.sl z.2.1 98 2 z.1.length z.2.2.1.flatten, .sl z.2.2.2.2.1 100 5 z.2.2.2.1.length (z.2.2.2.1.flatMap dh), .sl z.2.2.2.2.2.2.1 102 5 z.2.2.2.2.2.1.length (z.2.2.2.2.2.1.flatMap dl), .sl z.2.2.2.2.2.2.2.2 104 4 z.2.2.2.2.2.2.2.1.length (z.2.2.2.2.2.2.2.1.flatMap dv), .row g8 29 [z.2.1,z.2.2.2.2.1,z.2.2.2.2.2.2.1,z.2.2.2.2.2.2.2.2], .row g6 83 (r28.1.words.1.map U), .row g4 29 [(.slice none 0 0),(.slice none 0 0),(.slice none 0 0),(.slice none 0 0)], .row g2 29 [vp_0,vp_1,vp_2,vp_3], .fr F2]) (fun z=>k39 (z.1,z.2.2.2.1,z.2.2.2.2.2.1,z.2.2.2.2.2.2.2.1)=some r∧OwnD cT F2.toFrz 2 z.2.2.1 z.1∧OneC z.2.1∧OneC z.2.2.2.2.1∧OneC z.2.2.2.2.2.2.1∧OneC z.2.2.2.2.2.2.2.2) ?_ ?_
      ·have hq:=fS hk;clear hk;obtain ⟨f44,kk44,hf44,hkk44,hk⟩:=hq;refine fJ ?_;refine T.loop (ι:=Nat×List GDomain×Value×List (List Value)×List GPair×Value×List GLoad×Value×List GCap×Value) (fun z=>[(2, .pointer (some ⟨g2,0,none⟩)),(4, .pointer (some ⟨g4,0,none⟩)),(6, .pointer (some ⟨g6,0,none⟩)),(8, .pointer (some ⟨g8,0,none⟩)),(89,vp_2),(90, .int .i64 (p.Rules.Loads.length:Int)),(91, .int .i64 (z.1:Int))]) (fun z=>[.sl z.2.2.1 98 2 z.2.1.length z.2.2.2.1.flatten, .sl z.2.2.2.2.2.1 100 5 z.2.2.2.2.1.length (z.2.2.2.2.1.flatMap dh), .sl z.2.2.2.2.2.2.2.1 102 5 z.2.2.2.2.2.2.1.length (z.2.2.2.2.2.2.1.flatMap dl), .sl z.2.2.2.2.2.2.2.2.2 104 4 z.2.2.2.2.2.2.2.2.1.length (z.2.2.2.2.2.2.2.2.1.flatMap dv), .row g8 29 [z.2.2.1,z.2.2.2.2.2.1,z.2.2.2.2.2.2.2.1,z.2.2.2.2.2.2.2.2.2], .row g6 83 (r28.1.words.1.map U), .row g4 29 [(.slice none 0 0),(.slice none 0 0),(.slice none 0 0),(.slice none 0 0)], .row g2 29 [vp_0,vp_1,vp_2,vp_3], .fr F2]) (fun z=>di f44 kk44 (p.Rules.Loads.length - z.1) z.1 (z.2.1,z.2.2.2.2.1,z.2.2.2.2.2.2.1,z.2.2.2.2.2.2.2.2.1)=some r∧OwnD cT F2.toFrz 2 z.2.2.2.1 z.2.1∧OneC z.2.2.1∧OneC z.2.2.2.2.2.1∧OneC z.2.2.2.2.2.2.2.1∧OneC z.2.2.2.2.2.2.2.2.2) (fun z=>p.Rules.Loads.length - z.1) (0,c_19,vc_19,cc_19,c_20,vc_20,c_21,vc_21,c_22,vc_22) ?_ ?_ ?_ ?_
       ·exact ⟨hk,hc_19,inferInstance,inferInstance,inferInstance,inferInstance⟩
       ·exact q4q
       ·exact fx
       ·rintro ⟨i_45,c_40,vc_40,cc_40,c_41,vc_41,c_42,vc_42,c_43,vc_43⟩ ⟨hk,hc_40,oc_40,oc_41,oc_42,oc_43⟩; (try dsimp only at *);refine eR ?_;refine T.cond rfl (fun h46=>?_) (fun h46=>?_)
        ·have p46:=of_decide_eq_true h46;rw [fT a5] at hk;generalize hn44:di f44 kk44 (p.Rules.Loads.length - (i_45+1)) (i_45+1)=next44 at hk;rw [←hf44] at hk; (try dsimp only at hk);refine fH ?_;refine cR (dH (i:=i_45) rfl rfl rfl (SlC.mono hp_2 le1_2) (List.length_map _) rfl a5) ?_;refine cR (fV 8 (i:=i_45) rfl rfl rfl (SlC.mono hp_2 le1_2) a5) ?_;refine gw ?_;rintro _ _ ⟨g14,rfl,rfl⟩;refine iW ?_;refine gU ?_;have hq:=dV hk;clear hk;obtain ⟨r98,hr98,hk⟩:=hq; (try dsimp only at hk);have hq:=eN hk;clear hk;obtain ⟨k48,hk48,hk⟩:=hq; (try dsimp only at hk);refine dk (ι:=Bool) (fun z=>[(2, .pointer (some ⟨g2,0,none⟩)),(4, .pointer (some ⟨g4,0,none⟩)),(6, .pointer (some ⟨g6,0,none⟩)),(8, .pointer (some ⟨g8,0,none⟩)),(14, .pointer (some ⟨g14,0,none⟩)),(89,vp_2),(90, .int .i64 (p.Rules.Loads.length:Int)),(91, .int .i64 (i_45:Int)),(104, .bool z)]) (fun z=>[.row g14 102 [.int .i64 ((cQ p.Rules.Loads i_45).To), .int .i64 ((cQ p.Rules.Loads i_45).From), .int .i64 ((cQ p.Rules.Loads i_45).Weight), .int .i64 ((cQ p.Rules.Loads i_45).Low), .int .i64 ((cQ p.Rules.Loads i_45).High)], .sl vc_40 98 2 c_40.length cc_40.flatten, .sl vc_41 100 5 c_41.length (c_41.flatMap dh), .sl vc_42 102 5 c_42.length (c_42.flatMap dl), .sl vc_43 104 4 c_43.length (c_43.flatMap dv), .row g8 29 [vc_40,vc_41,vc_42,vc_43], .row g6 83 (r28.1.words.1.map U), .row g4 29 [(.slice none 0 0),(.slice none 0 0),(.slice none 0 0),(.slice none 0 0)], .row g2 29 [vp_0,vp_1,vp_2,vp_3], .fr F2]) (fun z=>k48 z=some r) ?_ ?_
         ·refine fg ?_;refine q2t ?_;refine cX (cS rfl rfl rfl (fun w hw=>zaE _ w (hw.fr (i:=9) rfl) r28.1 ((cQ p.Rules.Loads i_45).To) r98 hr98)) ?_;refine mr ?_;refine dO rfl rfl rfl (fun h49=>?_) (fun h49=>?_)
          ·replace hk:=dC hk h49;refine q2t ?_;have hq:=dV hk;clear hk;obtain ⟨r103,hr103,hk⟩:=hq;refine cX (cS rfl rfl rfl (fun w hw=>zaE _ w (hw.fr (i:=9) rfl) r28.1 ((cQ p.Rules.Loads i_45).From) r103 hr103)) ?_;refine mr ?_;refine TL.nil ?_;exact c4 r103 hk (.c (.c (.c (.c (.c (.c (.c (.c (.c .nil))))))))) (List.Sublist.refl _)
          ·replace hk:=dD hk h49;refine mi ?_;exact q4R
         ·rintro x_47 hk;rw [←hk48] at hk; (try dsimp only at hk);refine T.cond rfl (fun h50=>?_) (fun h50=>?_)
          ·replace hk:=dC hk h50;have hq:(dd (c_42++[(cQ p.Rules.Loads i_45)]).length 40)∧_:=eW hk;clear hk;obtain ⟨g110,hk⟩:=hq; (try dsimp only at hk);refine q2R ?_;rintro _ _ ⟨g109,rfl,rfl⟩;refine cX (fj 4 0 rfl rfl rfl rfl rfl rfl (j2 (ys:=[(cQ p.Rules.Loads i_45)])) (mn (enc:=dl) (xs:=c_42) (ys:=[(cQ p.Rules.Loads i_45)])) g110 a6) ?_;rintro v110 _ ⟨hv110,rfl⟩;refine q2Y ?_;rw [←hn44] at hk;refine q3p ?_;exact K.next ((i_45+1),c_40,vc_40,cc_40,c_41,vc_41,(c_42++[(cQ p.Rules.Loads i_45)]),v110,c_43,vc_43) ⟨hk,hc_40,inferInstance,inferInstance,inferInstance,inferInstance⟩ a9 (.c (.c (.c (.c (.c (.c (.c .nil))))))) (List.Sublist.refl _)
          ·replace hk:=dD hk h50;refine gZ ?_;rw [←hn44] at hk;refine K.pick [1,2,3,4,5,6,7,8,9] rfl a6 ?_;exact K.next ((i_45+1),c_40,vc_40,cc_40,c_41,vc_41,c_42,vc_42,c_43,vc_43) ⟨hk,hc_40,inferInstance,inferInstance,inferInstance,inferInstance⟩ a9 (.c (.c (.c (.c (.c (.c (.c .nil))))))) (List.Sublist.refl _)
        ·have p46:=of_decide_eq_false h46;rw [fR a5,←hkk44] at hk; (try dsimp only at hk);refine fi ?_;exact c4 (c_40,vc_40,cc_40,c_41,vc_41,c_42,vc_42,c_43,vc_43) ⟨hk,hc_40,inferInstance,inferInstance,inferInstance,inferInstance⟩ (.c (.c (.c (.c .nil)))) (List.Sublist.refl _)
      ·rintro ⟨c_35,vc_35,cc_35,c_36,vc_36,c_37,vc_37,c_38,vc_38⟩ ⟨hk,hc_35,oc_35,oc_36,oc_37,oc_38⟩; (try dsimp only at *);rw [←hk39] at hk; (try dsimp only at hk);refine T.seq (dm ?_);refine fy ?_;refine q2E ?_;refine cR (dA rfl rfl (SlC.mono hp_3 le1_2) (List.length_map _)) ?_;have hm117:p.Rules.Caps.length≤9223372036854775807:=(List.length_map _)▸(SlC.mono hp_3 le1_2).max;refine dL ?_;have hq:=eN hk;clear hk;obtain ⟨k55,hk55,hk⟩:=hq; (try dsimp only at hk);refine dk (ι:=List GDomain×Value×List (List Value)×List GPair×Value×List GLoad×Value×List GCap×Value) (fun z=>[(4, .pointer (some ⟨g4,0,none⟩)),(8, .pointer (some ⟨g8,0,none⟩))]) (fun z=>[.sl z.2.1 98 2 z.1.length z.2.2.1.flatten, .sl z.2.2.2.2.1 100 5 z.2.2.2.1.length (z.2.2.2.1.flatMap dh), .sl z.2.2.2.2.2.2.1 102 5 z.2.2.2.2.2.1.length (z.2.2.2.2.2.1.flatMap dl), .sl z.2.2.2.2.2.2.2.2 104 4 z.2.2.2.2.2.2.2.1.length (z.2.2.2.2.2.2.2.1.flatMap dv), .row g8 29 [z.2.1,z.2.2.2.2.1,z.2.2.2.2.2.2.1,z.2.2.2.2.2.2.2.2], .row g4 29 [(.slice none 0 0),(.slice none 0 0),(.slice none 0 0),(.slice none 0 0)], .fr F2]) (fun z=>k55 (z.1,z.2.2.2.1,z.2.2.2.2.2.1,z.2.2.2.2.2.2.2.1)=some r∧OwnD cT F2.toFrz 2 z.2.2.1 z.1∧OneC z.2.1∧OneC z.2.2.2.2.1∧OneC z.2.2.2.2.2.2.1∧OneC z.2.2.2.2.2.2.2.2) ?_ ?_
       ·have hq:=fS hk;clear hk;obtain ⟨f60,kk60,hf60,hkk60,hk⟩:=hq;refine fJ ?_;refine T.pick [0,1,2,3,4,5,6,8] rfl a6 ?_;refine T.loop (ι:=Nat×List GDomain×Value×List (List Value)×List GPair×Value×List GLoad×Value×List GCap×Value) (fun z=>[(4, .pointer (some ⟨g4,0,none⟩)),(6, .pointer (some ⟨g6,0,none⟩)),(8, .pointer (some ⟨g8,0,none⟩)),(116,vp_3),(117, .int .i64 (p.Rules.Caps.length:Int)),(118, .int .i64 (z.1:Int))]) (fun z=>[.sl z.2.2.1 98 2 z.2.1.length z.2.2.2.1.flatten, .sl z.2.2.2.2.2.1 100 5 z.2.2.2.2.1.length (z.2.2.2.2.1.flatMap dh), .sl z.2.2.2.2.2.2.2.1 102 5 z.2.2.2.2.2.2.1.length (z.2.2.2.2.2.2.1.flatMap dl), .sl z.2.2.2.2.2.2.2.2.2 104 4 z.2.2.2.2.2.2.2.2.1.length (z.2.2.2.2.2.2.2.2.1.flatMap dv), .row g8 29 [z.2.2.1,z.2.2.2.2.2.1,z.2.2.2.2.2.2.2.1,z.2.2.2.2.2.2.2.2.2], .row g6 83 (r28.1.words.1.map U), .row g4 29 [(.slice none 0 0),(.slice none 0 0),(.slice none 0 0),(.slice none 0 0)], .fr F2]) (fun z=>di f60 kk60 (p.Rules.Caps.length - z.1) z.1 (z.2.1,z.2.2.2.2.1,z.2.2.2.2.2.2.1,z.2.2.2.2.2.2.2.2.1)=some r∧OwnD cT F2.toFrz 2 z.2.2.2.1 z.2.1∧OneC z.2.2.1∧OneC z.2.2.2.2.2.1∧OneC z.2.2.2.2.2.2.2.1∧OneC z.2.2.2.2.2.2.2.2.2) (fun z=>p.Rules.Caps.length - z.1) (0,c_35,vc_35,cc_35,c_36,vc_36,c_37,vc_37,c_38,vc_38) ?_ ?_ ?_ ?_
        ·exact ⟨hk,hc_35,inferInstance,inferInstance,inferInstance,inferInstance⟩
        ·exact (.c (.c (.c (.c (.c (.c .nil))))))
        ·exact fx
        ·rintro ⟨i_61,c_56,vc_56,cc_56,c_57,vc_57,c_58,vc_58,c_59,vc_59⟩ ⟨hk,hc_56,oc_56,oc_57,oc_58,oc_59⟩; (try dsimp only at *);refine eR ?_;refine T.cond rfl (fun h62=>?_) (fun h62=>?_)
         ·have p62:=of_decide_eq_true h62;rw [fT a5] at hk;generalize hn60:di f60 kk60 (p.Rules.Caps.length - (i_61+1)) (i_61+1)=next60 at hk;rw [←hf60] at hk; (try dsimp only at hk);refine fH ?_;refine cR (dH (i:=i_61) rfl rfl rfl (SlC.mono hp_3 le1_2) (List.length_map _) rfl a5) ?_;refine cR (fV 7 (i:=i_61) rfl rfl rfl (SlC.mono hp_3 le1_2) a5) ?_;refine gw ?_;rintro _ _ ⟨g16,rfl,rfl⟩;refine iW ?_;refine gU ?_;have hq:=dV hk;clear hk;obtain ⟨r125,hr125,hk⟩:=hq; (try dsimp only at hk);refine fg ?_;refine q2t ?_;refine cX (cS rfl rfl rfl (fun w hw=>zaE _ w (hw.fr (i:=8) rfl) r28.1 ((cQ p.Rules.Caps i_61).Station) r125 hr125)) ?_;refine fb ?_;refine TL.ns ?_;refine T.cond rfl (fun h63=>?_) (fun h63=>?_)
          ·replace hk:=dC hk h63;have hq:(dd (c_59++[(cQ p.Rules.Caps i_61)]).length 32)∧_:=eW hk;clear hk;obtain ⟨g131,hk⟩:=hq; (try dsimp only at hk);refine q2R ?_;rintro _ _ ⟨g130,rfl,rfl⟩;refine cX (fj 5 0 rfl rfl rfl rfl rfl rfl (j2 (ys:=[(cQ p.Rules.Caps i_61)])) (mn (enc:=dv) (xs:=c_59) (ys:=[(cQ p.Rules.Caps i_61)])) g131 a6) ?_;rintro v131 _ ⟨hv131,rfl⟩;refine q2Y ?_;rw [←hn60] at hk;refine K.pick [2,3,4,5,6,7,8,9] rfl a6 ?_;exact K.next ((i_61+1),c_56,vc_56,cc_56,c_57,vc_57,c_58,vc_58,(c_59++[(cQ p.Rules.Caps i_61)]),v131) ⟨hk,hc_56,inferInstance,inferInstance,inferInstance,inferInstance⟩ a9 (.c (.c (.c (.c (.c (.c .nil)))))) (List.Sublist.refl _)
          ·replace hk:=dD hk h63;refine gZ ?_;rw [←hn60] at hk;refine K.pick [1,2,3,4,5,6,7,8] rfl a6 ?_;exact K.next ((i_61+1),c_56,vc_56,cc_56,c_57,vc_57,c_58,vc_58,c_59,vc_59) ⟨hk,hc_56,inferInstance,inferInstance,inferInstance,inferInstance⟩ a9 (.c (.c (.c (.c (.c (.c .nil)))))) (List.Sublist.refl _)
         ·have p62:=of_decide_eq_false h62;rw [fR a5,←hkk60] at hk; (try dsimp only at hk);refine fi ?_;refine K.pick [0,1,2,3,4,6,7] rfl a6 ?_;exact c4 (c_56,vc_56,cc_56,c_57,vc_57,c_58,vc_58,c_59,vc_59) ⟨hk,hc_56,inferInstance,inferInstance,inferInstance,inferInstance⟩ (.c (.c .nil)) (List.Sublist.refl _)
       ·rintro ⟨c_51,vc_51,cc_51,c_52,vc_52,c_53,vc_53,c_54,vc_54⟩ ⟨hk,hc_51,oc_51,oc_52,oc_53,oc_54⟩; (try dsimp only at *);rw [←hk55] at hk; (try dsimp only at hk);refine dm ?_;refine cR (dY 4) ?_;refine eE (dF 5) ?_;refine fb ?_;refine fm ?_;refine kC (fun w hw=>hw.freezeS (i:=6) (j:=0) a6 rfl rfl) ?_;rintro F6 ⟨le2_6,hz6⟩;refine gY ?_;have le1_6:=le1_2.trans le2_6;have hf6:=hz6.toD (OwnD.mono (rep:=cT) (fun _ _ _ _=>GDomain.mono) hc_51 le2_6) rfl;haveI:=hf6.1.oneC;refine kC (fun w hw=>hw.freezeS (i:=5) (j:=0) a6 rfl rfl) ?_;rintro F7 ⟨le6_7,hz7⟩;refine gY ?_;have le1_7:=le1_6.trans le6_7;have hf7:=hz7.toF rfl GPair.len;haveI:=hf7.oneC;refine kC (fun w hw=>hw.freezeS (i:=4) (j:=0) a6 rfl rfl) ?_;rintro F8 ⟨le7_8,hz8⟩;refine gY ?_;have le1_8:=le1_7.trans le7_8;have le6_8:=le6_7.trans le7_8;have hf8:=hz8.toF rfl GLoad.len;haveI:=hf8.oneC;refine q29 ?_;rintro F9 ⟨le8_9,hz9⟩;refine gY ?_;have le1_9:=le1_8.trans le8_9;have le6_9:=le6_8.trans le8_9;have le7_9:=le7_8.trans le8_9;have hf9:=hz9.toF rfl GCap.len;haveI:=hf9.oneC;obtain rfl:=Option.some.inj hk;exact fO 1 rfl rfl rfl rfl rfl (fun w' hw=>⟨(vc_51,cc_51,vc_52,vc_53,vc_54),F9.toFrz,⟨(SlD.mono (rep:=cT) (fun _ _ _ _=>GDomain.mono) hf6 le6_9),(SlC.mono hf7 le7_9),(SlC.mono hf8 le8_9),hf9⟩,rfl,eD hw (i:=2) rfl hS0 le1_9⟩)
def zcH (low:Int)(high:Int):Bool:=
 (((decide (2≤low))&&(decide (low≤high)))&&(decide (high≤51)))
def zdv (c:GPair):Bool:=
 (((((jE c.A)&&(jE c.B))&&(decide (c.A<c.B)))&&(zaP c.Offset (-1) 1))&&(zcH c.Low c.High))
def zdp (c:GLoad):Bool:=
 (((((jE c.To)&&(jE c.From))&&(decide (¬c.To=c.From)))&&(zaP c.Weight 1 1073741824))&&(zcH c.Low c.High))
def zdH (c:GCap):Bool:=
 (((jE c.Station)&&(zaP c.Max 0 1099511627776))&&(zcH c.Low c.High))
theorem zkA {n:Int}:zbo n=inB n 0 511:=rfl
theorem zhk (i:Nat):((i:Int) - 1).toNat=i - 1:=by omega
theorem gr {s c:Int}{x:GDomain}{q:Int}:q∈(i6 s c x).Channels↔q∈x.Channels∧(x.Station=s→q=c):=by
 unfold i6;dsimp only;by_cases hs:x.Station=s
 ·rw [decide_eq_true hs,cond_true]
  cases ha:x.Channels.any (fun k=>decide (k=c)) with
  |true=>
   rw [cond_true];obtain ⟨k,hk,he⟩:=List.any_eq_true.1 ha;have:=of_decide_eq_true he;subst this;simp only [List.mem_singleton];exact ⟨fun h=>by subst h;exact ⟨hk,fun _=>rfl⟩,fun h=>h.2 hs⟩
  |false=>
   rw [cond_false];refine ⟨(fun h=>by cases h),fun h=>?_⟩;have:=h.2 hs;subst this;have:=List.any_eq_false.1 ha q h.1;simp at this
 ·rw [decide_eq_false hs,cond_false];exact ⟨fun h=>⟨h,fun h2=>absurd h2 hs⟩,fun h=>h.1⟩
theorem zir {s c:Int}{x:GDomain}:(i6 s c x).Channels.Sublist x.Channels:=by
 unfold i6;dsimp only
 cases decide (x.Station=s)
 ·exact fx
 ·cases ha:x.Channels.any (fun k=>decide (k=c))
  ·exact List.nil_sublist _
  ·obtain ⟨k,hk,he⟩:=List.any_eq_true.1 ha;have:=of_decide_eq_true he;subst this;exact List.singleton_sublist.2 hk
section
variable {p:GProblem}{a b d:List GDomain}
theorem mT {s c:Int}:SubD (d.map (i6 s c)) d∧OrdD (d.map (i6 s c)) d:=by
 refine ⟨⟨List.length_map _,fun i hi=>?_⟩,fun i hi=>?_⟩
 ·rw [kl hi];exact ⟨rfl,fun k hk=>(gr.1 hk).1⟩
 ·rw [kl hi];exact zir
theorem zkp {s c:Int}(h:SubD a b):SubD (a.map (i6 s c)) (b.map (i6 s c)):=by
 refine ⟨by rw [List.length_map,List.length_map,h.1],fun i hi=>?_⟩;rw [List.length_map] at hi;rw [kl hi,kl (by rw [h.1];exact hi)];have h2:=h.2 i hi;refine ⟨h2.1,fun k hk=>?_⟩;rw [gr] at hk ⊢;exact ⟨h2.2 k hk.1,fun e=>hk.2 (h2.1.trans e)⟩
theorem OrdD.trans {c:List GDomain}(h:OrdD a b)(k:OrdD b c)(hl:b.length=c.length):OrdD a c:=fun i hi=>(h i (by rw [hl];exact hi)).trans (k i hi)
theorem Bd.ord (hb:Bd b)(hl:a.length=b.length)(h:OrdD a b):Bd a:=by
 refine ⟨by rw [hl];exact hb.len,fun x hx=>?_⟩;obtain ⟨i,hi,rfl⟩:=i7 hx; (have hi':i<b.length:=by rw [←hl];exact hi);have h2:=hb.ch _ (fX hi');exact ⟨Nat.le_trans (h i hi').length_le h2.1,h2.2.sublist (h i hi')⟩
theorem PropD.eq {r r':List GDomain×Bool}(hb:Bd d)(h:PropD p d r)(h':PropD p d r'):r=r':=by
 rcases h with ⟨h1,h2,h3,h4⟩|⟨h1,h2⟩
 ·rcases h' with ⟨g1,g2,g3,g4⟩|⟨g1,g2⟩
  ·have e1:=h4 _ g2 g3.1;have e2:=g4 _ h2 h3.1
   have:r.1=r'.1:=by
    refine ze3 (by rw [e2.1]) fun i hi=>?_; (have hi1:i<r'.1.length:=by rw [←e2.1];exact hi); (have hid:i<d.length:=by rw [←h3.1.1];exact hi);have a1:=e1.2 i hi;have a2:=e2.2 i hi1;have hch:(cQ r.1 i).Channels=(cQ r'.1 i).Channels:=zdf (h3.2 i hid) (g3.2 i hid) (hb.ch _ (fX hid)).2 (fun x=>⟨a2.2 x,a1.2 x⟩)
    cases hx:cQ r.1 i with
    |mk s1 c1=>
     cases hy:cQ r'.1 i with
     |mk s2 c2=>
      have b1:=a2.1;rw [hx,hy] at b1 hch;simp only at b1 hch;rw [b1,hch]
   exact Prod.ext this (h1.trans g1.symm)
  ·exact absurd h3.1 (g2 _ h2)
 ·rcases h' with ⟨g1,g2,g3,g4⟩|⟨g1,g2⟩
  ·exact absurd g3.1 (h2 _ g2)
  ·rw [h1,g1]
theorem PropD.keep {m r:List GDomain×Bool}{s c:Int}(h:PropD p d m)(hm:m.2=true)(hr:PropD p (m.1.map (i6 s c)) r):PropD p (d.map (i6 s c)) r:=by
 rcases h with ⟨_,h2,h3,h4⟩|⟨h1,_⟩
 ·have hsup:∀S,ClosedD p S→SubD S (d.map (i6 s c))→SubD S (m.1.map (i6 s c)):=fun S hS hs=>by
   have h5:=h4 S hS (hs.trans mT.1);refine ⟨by rw [List.length_map];exact h5.1,fun i hi=>?_⟩;rw [List.length_map] at hi; (have hid:i<d.length:=by rw [←h3.1.1];exact hi);rw [kl hi];have h6:=h5.2 i hi;refine ⟨h6.1,fun k hk=>gr.2 ⟨h6.2 k hk,fun e=>?_⟩⟩;have h7:=(hs.2 i (by rw [List.length_map];exact hid)).2 k hk;rw [kl hid] at h7;exact (gr.1 h7).2 (by rw [←(h3.1.2 i hid).1];exact e)
  rcases hr with ⟨g1,g2,g3,g4⟩|⟨g1,g2⟩
  ·refine .inl ⟨g1,g2,⟨g3.1.trans (zkp h3.1),fun i hi=>?_⟩,fun S hS hs=>g4 S hS (hsup S hS hs)⟩;rw [List.length_map] at hi; (have hi':i<m.1.length:=by rw [h3.1.1];exact hi);have h8:=g3.2 i (by rw [List.length_map];exact hi');rw [kl hi'] at h8;rw [kl hi];refine h8.trans ?_;have hst:=(h3.1.2 i hi).1;have hsb:=h3.2 i hi;unfold i6;dsimp only;rw [hst]
   cases decide ((cQ d i).Station=s)
   ·exact hsb
   ·cases ha:(cQ m.1 i).Channels.any (fun k=>decide (k=c))
    ·exact List.nil_sublist _
    ·obtain ⟨k,hk,he⟩:=List.any_eq_true.1 ha;rw [List.any_eq_true.2 ⟨k,hsb.subset hk,he⟩];exact fx
  ·exact .inr ⟨g1,fun S hS hs=>g2 S hS (hsup S hS hs)⟩
 ·rw [h1] at hm;cases hm
theorem PropD.ord {m:List GDomain×Bool}(h:PropD p d m)(hm:m.2=true):m.1.length=d.length∧OrdD m.1 d:=by
 rcases h with ⟨_,_,h3,_⟩|⟨h1,_⟩
 ·exact ⟨h3.1.1,h3.2⟩
 ·rw [h1] at hm;cases hm
def zgP (l:List GChoice)(i:Nat):Bool:=inB (cQ l i).Station 0 511&&(inB (cQ l i).Channel 2 51&& !(decide (0<(i:Int))&&decide ((cQ l i).Station≤(cQ l (i - 1)).Station)))
theorem zij {l:List GChoice}:zbg l=(List.range l.length).all (zgP l):=by
 unfold zbg;simp only [dN,Nat.sub_zero];rw [zcT (zgP l) (fun i next _=>?_),Bool.and_true];rw [zhk,zkA]
 have e:zgP l i=(inB (cQ l i).Station 0 511&&(!decide ((cQ l i).Channel<2)&&(!decide (51<(cQ l i).Channel)&& !(decide (0<(i:Int))&&decide ((cQ l i).Station≤(cQ l (i - 1)).Station))))):=by
  unfold zgP;rw [←Bool.and_assoc (!decide _)]
  congr 1
  congr 1
  unfold inB;by_cases h1:2≤(cQ l i).Channel <;> by_cases h2:(cQ l i).Channel≤51 <;> simp [h1,h2,Int.not_lt,Int.not_le] <;> omega
 rw [e]
 cases inB (cQ l i).Station 0 511 <;> cases decide ((cQ l i).Channel<2) <;> cases decide (51<(cQ l i).Channel) <;> cases (decide (0<(i:Int))&&decide ((cQ l i).Station≤(cQ l (i - 1)).Station)) <;> rfl
theorem znJ (p:GProblem):(kM p).er=p:=by
 unfold kM Pb.er;dsimp only;rw [zeK (g:=Dx.er) (fun _=>rfl),zeK (g:=Pr.er) (fun _=>rfl),zeK (g:=Ld.er) (fun _=>rfl),zeK (g:=Cp.er) (fun _=>rfl)]
theorem zi3 {d:List GDomain}{n:Nat}(h:∀x∈d,x.Channels.length≤n):fP d≤d.length*n:=by
 induction d with
 |nil=>simp [fP]
 |cons x r ih=>
  have h1:=h x a8;have h2:=ih (fun y hy=>h y (by simp [hy]));simp only [fP,List.map_cons,List.sum_cons,List.length_cons,Nat.add_mul] at h2 ⊢;omega
theorem zms (h:lE p=true):WtP p∧Bd p.Domains∧fP p.Domains≤30000∧p.Domains.length≤512:=by
 have hG:=Pb.good h;have hw:=zm3 h;rw [znJ] at hw;have hl:(kM p).ds.length=p.Domains.length:=List.length_map _; (have hn:p.Domains.length≤512:=by rw [←hl];exact hG.n)
 have hc:∀x∈p.Domains,x.Channels.length≤52∧x.Channels.Nodup:=fun x hx=>by
  obtain ⟨i,hi,rfl⟩:=i7 hx;have e:cQ (kM p).ds i=(cQ p.Domains i).b:=zcN hi;have h1:=hG.chs _ (fX (show i<(kM p).ds.length by rw [hl];exact hi));have h2:=zkK h (i:=i) (by rw [hl];exact hi);rw [e] at h1 h2;exact ⟨h1.1,(zeE List.nodup_range').sublist h2⟩
 refine ⟨hw,⟨by omega,fun x hx=>⟨by have:=(hc x hx).1;omega,(hc x hx).2⟩⟩,?_,hn⟩;have:=zi3 (d:=p.Domains) (n:=52) (fun x hx=>(hc x hx).1);omega
end
structure GG (p:GProblem):Prop where
 n:p.Domains.length≤512
 st:∀x∈p.Domains,0≤x.Station∧x.Station≤511
 chs:∀x∈p.Domains,x.Channels.length≤52∧∀c∈x.Channels,2≤c∧c≤51
 inc:∀i j,i<j→j<p.Domains.length→(cQ p.Domains i).Station<(cQ p.Domains j).Station
 ps:∀x∈p.Rules.Pairs,(jz p x.A=true∧jz p x.B=true)∧(x.A<x.B∧ -1≤x.Offset∧x.Offset≤1)∧2≤x.Low∧x.Low≤x.High∧x.High≤51
 ls:∀x∈p.Rules.Loads,(jz p x.To=true∧jz p x.From=true)∧(x.To≠x.From∧1≤x.Weight∧x.Weight≤1073741824)∧2≤x.Low∧x.Low≤x.High∧x.High≤51
 cs:∀x∈p.Rules.Caps,jz p x.Station=true∧(0≤x.Max∧x.Max≤1099511627776)∧2≤x.Low∧x.Low≤x.High∧x.High≤51
 lls:p.Rules.Loads.length≤1024
 lps:p.Rules.Pairs.length≤4096
 lcs:p.Rules.Caps.length≤1024
theorem jg {p:GProblem}{s:Int}:jz p s=true↔∃x∈p.Domains,x.Station=s:=by
 unfold jz;rw [List.any_eq_true];simp only [decide_eq_true_eq]
structure ValidL (l:List GChoice):Prop where
 good:∀c∈l,0≤c.Station∧c.Station≤511∧2≤c.Channel∧c.Channel≤51
 inc:∀i j,i<j→j<l.length→(cQ l i).Station<(cQ l j).Station
theorem lg {l:List GChoice}:(List.range l.length).all (zgP l)=true↔ValidL l:=by
 rw [List.all_eq_true];simp only [List.mem_range,zgP,inB,Bool.and_eq_true,decide_eq_true_eq,Bool.not_eq_true',Bool.and_eq_false_iff,decide_eq_false_iff_not];constructor
 ·intro h;refine ⟨fun c hc=>?_,fun i j hij hj=>?_⟩
  ·obtain ⟨i,hi,rfl⟩:=i7 hc;have:=h i hi;omega
  ·have key:∀m,i+m+1<l.length→(cQ l i).Station<(cQ l (i+m+1)).Station:=by
    intro m
    induction m with
    |zero=>intro hm;have:=(h (i+1) hm).2.2;rw [show i+1 - 1=i by omega] at this;rw [Nat.add_zero];omega
    |succ m ih=>intro hm;have h1:=ih a5;have:=(h (i+(m+1)+1) hm).2.2;rw [show i+(m+1)+1 - 1=i+m+1 by omega] at this;omega
   have:=key (j - i - 1) a5
   rwa [show i+(j - i - 1)+1=j by omega] at this
 ·intro h i hi;have:=h.good _ (fX hi);refine ⟨by omega,by omega,?_⟩;rcases Nat.eq_zero_or_pos i with h0|h0
  ·subst h0;left;omega
  ·right;have:=h.inc (i - 1) i a5 hi;omega
theorem ValidL.inj {l:List GChoice}(h:ValidL l){a b:GChoice}(ha:a∈l)(hb:b∈l)(e:a.Station=b.Station):a=b:=by
 obtain ⟨i,hi,rfl⟩:=i7 ha;obtain ⟨j,hj,rfl⟩:=i7 hb;rcases Nat.lt_trichotomy i j with h1|h1|h1
 ·have:=h.inc i j h1 hj;omega
 ·rw [h1]
 ·have:=h.inc j i h1 hi;omega
def orV (k:Int)(o:Option Nat)(r:GViolation):GViolation:=match o with
 |some i=>⟨k,(i:Int)⟩
 |none=>r
section
variable {p:GProblem}{f:Int→Int}
end
structure FiltD (f:GDomain→GDomain) (φ:Int→Int→Prop):Prop where
 st:∀x,(f x).Station=x.Station
 mem:∀x q,q∈(f x).Channels↔q∈x.Channels∧φ x.Station q
 sub:∀x,(f x).Channels.Sublist x.Channels
 mono:∀x y,x.Station=y.Station→x.Channels.Sublist y.Channels→(f x).Channels.Sublist (f y).Channels
theorem FiltD.id:FiltD id (fun _ _=>True):=⟨fun _=>rfl,fun _ _=>by simp,fun _=>List.Sublist.refl _,fun _ _ _ h=>h⟩
theorem FiltD.keep (s c:Int):FiltD (i6 s c) (fun t q=>t=s→q=c):=by
 refine ⟨fun _=>rfl,fun _ _=>gr,fun _=>zir,fun x y hst hsb=>?_⟩;unfold i6;dsimp only;rw [hst]
 cases decide (y.Station=s)
 ·exact hsb
 ·cases ha:x.Channels.any (fun k=>decide (k=c))
  ·exact List.nil_sublist _
  ·obtain ⟨k,hk,he⟩:=List.any_eq_true.1 ha;rw [List.any_eq_true.2 ⟨k,hsb.subset hk,he⟩];exact fx
theorem FiltD.drop (s c:Int):FiltD (jZ s c) (fun t q=>¬t=s∨¬q=c):=by
 refine ⟨fun _=>rfl,fun x q=>?_,fun _=>List.filter_sublist,fun x y hst hsb=>?_⟩
 ·unfold jZ;simp only [List.mem_filter,Bool.or_eq_true,decide_eq_true_eq]
 ·unfold jZ;dsimp only;rw [hst];exact hsb.filter _
section
variable {p:GProblem}{a b d:List GDomain}{f:GDomain→GDomain}{φ:Int→Int→Prop}
def actC (keep:Bool)(c:GChoice):GDomain→GDomain:=bif zj2 c then (bif keep then i6 c.Station c.Channel else jZ c.Station c.Channel) else id
end
theorem zfR {l:List GChoice}:kX l=(List.range l.length).all (zgP l):=by
 unfold kX;simp only [dN,Nat.sub_zero];rw [zcT (zgP l) (fun i next _=>?_),Bool.and_true];rw [zhk];unfold zgP
 show (bif !(inB (cQ l i).Station 0 511)|| !(inB (cQ l i).Channel 2 51) then false else _)=_
 cases inB (cQ l i).Station 0 511 <;> cases inB (cQ l i).Channel 2 51 <;> cases (decide (0<(i:Int))&&decide ((cQ l i).Station≤(cQ l (i - 1)).Station)) <;> rfl
def bitN (p:GProblem)(i:Nat)(n b:Nat):Prop:=∃j,j<i∧(cQ p.Domains j).Station=(n:Int)∧(b=0∨(b:Int)∈(cQ p.Domains j).Channels)
def TabN (p:GProblem)(v:Vec 512 (BitVec 64)):Prop:=∀n b,n<512→b<64→((Vec.get v n).getLsbD b=true↔bitN p p.Domains.length n b)
theorem TabN.zero {p:GProblem}{v:Vec 512 (BitVec 64)}(hG:GG p)(h:TabN p v){s:Int}(h0:0≤s∧s≤511):decide (((Vec.get v s.toNat).toNat:Int)=((0#64).toNat:Int))= !jz p s:=by
 have key:jz p s=true↔(Vec.get v s.toNat).getLsbD 0=true:=by
  rw [h _ _ a5 a5,jg];constructor
  ·rintro ⟨x,hx,e⟩;obtain ⟨j,hj,rfl⟩:=i7 hx;exact ⟨j,hj,by omega, .inl rfl⟩
  ·rintro ⟨j,hj,e,_⟩;exact ⟨_,fX hj,by omega⟩
 have none:jz p s=false→∀b,b<64→(Vec.get v s.toNat).getLsbD b=false:=fun hf b hb=>by
  cases hg:(Vec.get v s.toNat).getLsbD b with
  |false=>rfl
  |true=>
   obtain ⟨j,hj,e,_⟩:=(h _ _ a5 hb).1 hg;have:jz p s=true:=jg.2 ⟨_,fX hj,by omega⟩;rw [hf] at this;cases this
 cases hh:jz p s with
 |true=>
  refine decide_eq_false fun e=>?_;have h1:=key.1 hh;have e2:Vec.get v s.toNat=0#64:=BitVec.eq_of_toNat_eq a5;rw [e2] at h1;simp at h1
 |false=>
  refine decide_eq_true ?_; (have e2:Vec.get v s.toNat=0#64:=BitVec.eq_of_getLsbD_eq fun b hb=>by rw [none hh b hb];simp);rw [e2]
def zlK (p:GProblem)(s c:Int):Bool:=p.Domains.any fun x=>decide (x.Station=s)&&x.Channels.any fun k=>decide (k=c)
theorem zkH {p:GProblem}{s c:Int}:zlK p s c=true↔∃x∈p.Domains,x.Station=s∧c∈x.Channels:=by
 unfold zlK;simp only [List.any_eq_true,Bool.and_eq_true,decide_eq_true_eq];constructor
 ·rintro ⟨x,hx,h1,k,hk,rfl⟩;exact ⟨x,hx,h1,hk⟩
 ·rintro ⟨x,hx,h1,hk⟩;exact ⟨x,hx,h1,c,hk,rfl⟩
theorem TabN.bit {p:GProblem}{v:Vec 512 (BitVec 64)}(h:TabN p v){s c:Int}(h0:0≤s∧s≤511)(h1:2≤c∧c≤51):(Vec.get v s.toNat).getLsbD c.toNat=zlK p s c:=by
 rw [Bool.eq_iff_iff,h _ _ a5 a5,zkH];constructor
 ·rintro ⟨j,hj,e,h2|h2⟩
  ·omega
  ·exact ⟨_,fX hj,by omega,by rw [show c=((c.toNat:Nat):Int) by omega];exact h2⟩
 ·rintro ⟨x,hx,e,h2⟩;obtain ⟨j,hj,rfl⟩:=i7 hx;exact ⟨j,hj,by omega, .inr (by rw [show ((c.toNat:Nat):Int)=c by omega];exact h2)⟩
def okN (p:GProblem)(g:List GChoice):Bool:=(List.range g.length).all (zgP g)&&(List.range g.length).all fun i=>zlK p (cQ g i).Station (cQ g i).Channel
theorem zg6 {ρ:Type}{f:Nat→(Unit→ρ)→Unit→ρ}{k:Unit→ρ}{z:ρ}(q:Nat→Bool){n s:Nat}(hf:∀i next,s≤i→i<s+n→f i next ()=bif q i then next () else z):di f k n s ()=bif (List.range' s n).all q then k () else z:=by
 induction n generalizing s with
 |zero=>rfl
 |succ m ih=>
  show f s (di f k m (s+1)) ()=_
  rw [hf s _ (Nat.le_refl _) a5,ih (fun i next h1 h2=>hf i next a5 a5),List.range'_succ,List.all_cons]
  cases q s <;> rfl
theorem zmS (n:Nat)(g t:Nat→Bool):(List.range' 0 n).all (fun i=>g i&&(bif decide (0<(i:Int)) then t i else true))=((List.range' 0 n).all g&&(List.range' 1 (n - 1)).all t):=by
 rw [Bool.eq_iff_iff,Bool.and_eq_true,List.all_eq_true,List.all_eq_true,List.all_eq_true];constructor
 ·intro h;refine ⟨fun i hi=>((Bool.and_eq_true _ _).mp (h i hi)).1,fun i hi=>?_⟩;have hi':=List.mem_range'_1.1 hi;have h2:=((Bool.and_eq_true _ _).mp (h i (List.mem_range'_1.2 ⟨by omega,by omega⟩))).2
  rwa [decide_eq_true a5,cond_true] at h2
 ·rintro ⟨h1,h2⟩ i hi;have hi':=List.mem_range'_1.1 hi;rw [Bool.and_eq_true];refine ⟨h1 i hi,?_⟩;by_cases h0:0<(i:Int)
  ·rw [decide_eq_true h0,cond_true];exact h2 i (List.mem_range'_1.2 ⟨by omega,by omega⟩)
  ·rw [decide_eq_false h0];rfl
def fU:List Int→List Int→Bool
 |a :: x,b :: y=>bif decide (a=b) then fU x y else decide (a<b)
 |_,_=>false
def cmpc (a b:Int):Int:=bif decide (a<b) then -1 else bif decide (b<a) then 1 else 0
theorem cmp_x (a b:Int):zbb a b=cmpc a b:=by
 unfold zbb zbs;rw [decide_eq_false (fun h=>h rfl),decide_eq_false (fun h=>h rfl)];rfl
def zgR (x:GPair):List Int:=[x.A,x.B,x.Offset,x.Low,x.High]
def zgX (x:GLoad):List Int:=[x.To,x.From,x.Weight,x.Low,x.High]
def gV (x:GCap):List Int:=[x.Station,x.Max,x.Low,x.High]
def iv {α:Type}[Inhabited α](lt:α→α→Bool)(l:List α):Bool:=(List.range' 1 (l.length - 1)).all fun i=>lt (cQ l (i - 1)) (cQ l i)
theorem adj_x {α : Type} [Inhabited α] {l : List α} {cmp : α → α → Int} {lt : α → α → Bool} (hc : ∀ a b, decide (0 ≤ cmp a b) = !lt a b) :
    di (fun (i : Nat) (next : Unit → Option Bool) (_ : Unit) => dU (0 ≤ ((i : Int) - 1) ∧ ((i : Int) - 1) < (l.length : Int)) (bif decide (0 ≤ cmp (cQ l (((i : Int) - 1).toNat)) (cQ l i)) then some false else next ())) (fun _ => some true) (l.length - 1) 1 () = some (iv lt l) := by
  rw [zg6 (fun i => lt (cQ l (i - 1)) (cQ l i)) (z := some false) (fun i next h1 h2 => ?_)]
  · unfold iv; cases (List.range' 1 (l.length - 1)).all fun i => lt (cQ l (i - 1)) (cQ l i) <;> rfl
  · rw [fL ⟨by omega, by omega⟩, hc, show ((i : Int) - 1).toNat = i - 1 by omega]
    cases lt (cQ l (i - 1)) (cQ l i) <;> rfl
theorem znh {α:Type}[Inhabited α]{l:List α}{q:α→Bool}:di (fun (i:Nat) (next:Unit→Bool) (_:Unit)=>bif !(q (cQ l i)) then false else next ()) (fun _=>true) (l.length - 0) 0 ()=l.all q:=by
 rw [Nat.sub_zero,zcT (fun i=>q (cQ l i)) (fun i next hi=>by cases q (cQ l i) <;> rfl),zdO,Bool.and_true]
def zoa (r:GRules):Bool:=
 decide ((r.Pairs.length:Int)≤4096)&&(r.Pairs.all zdv&&(iv (fun a b=>fU (zgR a) (zgR b)) r.Pairs&&(decide ((r.Loads.length:Int)≤1024)&&(r.Loads.all zdp&&(iv (fun a b=>fU (zgX a) (zgX b)) r.Loads&&(decide ((r.Caps.length:Int)≤1024)&&(r.Caps.all zdH&&iv (fun a b=>fU (gV a) (gV b)) r.Caps)))))))
theorem zoi (a b:Int):decide (a≤b)= !decide (b<a):=by
 by_cases h:a≤b
 ·rw [decide_eq_true h,decide_eq_false a5];rfl
 ·rw [decide_eq_false h,decide_eq_true a5];rfl
theorem zl8 {α:Type}[Inhabited α](l:List α)(g:α→Bool)(lt:α→α→Bool):((List.range' 0 (l.length - 0)).all fun i=>g (cQ l i)&&(bif decide (0<(i:Int)) then lt (cQ l (i - 1)) (cQ l i) else true))=(l.all g&&iv lt l):=by
 rw [Nat.sub_zero,zmS l.length (fun i=>g (cQ l i)) (fun i=>lt (cQ l (i - 1)) (cQ l i)),←List.range_eq_range',zdO];rfl
theorem zkR {α:Type}[Inhabited α]{l:List α}{i:Nat}(h:i<l.length):cQ l i∈l:=by rw [eh h];exact List.getElem_mem h
theorem zl2 {c b:Nat}(hc:c<64):((1#64) <<< c).getLsbD b=decide (b=c):=by
 rw [BitVec.getLsbD_shiftLeft];by_cases h:b=c
 ·subst h;simp [hc,BitVec.getLsbD_one]
 ·rw [decide_eq_false h];by_cases h2:b<c
  ·simp [h2]
  ·have e:(1#64).getLsbD (b - c)=false:=by
    rw [BitVec.getLsbD_one];simp;omega
   rw [e,Bool.and_false]
theorem zm6 {x:BitVec 64}{c:Nat}:decide ((((x >>> c) &&& (1#64)).toNat:Int)=((1#64).toNat:Int))=x.getLsbD c:=by
 have e:((x >>> c) &&& (1#64))=bif x.getLsbD c then 1#64 else 0#64:=by
  refine BitVec.eq_of_getLsbD_eq fun b hb=>?_;rw [BitVec.getLsbD_and,BitVec.getLsbD_ushiftRight,BitVec.getLsbD_one];by_cases h0:b=0
  ·subst h0;cases x.getLsbD c <;> simp
  ·cases x.getLsbD c <;> simp [h0]
 rw [e]
 cases x.getLsbD c <;> decide
def inS (s:GSet)(i:Int):Bool:=(decide (0≤i)&&decide (i<512))&&(Vec.get s.words (i / 64).toNat).getLsbD (i % 64).toNat
theorem zmD (s:GSet)(i:Int):lu s i=some (inS s i):=by
 unfold lu inS za1;by_cases h:0≤i∧i<512
 ·simp only [dN];rw [decide_eq_true h.1,decide_eq_true h.2];simp only [Bool.and_self,cond_true];rw [fL ⟨h.1,by omega,by omega⟩,fL ⟨by omega,by omega⟩,fL ⟨h.1,by omega⟩,fL ⟨by omega,by omega⟩,zm6,Bool.true_and]
 ·have e:(decide (0≤i)&&decide (i<512))=false:=by
   rw [Bool.and_eq_false_iff,decide_eq_false_iff_not,decide_eq_false_iff_not];omega
  simp only [dN];rw [e];rfl
def wS (v:Vec 8 (BitVec 64))(n:Nat):Bool:=(Vec.get v (n / 64)).getLsbD (n % 64)
theorem zog {v:Vec 8 (BitVec 64)}{j n:Nat}(hj:j<512):wS (Vec.put v (j / 64) (Vec.get v (j / 64) ||| ((1#64) <<< (j % 64)))) n=(wS v n||decide (n=j)):=by
 unfold wS;rw [kx a5];by_cases h:n / 64=j / 64
 ·rw [if_pos h,BitVec.getLsbD_or,zl2 a5,h]
  congr 1
  by_cases h2:n % 64=j % 64
  ·rw [decide_eq_true h2,decide_eq_true a5]
  ·rw [decide_eq_false h2,decide_eq_false a5]
 ·rw [if_neg h,decide_eq_false a5,Bool.or_false]
theorem zmi {l:List Int}{i:Nat}(hi:i<l.length)(q:Int→Bool):(l.take (i+1)).any q=((l.take i).any q||q (cQ l i)):=by
 rw [List.take_add_one,List.getElem?_eq_getElem hi,List.any_append,eh hi];simp
theorem of_x {l:List Int}(h:∀x∈l,0≤x∧x<512):∃s,zb6 l=some (s,0)∧∀i:Int,inS s i=((decide (0≤i)&&decide (i<512))&&l.any fun x=>decide (x=i)):=by
 have hn:∀i,i<l.length→0≤cQ l i∧cQ l i<512:=fun i hi=>h _ (zkR hi);unfold zb6
 obtain ⟨h1,h2⟩:=zdc (k:=fun s:Vec 8 (BitVec 64)×Vec 8 (BitVec 64)=>(some (GSet.mk s.2,0):Option (GSet×Int))) (n:=l.length) (s:=(Vec.fill 8 (0#64),Vec.fill 8 (0#64)))
  (f:=fun (i_7:Nat) (next6:(Vec 8 (BitVec 64)×Vec 8 (BitVec 64))→Option (GSet×Int)) (s6:Vec 8 (BitVec 64)×Vec 8 (BitVec 64))=>
   (bif !(za1 (cQ l i_7)) then
    some ((GSet.mk (Vec.fill 8 (0#64))),2)
    else
    dU (0≤(cQ l i_7)∧(cQ l i_7)≤9223372036854775807∧1≤(64:Int)) <|
    dU (0≤((cQ l i_7) / 64)∧((cQ l i_7) / 64)<(8:Int)) <|
    dU (0≤(cQ l i_7)∧1≤(64:Int)) <|
    dU (0≤((cQ l i_7) % 64)∧((cQ l i_7) % 64)<(64:Int)) <|
    next6 (s6.1,(Vec.put s6.2 (((cQ l i_7) / 64).toNat) ((Vec.get s6.2 (((cQ l i_7) / 64).toNat)) ||| ((1#64) <<< (((cQ l i_7) % 64).toNat)))))))
  (fun i s=>∀n,n<512→wS s.2 n=(l.take i).any fun x=>decide (x=(n:Int)))
  (fun i s=>(s.1,Vec.put s.2 ((cQ l i).toNat / 64) (Vec.get s.2 ((cQ l i).toNat / 64) ||| ((1#64) <<< ((cQ l i).toNat % 64)))))
  (fun n hn=>by
   unfold wS
   rw [kc a5];simp)
  (fun i s hi hs n hn2=>by
   have:=hn i hi;rw [zog a5,hs n hn2,zmi hi]
   congr 1
   by_cases e:cQ l i=(n:Int)
   ·rw [decide_eq_true e,decide_eq_true a5]
   ·rw [decide_eq_false e,decide_eq_false a5])
  (fun i next s hi hs=>by
   have:=hn i hi
   have e:za1 (cQ l i)=true:=by
    unfold za1;rw [decide_eq_true this.1,decide_eq_true this.2];rfl
   rw [e,Bool.not_true,cond_false,fL ⟨this.1,by omega,by omega⟩,fL ⟨by omega,by omega⟩,fL ⟨this.1,by omega⟩,fL ⟨by omega,by omega⟩,show (cQ l i / 64).toNat=(cQ l i).toNat / 64 by omega,show (cQ l i % 64).toNat=(cQ l i).toNat % 64 by omega])
 refine ⟨_,h1,fun i=>?_⟩;unfold inS;by_cases hi:0≤i∧i<512
 ·rw [decide_eq_true hi.1,decide_eq_true hi.2,Bool.and_self,Bool.true_and,Bool.true_and];have h3:=h2 i.toNat a5;rw [List.take_length] at h3;unfold wS at h3;rw [show (i / 64).toNat=i.toNat / 64 by omega,show (i % 64).toNat=i.toNat % 64 by omega];refine h3.trans ?_;rw [show ((i.toNat:Nat):Int)=i by omega]
 ·have e:(decide (0≤i)&&decide (i<512))=false:=by
   rw [Bool.and_eq_false_iff,decide_eq_false_iff_not,decide_eq_false_iff_not];omega
  rw [e];rfl
theorem zoc (a b:Int):decide (0≤zbb a b)= !decide (a<b):=by
 rw [cmp_x];unfold cmpc;rcases Int.lt_trichotomy a b with h|h|h
 ·rw [decide_eq_true h];rfl
 ·subst h;rw [decide_eq_false (Int.lt_irrefl a)];rfl
 ·rw [decide_eq_false (show ¬a<b by omega),decide_eq_true h];rfl
theorem zka {n:Int}(h:jE n=true):0≤n∧n≤511:=by
 unfold jE zaP at h;rw [Bool.and_eq_true,decide_eq_true_eq,decide_eq_true_eq] at h;exact h
theorem zgY {a b:Bool}(h:(a&&b)=true):a=true:=((Bool.and_eq_true _ _).mp h).1
theorem zhQ {a b:Bool}(h:(a&&b)=true):b=true:=((Bool.and_eq_true _ _).mp h).2
structure RulesGood (r:GRules):Prop where
 np:r.Pairs.length≤4096
 nl:r.Loads.length≤1024
 nc:r.Caps.length≤1024
 p:∀c∈r.Pairs,zdv c=true
 l:∀c∈r.Loads,zdp c=true
 c:∀c∈r.Caps,zdH c=true
theorem znZ (b:Bool):(bif b then true else false)=b:=by cases b <;> rfl
theorem allEq {α:Type}[Inhabited α][DecidableEq α]{a b:List α}(hl:a.length=b.length):((List.range a.length).all fun i=>decide (cQ a i=cQ b i))=decide (a=b):=by
 rw [Bool.eq_iff_iff,List.all_eq_true,decide_eq_true_eq];constructor
 ·intro h;refine List.ext_getElem hl fun i h1 h2=>?_;have:=of_decide_eq_true (h i (List.mem_range.2 h1))
  rwa [eh h1,eh h2] at this
 ·rintro rfl i _;simp
theorem zoe {α:Type}[Inhabited α][DecidableEq α]{a b:List α}{r:α→α→Bool}{k:Unit→Bool}(hr:∀x y,r x y= !decide (x=y))(hl:a.length=b.length):di (fun (i:Nat) (next:Unit→Bool) (_:Unit)=>bif r (cQ a i) (cQ b i) then false else next ()) k (a.length - 0) 0 ()=(decide (a=b)&&k ()):=by
 rw [Nat.sub_zero,zcT (fun i=>decide (cQ a i=cQ b i)) (fun i next hi=>by rw [hr];cases decide (cQ a i=cQ b i) <;> rfl),allEq hl]
theorem eqL_x {α:Type}[Inhabited α][DecidableEq α]{a b:List α}{r:α→α→Bool}(hr:∀x y,r x y= !decide (x=y)):(bif decide (¬(a.length:Int)=(b.length:Int)) then false else di (fun (i:Nat) (next:Unit→Bool) (_:Unit)=>bif r (cQ a i) (cQ b i) then false else next ()) (fun _=>true) (a.length - 0) 0 ())=decide (a=b):=by
 by_cases hl:a.length=b.length
 ·rw [decide_eq_false a5,cond_false,zoe hr hl,Bool.and_true]
 ·rw [decide_eq_true a5,cond_true,decide_eq_false (fun e=>hl (by rw [e]))]
theorem ziM (a b:List Int):zbD a b=decide (a=b):=eqL_x (r:=fun x y:Int=>decide (¬x=y)) fun x y=>by by_cases h:x=y <;> simp [h]
def onL:List GChoice→Int→Int
 | [],_=>0
 |x :: r,n=>bif decide (x.Station=n) then x.Channel else onL r n
def TabC (l:List GChoice)(c:Vec 512 Int):Prop:=∀n,n<512→Vec.get c n=onL l (n:Int)
theorem TabC.get {l:List GChoice}{c:Vec 512 Int}(h:TabC l c){i:Int}(hi:0≤i∧i<512):Vec.get c i.toNat=onL l i:=by
 rw [h _ a5,show ((i.toNat:Nat):Int)=i by omega]
theorem znH (l:List Int)(v:Int):iE l v=l.any fun x=>decide (x=v):=by
 have h:=zep (f:=fun (i:Nat) (next:Unit→Bool) (_:Unit)=>bif decide (cQ l i=v) then true else next ()) (k:=fun _=>false) (n:=l.length - 0) (fun i=>decide (cQ l i=v)) (fun i next hi=>by cases decide (cQ l i=v) <;> rfl);rw [Nat.sub_zero,zdG (q:=fun x=>decide (x=v)),Bool.or_false] at h;exact h
def kS (l:List Int):Bool:=l.all jE&&iv (fun a b=>decide (a<b)) l
theorem zgh (l:List Int):zaT l=some (kS l):=by
 have e1:zaN l=l.all jE:=znh;have e2:zbd l=some (iv (fun a b=>decide (a<b)) l):=adj_x zoc;unfold zaT kS;rw [e1,e2];simp only [dN,Option.bind_some]
 cases l.all jE <;> rfl
theorem zhI (l:List Int):za5 l=kS l:=by
 refine (zg6 (k:=fun _=>true) (z:=false) (fun i=>jE (cQ l i)&&(bif decide (0<(i:Int)) then decide (cQ l (i - 1)<cQ l i) else true)) (fun i next h1 h2=>?_)).trans ?_
 ·rw [show ((i:Int) - 1).toNat=i - 1 by omega,zoi (cQ l i) (cQ l (i - 1))]
  show (bif (!jE (cQ l i)||_) then _ else _)=_
  cases jE (cQ l i) <;> cases decide (0<(i:Int)) <;> cases decide (cQ l (i - 1)<cQ l i) <;> rfl
 ·rw [znZ,zl8 l jE (fun a b=>decide (a<b))];rfl
theorem zhX {l:List Int}(h:kS l=true):∀x∈l,0≤x∧x<512:=fun x hx=>by
 have:=zka (List.all_eq_true.1 (zgY h) x hx);omega
theorem zkF {l:List Int}{s:GSet}(hs:∀i:Int,inS s i=((decide (0≤i)&&decide (i<512))&&l.any fun x=>decide (x=i)))(h:kS l=true)(i:Int):inS s i=iE l i:=by
 rw [hs,znH];by_cases hi:0≤i∧i<512
 ·rw [decide_eq_true hi.1,decide_eq_true hi.2];rfl
 ·have e:(decide (0≤i)&&decide (i<512))=false:=by
   rw [Bool.and_eq_false_iff,decide_eq_false_iff_not,decide_eq_false_iff_not];omega
  rw [e,Bool.false_and]
  symm
  rw [List.any_eq_false];intro x hx hd;have:=zhX h x hx;have:=of_decide_eq_true hd;omega
def znE (l:List GChoice)(st:List Int):List GChoice:=(List.range (l.length - 0)).foldl (fun s i=>bif iE st (cQ l i).Station then s++[cQ l i] else s) []
theorem zmW {l : List GChoice} {st : List Int} (hl : l.length ≤ 100000) : zb5 l st = some (bif kX l && kS st then (znE l st, 0) else ([], 2)) := by
  unfold zb5;simp only [dN, zgh, Option.bind_some]
  cases kX l
  · rfl
  cases h2 : kS st
  · rfl
  simp only [Bool.not_true, cond_false, Bool.and_self, cond_true]; obtain ⟨s, h3, h4⟩ := of_x (l := st) (zhX h2); rw [h3, Option.bind_some]
  refine (zdc (k := fun s : List GChoice => some (s, (0 : Int))) (n := l.length - 0) (s := [])
    (f := fun (i_9 : Nat) (next8 : List GChoice → Option (List GChoice × Int)) (some_7 : List GChoice) =>
          (lu s ((cQ l i_9).Station)).bind fun r33 =>
          (bif r33 then
            dU (dd (some_7 ++ [(cQ l i_9)]).length 16) <|
            next8 (some_7 ++ [(cQ l i_9)])
            else
            next8 some_7))
    (fun i s => s.length ≤ i) (fun i s => bif iE st (cQ l i).Station then s ++ [cQ l i] else s) a8 (fun i s hi hs => ?_) (fun i next s hi hs => ?_)).1
  · cases iE st (cQ l i).Station
    · show s.length ≤ i + 1; omega
    · show (s ++ [cQ l i]).length ≤ i + 1; rw [List.length_append]; simp; exact hs
  · rw [zmD, zkF h4 h2, Option.bind_some]
    cases iE st (cQ l i).Station
    · rfl
    · rw [cond_true, cond_true, fL (by unfold dd; rw [List.length_append]; simp; omega)]
abbrev RS:=List GDomain×List GPair×List GLoad×List GCap
def gP (p:GProblem)(st:List Int)(i:Nat)(s:RS):RS:=bif iE st (cQ p.Rules.Pairs i).A&&iE st (cQ p.Rules.Pairs i).B then (s.1,s.2.1++[cQ p.Rules.Pairs i],s.2.2.1,s.2.2.2) else (s.1,s.2.1,s.2.2.1,s.2.2.2)
def gL (p:GProblem)(st:List Int)(i:Nat)(s:RS):RS:=bif iE st (cQ p.Rules.Loads i).To&&iE st (cQ p.Rules.Loads i).From then (s.1,s.2.1,s.2.2.1++[cQ p.Rules.Loads i],s.2.2.2) else (s.1,s.2.1,s.2.2.1,s.2.2.2)
def gC (p:GProblem)(st:List Int)(i:Nat)(s:RS):RS:=bif iE st (cQ p.Rules.Caps i).Station then (s.1,s.2.1,s.2.2.1,s.2.2.2++[cQ p.Rules.Caps i]) else (s.1,s.2.1,s.2.2.1,s.2.2.2)
theorem zeA {σ ρ:Type}{f:Nat→(σ→ρ)→σ→ρ}{k:σ→ρ}{z:ρ}{n:Nat}{s:σ}(q:Nat→Bool)(hf:∀i next,i<n→f i next s=bif q i then next s else z):di f k n 0 s=bif (List.range n).all q then k s else z:=by
 have key:∀m i,i+m=n→di f k m i s=bif (List.range' i m).all q then k s else z:=by
  intro m
  induction m with
  |zero=>intro i _;rfl
  |succ m ih=>
   intro i e
   show f i (di f k m (i+1)) s=_
   rw [hf i _ a5,ih (i+1) a5,List.range'_succ,List.all_cons]
   cases q i <;> rfl
 rw [key n 0 a5,List.range_eq_range']
theorem zi7 {α:Type}[Inhabited α]{lt:α→α→Bool}(ht:∀a b c,lt a b=true→lt b c=true→lt a c=true){l:List α}:iv lt l=true↔l.Pairwise (fun a b=>lt a b=true):=by
 constructor
 ·intro h;have h1:∀i,i+1<l.length→lt (cQ l i) (cQ l (i+1))=true:=fun i hi=>List.all_eq_true.1 h (i+1) (List.mem_range'_1.2 ⟨by omega,by omega⟩)
  have h2:∀d i,i+d+1<l.length→lt (cQ l i) (cQ l (i+d+1))=true:=by
   intro d
   induction d with
   |zero=>intro i hi;exact h1 i hi
   |succ d ih=>intro i hi;exact ht _ _ _ (ih i a5) (h1 (i+d+1) a5)
  refine List.pairwise_iff_getElem.2 fun i j hi hj hij=>?_;rw [←eh hi,←eh hj];have:=h2 (j - i - 1) i a5
  rwa [show i+(j - i - 1)+1=j by omega] at this
 ·intro h;refine List.all_eq_true.2 fun i hi=>?_;have hi:=List.mem_range'_1.1 hi;rw [eh (show i - 1<l.length by omega),eh (show i<l.length by omega)];exact List.pairwise_iff_getElem.1 h (i - 1) i _ _ a5
theorem zk3 {a b:Int}{x y:List Int}:fU (a :: x) (b :: y)=true↔a<b∨(a=b∧fU x y=true):=by
 show (bif decide (a=b) then fU x y else decide (a<b))=true↔_
 by_cases h:a=b
 ·rw [decide_eq_true h,cond_true];exact ⟨fun h1=> .inr ⟨h,h1⟩,fun h1=>h1.elim (fun h2=>absurd h2 a5) (·.2)⟩
 ·rw [decide_eq_false h,cond_false,decide_eq_true_eq];exact ⟨.inl,fun h1=>h1.elim id (fun h2=>absurd h2.1 h)⟩
theorem zhK:∀a b c:List Int,fU a b=true→fU b c=true→fU a c=true
 | [],_,_,h,_=>by cases h
 |_ :: _,[],_,h,_=>by cases h
 |_ :: _,_ :: _,[],_,h=>by cases h
 |a :: x,b :: y,c :: z,h1,h2=>by
  rw [zk3] at h1 h2 ⊢;rcases h1 with h1|⟨h1,h3⟩ <;> rcases h2 with h2|⟨h2,h4⟩
  ·left;omega
  ·left;omega
  ·left;omega
  ·exact .inr ⟨by omega,zhK x y z h3 h4⟩
theorem zhM {α:Type}[Inhabited α]{lt:α→α→Bool}(ht:∀a b c,lt a b=true→lt b c=true→lt a c=true){l l':List α}(hs:l'.Sublist l)(h:iv lt l=true):iv lt l'=true:=(zi7 ht).2 (((zi7 ht).1 h).sublist hs)
theorem ziI {a b:Bool}(ha:a=true)(hb:b=true):(a&&b)=true:=by rw [ha,hb];rfl
structure RulesP (r:GRules):Prop where
 g:RulesGood r
 ip:iv (fun a b=>fU (zgR a) (zgR b)) r.Pairs=true
 il:iv (fun a b=>fU (zgX a) (zgX b)) r.Loads=true
 ic:iv (fun a b=>fU (gV a) (gV b)) r.Caps=true
theorem RulesP.b {r:GRules}(h:RulesP r):zoa r=true:=by
 have a:=h.g.np;have b:=h.g.nl;have c:=h.g.nc;exact ziI (decide_eq_true a5) (ziI (List.all_eq_true.2 h.g.p) (ziI h.ip (ziI (decide_eq_true a5) (ziI (List.all_eq_true.2 h.g.l) (ziI h.il (ziI (decide_eq_true a5) (ziI (List.all_eq_true.2 h.g.c) h.ic)))))))
theorem znc (a b c:GPair):fU (zgR a) (zgR b)=true→fU (zgR b) (zgR c)=true→fU (zgR a) (zgR c)=true:=zhK _ _ _
theorem znA (a b c:GLoad):fU (zgX a) (zgX b)=true→fU (zgX b) (zgX c)=true→fU (zgX a) (zgX c)=true:=zhK _ _ _
theorem zn7 (a b c:GCap):fU (gV a) (gV b)=true→fU (gV b) (gV c)=true→fU (gV a) (gV c)=true:=zhK _ _ _
theorem RulesP.sub {r r':GRules}(h:RulesP r)(hp:r'.Pairs.Sublist r.Pairs)(hl:r'.Loads.Sublist r.Loads)(hc:r'.Caps.Sublist r.Caps):RulesP r':=by
 refine ⟨⟨?_,?_,?_,fun x hx=>h.g.p x (hp.subset hx),fun x hx=>h.g.l x (hl.subset hx),fun x hx=>h.g.c x (hc.subset hx)⟩,zhM znc hp h.ip,zhM znA hl h.il,zhM zn7 hc h.ic⟩
 ·have:=hp.length_le;have:=h.g.np;omega
 ·have:=hl.length_le;have:=h.g.nl;omega
 ·have:=hc.length_le;have:=h.g.nc;omega
section
variable {P:Program}{n:Nat}{B D:World}{M:Nat→Prop}{fs:dW}{hs:HS}{o:Oper}{v:Value}
theorem K.slNil {Q:Exit→Act→World→Prop}{e:Exit}(t:TypeId)(size:Nat)(h:K n B D M Q e fs (.sl (.slice none 0 0) t size 0 [] :: hs)):K n B D M Q e fs hs:=⟨fun a w ha hw hm=>h.out a w ha (hw.slNil t size) hm⟩
def zhi (v:Value):Prop:=∃A m c,v= .slice (some A) m c
theorem zmB {t e:TypeId}{w:World}{A:Option Addr}{m c:Nat}(hU:P.underlying t=some (.slice e)):(Op.equal t (.slice A m c) (.slice none 0 0)).run P w= .ok A.isNone w:=by
 unfold Op.equal;rw [show Op.maxDepth=Nat.succ 9999 from rfl];unfold Op.equalIn
 cases A <;> simp [underlying,hU]
theorem Yv.cp {x y:Operand}{t u e:TypeId}(hU:P.underlying t=some (.slice e))(ho:o.op= .binOp .eql t x y u)(hx:ev fs x=some v)(hy:ev fs y=some (.slice none 0 0))(hN:zhi v):Yv P n B M fs hs o (.bool false):=fun f w ha _=>by
 obtain ⟨A,m,c,rfl⟩:=hN;unfold execOp;simp [ho,ha.ev hx,ha.ev hy,eqGuard,binOp,zmB hU]
theorem Yv.cq {x y:Operand}{t u e:TypeId}(hU:P.underlying t=some (.slice e))(ho:o.op= .binOp .eql t x y u)(hx:ev fs x=some (.slice none 0 0))(hy:ev fs y=some (.slice none 0 0)):Yv P n B M fs hs o (.bool true):=fun f w ha _=>by
 unfold execOp;simp [ho,ha.ev hx,ha.ev hy,eqGuard,binOp,zmB hU]
def NilI {α:Type}(v:Value)(l:List α):Prop:=(l=[]∧v= .slice none 0 0)∨(l≠[]∧zhi v)
theorem NilI.nn {α:Type}{v:Value}{l:List α}(h:NilI v l)(hl:l≠[]):zhi v:=h.elim (fun x=>absurd x.1 hl) (fun x=>x.2)
theorem NilI.nil {α:Type}:NilI (.slice none 0 0) ([]:List α):= .inl ⟨rfl,rfl⟩
theorem Hp.nilI {α:Type}{l:List α}{w:World}{sv:Value}{t:TypeId}{size k:Nat}{ls:List Value}(hw:Hp B M hs w)(i:Nat)(hi:hs[i]?=some (.sl sv t size k ls))(hl:l≠[])(hk:0<k):NilI sv l:=by
 rcases (c6.1 (hw.get hi)).2 with ⟨_,h0⟩|⟨g,cap,cur,rfl,_⟩
 ·omega
 ·exact .inr ⟨hl,_,_,_,rfl⟩
theorem K.nilI {D:World}{Q:Exit→Act→World→Prop}{e:Exit}{α:Type}{l:List α}{sv:Value}{t:TypeId}{size k:Nat}{ls:List Value}(i:Nat)(hi:hs[i]?=some (.sl sv t size k ls))(hl:l≠[])(hk:0<k)(h:NilI sv l→K n B D M Q e fs hs):K n B D M Q e fs hs:=⟨fun a w ha hw hm=>(h (hw.nilI i hi hl hk)).out a w ha hw hm⟩
theorem T.nilI {F:Fence}{D:World}{Q:Exit→Act→World→Prop}{c:Code}{α:Type}{l:List α}{sv:Value}{t:TypeId}{size k:Nat}{ls:List Value}(i:Nat)(hi:hs[i]?=some (.sl sv t size k ls))(hl:l≠[])(hk:0<k)(h:NilI sv l→T F P n B D M c Q fs hs):T F P n B D M c Q fs hs:=⟨fun a w ha hw hm=>(h (hw.nilI i hi hl hk)).out a w ha hw hm⟩
end
end Go.Proofs.YtogbggmckmnlfaaGreatDoor
