/- Yw Kr Yt: shortened and put together by squeeze.py. -/
import Derived.Test.YtogbggmckmnlfaaGreatDoorQ09
import Derived.Shelf.SlicesE.Reverse
import Derived.Ground.SlgnProg
set_option maxRecDepth 100000
set_option maxHeartbeats 4000000
set_option linter.unusedVariables false
set_option linter.unusedSectionVars false
set_option linter.unusedSimpArgs false
namespace Go.Proofs.YtogbggmckmnlfaaGreatDoor
open Go.RowKit
structure Gfault where
 first:Int
deriving DecidableEq,Inhabited
abbrev kW (x:Gfault):List Value:=[.int .i64 x.first]
theorem Gfault.len (x:Gfault):(kW x).length=1:=rfl
structure GWriter where
 fault:Gfault
 out:List Int
deriving DecidableEq,Inhabited
def eJ (F:Frz)(c:List Value)(x:GWriter):Prop:=∃(v1:Value),c=[.int .i64 x.fault.first,v1]∧SlC F v1 1 (x.out.map (eK .u8))
theorem GWriter.mono {F G:Frz}{c:List Value}{x:GWriter}(hle:F.Le G)(h:eJ F c x):eJ G c x:=by
 obtain ⟨v1,h0,h2⟩:=h;exact ⟨v1,h0,h2.mono hle⟩
theorem GWriter.len {F:Frz}{c:List Value}{x:GWriter}(h:eJ F c x):c.length=2:=by
 obtain ⟨v1,h0,h2⟩:=h;subst h0;rfl
theorem GWriter.one {F:Frz}{c:List Value}{x:GWriter}(h:eJ F c x):OneCs c:=by
 obtain ⟨v1,h0,h2⟩:=h;subst h0;haveI:=h2.oneC
 infer_instance
theorem GWriter.c0 {F:Frz}{c:List Value}{x:GWriter}(h:eJ F c x):c[0]?=some (.int .i64 x.fault.first):=by
 obtain ⟨v1,h0,h2⟩:=h;subst h0;rfl
theorem GWriter.c1 {F:Frz}{c:List Value}{x:GWriter}(h:eJ F c x):c[1]?=some (cQ c 1)∧SlC F (cQ c 1) 1 (x.out.map (eK .u8)):=by
 obtain ⟨v1,h0,h2⟩:=h;subst h0;exact ⟨rfl,h2⟩
theorem GWriter.form {F:Frz}{c:List Value}{x:GWriter}(h:eJ F c x):(c.drop 0).take 2=[.int .i64 x.fault.first,cQ c 1]:=by
 obtain ⟨v1,h0,h2⟩:=h;subst h0;rfl
def zb1 (fuel:Nat)(l0_:List Int)(n:BitVec 64):Option (List Int):=
 dN (fun (s3:List Int×BitVec 64)=>
  dU (dd (s3.1++[(IntKind.u8.wrap (s3.2.toNat:Int))]).length 1) <|
  some (s3.1++[(IntKind.u8.wrap (s3.2.toNat:Int))]))
 (fun k3=>
  iV (fun (next6:(List Int×BitVec 64)→Option (List Int)) (s6:List Int×BitVec 64)=>
   (bif decide (((127#64).toNat:Int)<(s6.2.toNat:Int)) then
    dU (dd (s6.1++[(orK .u8 (IntKind.u8.wrap (s6.2.toNat:Int)) 128)]).length 1) <|
    next6 ((s6.1++[(orK .u8 (IntKind.u8.wrap (s6.2.toNat:Int)) 128)]),(s6.2 >>> 7))
    else
    k3 (s6.1,s6.2))) fuel (l0_,n))
theorem zhH (F0:Frz)(w:World)(hF0:F0.At w)(l0_:List Int)(v0_:Value)(n:BitVec 64)(hO:Hp w (dj [.sl v0_ 5 1 l0_.length (l0_.flatMap (eK .u8))]) [.sl v0_ 5 1 l0_.length (l0_.flatMap (eK .u8))] w)(hA:∀g,dj [.sl v0_ 5 1 l0_.length (l0_.flatMap (eK .u8))] g→¬F0.S g)(fuel:Nat)(r:List Int)(hr:zb1 fuel l0_ n=some r):Calls Tryz.prog 102 #[v0_,U n] w fun e w'=>∃(y:Value),(True)∧e= .returned (y)∧FxM F0 w (dj [.sl v0_ 5 1 l0_.length (l0_.flatMap (eK .u8))]) F0 [.sl y 5 1 r.length (r.flatMap (eK .u8))] w':=by
 have hk:=hr;unfold zb1 at hk;haveI:=iJ (hO.own (.sl v0_ 5 1 l0_.length (l0_.flatMap (eK .u8))) a8);have hmx0_:=i3 (hO.own (.sl v0_ 5 1 l0_.length (l0_.flatMap (eK .u8))) a8);obtain ⟨S0,F1,rfl,hS0,hp0⟩:=ij hF0 hO hA;refine dy (hs:=[.sl v0_ 5 1 l0_.length (l0_.flatMap (eK .u8)), .fr F1]) Tryz.func102 rfl rfl rfl hp0 ?_;refine gh ?_;refine TL.slNil 5 1 ?_;refine gU ?_;have hq:=eN hk;clear hk;obtain ⟨k3,hk3,hk⟩:=hq; (try dsimp only at hk);refine dk (ι:=List Int×Value×BitVec 64) (fun z=>[(0,z.2.1),(1,U z.2.2)]) (fun z=>[.sl z.2.1 5 1 z.1.length (z.1.flatMap (eK .u8)), .fr F1]) (fun z=>k3 (z.1,z.2.2)=some r∧OneC z.2.1) ?_ ?_
 ·have hq:=zdd hk;clear hk;obtain ⟨f6,hf6,hk⟩:=hq;refine fJ ?_;refine T.pick [1,2] rfl a6 ?_;refine T.loop (ι:=Nat×List Int×Value×BitVec 64) (fun z=>[(0,z.2.2.1),(1,U z.2.2.2)]) (fun z=>[.sl z.2.2.1 5 1 z.2.1.length (z.2.1.flatMap (eK .u8)), .fr F1]) (fun z=>iV f6 z.1 (z.2.1,z.2.2.2)=some r∧OneC z.2.2.1) (fun z=>z.1) (fuel,l0_,v0_,n) ?_ ?_ ?_ ?_
  ·exact q4b
  ·exact (.c (.c .nil))
  ·exact fx
  ·rintro ⟨m_7,out_4,vout_4,n_5⟩ ⟨hk,oout_4⟩; (try dsimp only at *);have hq:=zdJ hk;clear hk;obtain ⟨m_7',rfl,hk⟩:=hq;generalize hn6:iV f6 m_7'=next6 at hk;rw [←hf6] at hk; (try dsimp only at hk);refine jS ?_;refine TL.ns ?_;refine T.cond rfl (fun h8=>?_) (fun h8=>?_)
   ·replace hk:=dC hk h8;refine T.skip (K.seq (T.block (T.seq ?_)));have hq:(dd (out_4++[(orK .u8 (IntKind.u8.wrap (n_5.toNat:Int)) 128)]).length 1)∧_:=eW hk;clear hk;obtain ⟨g12,hk⟩:=hq; (try dsimp only at hk);refine gp ?_;refine cR (iY (z:=(n_5.toNat:Int))) ?_;refine cR (Yv.orK (a:=(IntKind.u8.wrap (n_5.toNat:Int))) (b:=128) rfl rfl rfl) ?_;refine jj ?_;rintro _ _ ⟨g11,rfl,rfl⟩;refine cX (fj 1 0 rfl rfl rfl rfl rfl rfl (j2 (ys:=[(orK .u8 (IntKind.u8.wrap (n_5.toNat:Int)) 128)])) (mn (enc:=(eK .u8)) (xs:=out_4) (ys:=[(orK .u8 (IntKind.u8.wrap (n_5.toNat:Int)) 128)])) g12 a6) ?_;rintro v12 _ ⟨hv12,rfl⟩;refine dp ?_;refine TL.ns (T.region ?_);refine dp ?_;refine cR (fW (a:=n_5) 7 rfl rfl rfl (show (7:Int)=((7:Nat):Int) from rfl) a5) ?_;refine dp ?_;refine TL.nil (fI ?_);rw [←hn6] at hk;refine K.pick [1,2] rfl a6 ?_;exact K.next (m_7',(out_4++[(orK .u8 (IntKind.u8.wrap (n_5.toNat:Int)) 128)]),v12,(n_5 >>> 7)) ⟨hk,inferInstance⟩ a9 (.c (.c .nil)) (List.Sublist.refl _)
   ·replace hk:=dD hk h8;refine fi ?_;exact c4 (out_4,vout_4,n_5) ⟨hk,inferInstance⟩ (.c (.c .nil)) (List.Sublist.refl _)
 ·rintro ⟨out_1,vout_1,n_2⟩ ⟨hk,oout_1⟩; (try dsimp only at *);rw [←hk3] at hk; (try dsimp only at hk);refine T.seq ?_;have hq:(dd (out_1++[(IntKind.u8.wrap (n_2.toNat:Int))]).length 1)∧_:=eW hk;clear hk;obtain ⟨g19,hk⟩:=hq; (try dsimp only at hk);refine gp ?_;refine cR (iY (z:=(n_2.toNat:Int))) ?_;refine jj ?_;rintro _ _ ⟨g18,rfl,rfl⟩;refine cX (fj 1 0 rfl rfl rfl rfl rfl rfl (j2 (ys:=[(IntKind.u8.wrap (n_2.toNat:Int))])) (mn (enc:=(eK .u8)) (xs:=out_1) (ys:=[(IntKind.u8.wrap (n_2.toNat:Int))])) g19 a6) ?_;rintro v19 _ ⟨hv19,rfl⟩;refine fm ?_;obtain rfl:=Option.some.inj hk;exact q4S
def zaV (x0_:GWriter):Bool:=
 (decide (x0_.fault.first=0))
theorem zcL (F0:Frz)(w:World)(hF0:F0.At w)(x0_:GWriter)(g0_:Nat)(v0_1:Value)(hO:Hp w (dj [.row g0_ 128 [.int .i64 x0_.fault.first,v0_1], .sl v0_1 5 1 x0_.out.length (x0_.out.flatMap (eK .u8))]) [.row g0_ 128 [.int .i64 x0_.fault.first,v0_1], .sl v0_1 5 1 x0_.out.length (x0_.out.flatMap (eK .u8))] w)(hA:∀g,dj [.row g0_ 128 [.int .i64 x0_.fault.first,v0_1], .sl v0_1 5 1 x0_.out.length (x0_.out.flatMap (eK .u8))] g→¬F0.S g):Calls Tryz.prog 99 #[.pointer (some ⟨g0_,0,none⟩)] w fun e w'=>∃(y:Unit),(True)∧e= .returned (.bool (zaV x0_))∧FxM F0 w (dj [.row g0_ 128 [.int .i64 x0_.fault.first,v0_1], .sl v0_1 5 1 x0_.out.length (x0_.out.flatMap (eK .u8))]) F0 [.row g0_ 128 [.int .i64 x0_.fault.first,v0_1], .sl v0_1 5 1 x0_.out.length (x0_.out.flatMap (eK .u8))] w':=by
 obtain ⟨r,hk⟩:∃r,zaV x0_=r:=⟨_,rfl⟩;rw [hk];unfold zaV at hk;haveI:=iJ (hO.own (.sl v0_1 5 1 x0_.out.length (x0_.out.flatMap (eK .u8))) a8);have hmx0_1:=i3 (hO.own (.sl v0_1 5 1 x0_.out.length (x0_.out.flatMap (eK .u8))) a8);obtain ⟨S0,F1,rfl,hS0,hp0⟩:=ij hF0 hO hA;refine dy (hs:=[.row g0_ 128 [.int .i64 x0_.fault.first,v0_1], .sl v0_1 5 1 x0_.out.length (x0_.out.flatMap (eK .u8)), .fr F1]) Tryz.func99 rfl rfl rfl hp0 ?_;refine eR ?_;refine dk (ι:=Unit) (fun z=>[(2, .bool (decide (x0_.fault.first=0)))]) (fun z=>[.row g0_ 128 [.int .i64 x0_.fault.first,v0_1], .sl v0_1 5 1 x0_.out.length (x0_.out.flatMap (eK .u8)), .fr F1]) (fun z=>True) ?_ ?_
 ·refine fk ?_;refine cR (mZ (e:=128) a7 rfl rfl rfl) ?_;refine fF ?_;refine fy ?_;refine eX ?_;refine kd ?_;exact q4t
 ·rintro _ _;refine T.ret ?_;subst hk;exact q38
def zaL (x0_:GWriter)(l1_:List Int):Option (List Int):=
 (bif decide (65536<(l1_.length:Int)) then
  none
  else
  some l1_)
theorem zcx (F0:Frz)(w:World)(hF0:F0.At w)(x0_:GWriter)(g0_:Nat)(v0_1:Value)[iv0_1:OneC v0_1](l1_:List Int)(v1_:Value)(hO:Hp w (dj [.row g0_ 128 [.int .i64 x0_.fault.first,v0_1], .sl v1_ 5 1 l1_.length (l1_.flatMap (eK .u8))]) [.row g0_ 128 [.int .i64 x0_.fault.first,v0_1], .sl v1_ 5 1 l1_.length (l1_.flatMap (eK .u8))] w)(hA:∀g,dj [.row g0_ 128 [.int .i64 x0_.fault.first,v0_1], .sl v1_ 5 1 l1_.length (l1_.flatMap (eK .u8))] g→¬F0.S g)(r:List Int)(hr:zaL x0_ l1_=some r):Calls Tryz.prog 101 #[.pointer (some ⟨g0_,0,none⟩),v1_] w fun e w'=>∃(y:Value),(True)∧e= .returned (.tuple #[])∧FxM F0 w (dj [.row g0_ 128 [.int .i64 x0_.fault.first,v0_1], .sl v1_ 5 1 l1_.length (l1_.flatMap (eK .u8))]) F0 [.row g0_ 128 [.int .i64 x0_.fault.first,y], .sl y 5 1 r.length (r.flatMap (eK .u8))] w':=by
 have hk:=hr;unfold zaL at hk;haveI:=iJ (hO.own (.sl v1_ 5 1 l1_.length (l1_.flatMap (eK .u8))) a8);have hmx1_:=i3 (hO.own (.sl v1_ 5 1 l1_.length (l1_.flatMap (eK .u8))) a8);obtain ⟨S0,F1,rfl,hS0,hp0⟩:=ij hF0 hO hA;refine dy (hs:=[.row g0_ 128 [.int .i64 x0_.fault.first,v0_1], .sl v1_ 5 1 l1_.length (l1_.flatMap (eK .u8)), .fr F1]) Tryz.func101 rfl rfl rfl hp0 ?_;refine q3L ?_;refine cR (jt 1 rfl rfl rfl) ?_;refine dL ?_;refine T.cond rfl (fun h1=>?_) (fun h1=>?_)
 ·have p1:=of_decide_eq_true h1;replace hk:=dC hk h1;refine T.seq ?_;cases hk
 ·have p1:=of_decide_eq_false h1;replace hk:=dD hk h1;refine T.skip (K.seq (T.region ?_));refine fF ?_;refine fy ?_;refine q2C ?_;refine TL.nil ?_;obtain rfl:=Option.some.inj hk;exact fY rfl (fun w' hw=>⟨v1_,trivial,rfl,dc (hw.pick (idx:=[0,1,2]) rfl a6) hS0 (Frz.Le.refl _)⟩)
def ms (fuel:Nat)(x0_:GWriter)(n:Int):Option (List Int):=
 (bif !(zaV x0_) then
  some x0_.out
  else
  (bif decide (n<0) then
   none
   else
   (zb1 fuel x0_.out (BitVec.ofInt 64 n)).bind fun r20=>
   (zaL x0_ r20).bind fun r21=>
   some r21))
theorem zaJ (F0:Frz)(w:World)(hF0:F0.At w)(x0_:GWriter)(g0_:Nat)(v0_1:Value)(n:Int)(hO:Hp w (dj [.row g0_ 128 [.int .i64 x0_.fault.first,v0_1], .sl v0_1 5 1 x0_.out.length (x0_.out.flatMap (eK .u8))]) [.row g0_ 128 [.int .i64 x0_.fault.first,v0_1], .sl v0_1 5 1 x0_.out.length (x0_.out.flatMap (eK .u8))] w)(hA:∀g,dj [.row g0_ 128 [.int .i64 x0_.fault.first,v0_1], .sl v0_1 5 1 x0_.out.length (x0_.out.flatMap (eK .u8))] g→¬F0.S g)(fuel:Nat)(r:List Int)(hr:ms fuel x0_ n=some r):Calls Tryz.prog 68 #[.pointer (some ⟨g0_,0,none⟩), .int .i64 n] w fun e w'=>∃(y:Value),(True)∧e= .returned (.tuple #[])∧FxM F0 w (dj [.row g0_ 128 [.int .i64 x0_.fault.first,v0_1], .sl v0_1 5 1 x0_.out.length (x0_.out.flatMap (eK .u8))]) F0 [.row g0_ 128 [.int .i64 x0_.fault.first,y], .sl y 5 1 r.length (r.flatMap (eK .u8))] w':=by
 have hk:=hr;unfold ms at hk;haveI:=iJ (hO.own (.sl v0_1 5 1 x0_.out.length (x0_.out.flatMap (eK .u8))) a8);have hmx0_1:=i3 (hO.own (.sl v0_1 5 1 x0_.out.length (x0_.out.flatMap (eK .u8))) a8);obtain ⟨S0,F1,rfl,hS0,hp0⟩:=ij hF0 hO hA;refine dy (hs:=[.row g0_ 128 [.int .i64 x0_.fault.first,v0_1], .sl v0_1 5 1 x0_.out.length (x0_.out.flatMap (eK .u8)), .fr F1]) Tryz.func68 rfl rfl rfl hp0 ?_;refine q3L ?_;refine cX (dI [0,1,2] [.row g0_ 128 [.int .i64 x0_.fault.first,v0_1], .sl v0_1 5 1 x0_.out.length (x0_.out.flatMap (eK .u8))] [] rfl rfl rfl rfl a6 (fun w hw hw2 hF=>zcL _ w hF x0_ g0_ v0_1 hw2.takes.1 hw2.takes.2)) ?_;rintro _ _ ⟨⟨⟩, -,rfl,rfl⟩;refine m5 ?_;refine T.cond rfl (fun h1=>?_) (fun h1=>?_)
 ·replace hk:=dC hk h1;refine T.ret (cV ?_);obtain rfl:=Option.some.inj hk;exact kV rfl (fun w' hw=>⟨v0_1,trivial,rfl,dc (hw.pick (idx:=[0,1,2]) rfl a6) hS0 (Frz.Le.refl _)⟩)
 ·replace hk:=dD hk h1;refine ke ?_;refine kz ?_;refine T.cond rfl (fun h2=>?_) (fun h2=>?_)
  ·have p2:=of_decide_eq_true h2;replace hk:=dC hk h2;refine T.seq ?_;cases hk
  ·have p2:=of_decide_eq_false h2;replace hk:=dD hk h2;refine kP ?_;have hq:=dV hk;clear hk;obtain ⟨r20,hr20,hk⟩:=hq;have hq:=dV hk;clear hk;obtain ⟨r21,hr21,hk⟩:=hq; (try dsimp only at hk);refine lU ?_;refine eX ?_;refine dp ?_;refine cR (Yv.bK (z:=n) rfl rfl) ?_;refine cX (dI [1,2,0] [.sl v0_1 5 1 x0_.out.length (x0_.out.flatMap (eK .u8))] [.row g0_ 128 [.int .i64 x0_.fault.first,v0_1]] rfl rfl rfl rfl a6 (fun w hw hw2 hF=>zhH _ w hF x0_.out v0_1 (BitVec.ofInt 64 n) hw2.takes.1 hw2.takes.2 fuel r20 hr20)) ?_;rintro v20_0_0 _ ⟨_, -,rfl,rfl⟩;refine q23 ?_;intro iv20_0_0 hmv20_0_0;refine cX (dI [2,0,1] [.row g0_ 128 [.int .i64 x0_.fault.first,v0_1], .sl v20_0_0 5 1 r20.length (r20.flatMap (eK .u8))] [] rfl rfl rfl rfl a6 (fun w hw hw2 hF=>zcx _ w hF x0_ g0_ v0_1 r20 v20_0_0 hw2.takes.1 hw2.takes.2 r21 hr21)) ?_;rintro _ _ ⟨v21_0_1, -,rfl,rfl⟩;refine q3t ?_;intro iv21_0_1 hmv21_0_1;refine TL.nil ?_;obtain rfl:=Option.some.inj hk;exact fY rfl (fun w' hw=>⟨v21_0_1,trivial,rfl,dc (hw.pick (idx:=[0,1,2]) rfl a6) hS0 (Frz.Le.refl _)⟩)
def za2 (x0_:GWriter):Option (List Int×Int):=
 (bif decide (¬x0_.fault.first=0) then
  some ([],x0_.fault.first)
  else
  dU (dd ([]++x0_.out).length 1) <|
  some (([]++x0_.out),0))
theorem zcU (F0:Frz)(w:World)(hF0:F0.At w)(x0_:GWriter)(g0_:Nat)(v0_1:Value)(hO:Hp w (dj [.row g0_ 128 [.int .i64 x0_.fault.first,v0_1], .sl v0_1 5 1 x0_.out.length (x0_.out.flatMap (eK .u8))]) [.row g0_ 128 [.int .i64 x0_.fault.first,v0_1], .sl v0_1 5 1 x0_.out.length (x0_.out.flatMap (eK .u8))] w)(hA:∀g,dj [.row g0_ 128 [.int .i64 x0_.fault.first,v0_1], .sl v0_1 5 1 x0_.out.length (x0_.out.flatMap (eK .u8))] g→¬F0.S g)(r:List Int×Int)(hr:za2 x0_=some r):Calls Tryz.prog 69 #[.pointer (some ⟨g0_,0,none⟩)] w fun e w'=>∃(y:Value),(True)∧e= .returned (.tuple #[y, .int .i64 r.2])∧FxM F0 w (dj [.row g0_ 128 [.int .i64 x0_.fault.first,v0_1], .sl v0_1 5 1 x0_.out.length (x0_.out.flatMap (eK .u8))]) F0 [.row g0_ 128 [.int .i64 x0_.fault.first,v0_1], .sl v0_1 5 1 x0_.out.length (x0_.out.flatMap (eK .u8)), .sl y 5 1 r.1.length (r.1.flatMap (eK .u8))] w':=by
 have hk:=hr;unfold za2 at hk;haveI:=iJ (hO.own (.sl v0_1 5 1 x0_.out.length (x0_.out.flatMap (eK .u8))) a8);have hmx0_1:=i3 (hO.own (.sl v0_1 5 1 x0_.out.length (x0_.out.flatMap (eK .u8))) a8);obtain ⟨S0,F1,rfl,hS0,hp0⟩:=ij hF0 hO hA;refine dy (hs:=[.row g0_ 128 [.int .i64 x0_.fault.first,v0_1], .sl v0_1 5 1 x0_.out.length (x0_.out.flatMap (eK .u8)), .fr F1]) Tryz.func69 rfl rfl rfl hp0 ?_;refine gh ?_;refine TL.slNil 5 1 ?_;refine l5 ?_;refine cR (m6 (e:=128) a7 rfl rfl rfl) ?_;refine ly ?_;refine ke ?_;refine ez ?_;refine fy ?_;refine j5 ?_;refine dL ?_;refine T.cond rfl (fun h1=>?_) (fun h1=>?_)
 ·have p1:=of_decide_eq_true h1;replace hk:=dC hk h1;refine q3I ?_;refine jl ?_;refine iN ?_;refine cZ rfl (da 1) ?_;refine gj ?_;refine TS.slNil 5 1 ?_;refine q0N ?_;refine K.seq (T.ret (cV ?_));obtain rfl:=Option.some.inj hk;exact eC rfl rfl rfl (fun w' hw=>⟨(.slice none 0 0),trivial,rfl,dc (hw.pick (idx:=[2,3,0,4]) rfl a6) hS0 (Frz.Le.refl _)⟩)
 ·have p1:=of_decide_eq_false h1;replace hk:=dD hk h1;refine iK ?_;have hq:(dd ([]++x0_.out).length 1)∧_:=eW hk;clear hk;obtain ⟨g21,hk⟩:=hq; (try dsimp only at hk);refine gp ?_;refine j5 ?_;refine TL.slNil 5 1 ?_;refine cX (Ew.ce 0 3 (zmh (fun _=>inferInstance)) rfl rfl rfl rfl rfl (zlV ([]:List Int) x0_.out) (zlg (enc:=(eK .u8)) ([]:List Int) x0_.out) g21 a6) ?_;rintro v21 _ ⟨hv21,rfl⟩;refine jP ?_;obtain rfl:=Option.some.inj hk;exact eC rfl rfl rfl (fun w' hw=>⟨v21,trivial,rfl,dc (hw.pick (idx:=[2,3,0,4]) rfl a6) hS0 (Frz.Le.refl _)⟩)
end Go.Proofs.YtogbggmckmnlfaaGreatDoor
namespace Go.Proofs.YtogbggmckmnlfaaGreatDoor
open Go.RowKit Go.Sort
section
variable {Fe:Fence}[hFe:Calm Fe]{P:Program}{n:Nat}{B D w:World}{M S0:Nat→Prop}{Q:Exit→Act→World→Prop}{fs:dW}{hs:HS}{ops:Array Oper}
theorem Hp.litO {j g k m size:Nat}{t:TypeId}{l l2:List Value}(hw:Hp B M hs w)(hj:hs[j]?=some (.row g t l))(he:l2=l)(hk:k=m)(hl:l.length=m*size)(hn:m≤1000):Hp B M (hs.set j (.sl (.slice (some ⟨g,0,none⟩) m m) t size k l2)) w:=by
 subst he;subst hk;have hr:=c9.1 (hw.get hj);refine hw.updAt (S:=fun _=>False) hj (Only.refl _ _) (fun _ _ h=>h.elim) (c6.2 ⟨hl, .inr ⟨g,k,_,rfl,Nat.zero_le _,hr,Nat.le_refl _,by unfold maxLen;omega,by simpa using hl,?_⟩⟩) (fun q hq=> .inl ?_)
 ·rw [←hl];simp
 ·have h1:=dg.1 hq;simp only [Value.ownBlock,Option.some.injEq] at h1;exact cY.2 h1.symm
theorem TL.litO {r:List Oper}{g k m size:Nat}{t:TypeId}{l l2:List Value}(j:Nat)(hj:hs[j]?=some (.row g t l))(he:l2=l)(hk:k=m)(hl:l.length=m*size)(hn:m≤1000)(h:TL Fe P n B D M ops Q r fs (hs.set j (.sl (.slice (some ⟨g,0,none⟩) m m) t size k l2))):TL Fe P n B D M ops Q r fs hs:=
 ji (ι:=Unit) (φ:=fun _=>True) (hs':=fun _=>hs.set j (.sl (.slice (some ⟨g,0,none⟩) m m) t size k l2)) (fun w hw=>⟨(),trivial,hw.litO hj he hk hl hn⟩) (fun _ _=>h)
end
def zkx:Go.Shelf.Ren:=⟨fun|35=>49|n=>n,fun|0=>0|3=>3|4=>4|22=>31|23=>50|n=>n,fun|n=>n⟩
theorem zn0:Go.Proofs.SlLaysE.n35 Tryz.prog zkx:={
 mixed:=by kernel_rfl
 f35:=⟨Tryz.f49.name,by decide,Tryz.func49.trans (congrArg some a7)⟩
 t0:=Tryz.underlying0
 a0:=Tryz.isAgg0
 z0:=Tryz.sizeOf0
 v0:=Tryz.zeroValue0
 t3:=Tryz.underlying3
 a3:=Tryz.isAgg3
 z3:=Tryz.sizeOf3
 v3:=Tryz.zeroValue3
 t4:=Tryz.underlying4
 a4:=Tryz.isAgg4
 z4:=Tryz.sizeOf4
 v4:=Tryz.zeroValue4
 t22:=Tryz.underlying31
 a22:=Tryz.isAgg31
 z22:=Tryz.sizeOf31
 v22:=Tryz.zeroValue31
 a23:=Tryz.isAgg50
 z23:=Tryz.sizeOf50 }
abbrev km:={ v:Value // v.oneCell'=true }
instance:Inhabited km:=⟨⟨.int .i64 0,rfl⟩⟩
def iQ (x:km):Value:=x.1
theorem zlL:OneCell iQ:=fun x=>x.2
theorem mapV {l:List Value}(h:∀v∈l,v.oneCell'=true):∃zs:List km,zs.map iQ=l:=by
 induction l with
 |nil=>exact ⟨[],rfl⟩
 |cons v l ih=>
  obtain ⟨zs,hz⟩:=ih fun u hu=>h u (List.mem_cons_of_mem _ hu);exact ⟨⟨v,h v (List.mem_cons_self ..)⟩ :: zs,by rw [List.map_cons,hz];rfl⟩
theorem revE (blk off cap : Nat) (zs : List km) (w : World) (hH : Holds iQ w blk off zs.toArray) (hsz : zs.length ≤ 9223372036854775807) :
    Calls Tryz.prog 49 #[.slice (some ⟨blk, off, none⟩) zs.length cap] w fun e w' => e = .returned (.tuple #[]) ∧ ∃ n, w' = putRow iQ (Sort.ahead w n) blk off zs.reverse.toArray := AnyE.slices_Reverse zn0 iQ zlL blk off cap zs w hH hsz
theorem revE0 (a : Option Addr) (cap : Nat) (w : World) :
    Calls Tryz.prog 49 #[.slice a 0 cap] w fun e w' => e = .returned (.tuple #[]) ∧ w' = w := AnyE.slices_Reverse_empty zn0 a cap w
section
variable {w:World}{g n:Nat}{cur:Array Value}{e:TypeId}{zs:List km}
theorem zn8 (hb:w.heap[g]?=some (.cells cur e (0,0)))(ht:cur.toList.take zs.length=zs.map iQ):Holds iQ w g 0 zs.toArray:=by
 intro j hj; (have hj':j<zs.length:=by simpa using hj);refine ⟨?_,by simp [World.frozen?,hb]⟩; (have h1:(cur.toList.take zs.length)[j]?=(zs.map iQ)[j]?:=by rw [ht]);rw [List.getElem?_take_of_lt hj'] at h1;simp only [World.cell?,hb,Nat.zero_add];simp only [Option.isSome_none,Bool.false_eq_true,if_false];rw [←Array.getElem?_toList,h1];simp [hj']
theorem heapV (d:Array km)(hb:w.heap[g]?=some (.cells cur e (0,0))):(putRow iQ (Sort.ahead w n) g 0 d).heap[g]?=some (.cells (putCells iQ 0 d cur) e (0,0)):=by
 have hg:g<w.heap.size:=(Array.getElem?_eq_some_iff.1 hb).1;simp [putRow,mapBlock,Sort.ahead,Array.getElem?_modify,hb,onCells]
theorem onlyV (d:Array km){v:Value}{size k:Nat}{l:List Value}(hv:v.ownBlock=some g):Only (Ent.sl v e size k l).fp w (putRow iQ (Sort.ahead w n) g 0 d):=by
 refine ⟨rfl,rfl,rfl,by simp [putRow,mapBlock,Sort.ahead],fun k hk hn=>?_⟩;have:g≠k:=fun q=>hn (dg.2 (by rw [hv,q]));simp [putRow,mapBlock,Sort.ahead,Array.getElem?_modify,this]
theorem takeV (ts:List km)(h:ts.length≤cur.size):(putCells iQ 0 ts.toArray cur).toList.take ts.length=ts.map iQ:=by
 apply List.ext_getElem?;intro j;by_cases hj:j<ts.length
 ·rw [List.getElem?_take_of_lt hj,Array.getElem?_toList];simp [putCells,hj,show j<cur.size by omega]
 ·rw [List.getElem?_take_eq_none a5,List.getElem?_eq_none cN]
end
theorem zny {w:World}{v0:Value}{cells:List Value}(hc:∀v∈cells,v.oneCell'=true)(hk:(Ent.sl v0 50 1 cells.length cells).ok w):Calls Tryz.prog 49 #[v0] w fun e w'=>e= .returned (.tuple #[])∧Only (Ent.sl v0 50 1 cells.length cells).fp w w'∧(Ent.sl v0 50 1 cells.length cells.reverse).ok w':=by
 have ho:=c6.1 hk;obtain ⟨zs,rfl⟩:=mapV hc;rcases ho.2 with ⟨rfl,h0⟩|⟨g,cap,cur,rfl,hb,hg,h1,h2,h3,h4⟩
 ·rw [List.length_map] at h0;obtain rfl:=List.eq_nil_of_length_eq_zero h0;refine (revE0 none 0 w).mono ?_;rintro e w' ⟨rfl,rfl⟩;exact ⟨rfl,Only.refl _ _,hk⟩
 ·rw [Nat.mul_one] at h3 h4;rw [List.length_map] at h1 h4 ⊢;refine (revE g 0 cap zs w (zn8 hg h4) (by unfold maxLen at h2;omega)).mono ?_;rintro e w' ⟨rfl,n,rfl⟩;refine ⟨rfl,onlyV _ rfl,c6.2 ⟨by simp, .inr ⟨g,cap,_,rfl,Nat.zero_le _,heapV _ hg,h1,h2,by simp [putCells,h3],?_⟩⟩⟩;rw [Nat.mul_one,←List.map_reverse];have:=takeV (cur:=cur) zs.reverse (by rw [List.length_reverse];omega)
  rwa [List.length_reverse] at this
theorem FxM.one {F0:Frz}{w w':World}{E E':Ent}(hF0:F0.At w)(hO:Hp w (dj [E]) [E] w)(hA:∀g,dj [E] g→¬F0.S g)(ho:Only E.fp w w')(hok:E'.ok w')(hfp:∀g,E'.fp g→E.fp g∨w.heap.size≤g):FxM F0 w (dj [E]) F0 [E'] w':=by
 obtain ⟨S0,G,rfl,hS,h⟩:=ij hF0 hO hA;refine dc (es:=[E']) (ii (es:=[E]) (es':=[E']) (hs:=[.fr G]) h ho (fun g _ hg=>⟨E,by simp,hg⟩) (fun e he=>?_) (fun e he g hg=>?_) (List.pairwise_singleton _ _)) hS (Frz.Le.refl _)
 ·obtain rfl:=List.mem_singleton.1 he;exact hok
 ·obtain rfl:=List.mem_singleton.1 he;exact (hfp g hg).imp (fun h=>⟨E,by simp,h⟩) id
def zdt (l:List (List GChoice)):List (List GChoice):=l.reverse
theorem m0 {α:Type}[Inhabited α]{rep:Frz→List Value→α→Prop}{F:Frz}{size:Nat}{cs:List (List Value)}{xs:List α}(h:OwnD rep F size cs xs):OwnD rep F size cs.reverse xs.reverse:=by
 refine ⟨by rw [List.length_reverse,List.length_reverse];exact h.1,fun c hc=>h.2.1 c (List.mem_reverse.1 hc),fun i hi=>?_⟩;rw [List.length_reverse] at hi
 have e1:cQ cs.reverse i=cQ cs (xs.length - 1 - i):=by
  have:=h.1;rw [eh (by rw [List.length_reverse];omega),eh a5,List.getElem_reverse]
  congr 1;omega
 have e2:cQ xs.reverse i=cQ xs (xs.length - 1 - i):=by
  rw [eh (by rw [List.length_reverse];omega),eh a5,List.getElem_reverse]
 rw [e1,e2];exact h.2.2 _ a5
theorem zjK:∀ {cs:List (List Value)},(∀c∈cs,c.length=1)→cs.reverse.flatten=cs.flatten.reverse
 | [],_=>rfl
 |c :: cs,h=>by
  rw [List.reverse_cons,List.flatten_append,show (c :: cs).flatten=c++cs.flatten from rfl,List.reverse_append,zjK fun d hd=>h d (List.mem_cons_of_mem _ hd)]
  congr 1
  have hc:=h c (List.mem_cons_self ..)
  match c,hc with
  | [v],_=>rfl
theorem zmu:∀ {cs:List (List Value)},(∀c∈cs,c.length=1)→cs.flatten.length=cs.length
 | [],_=>rfl
 |c :: cs,h=>by
  rw [List.flatten_cons,List.length_append,zmu fun d hd=>h d (List.mem_cons_of_mem _ hd),h c (List.mem_cons_self ..),List.length_cons];omega
theorem zhx (F0 : Frz) (w : World) (hF0 : F0.At w) (l0_ : List (List GChoice)) (v0_ : Value) (c0_ : List (List Value)) (h0_ : OwnD cP F0 1 c0_ l0_) (hO : Hp w (dj [.sl v0_ 50 1 l0_.length c0_.flatten]) [.sl v0_ 50 1 l0_.length c0_.flatten] w) (hA : ∀ g, dj [.sl v0_ 50 1 l0_.length c0_.flatten] g → ¬ F0.S g) :
    Calls Tryz.prog 49 #[v0_] w fun e w' => ∃ (y : List (List Value)), (OwnD cP F0 1 y (zdt l0_)) ∧ e = .returned (.tuple #[]) ∧ FxM F0 w (dj [.sl v0_ 50 1 l0_.length c0_.flatten]) F0 [.sl v0_ 50 1 (zdt l0_).length y.flatten] w' := by
  have hk := hO.own _ (List.mem_cons_self ..); (have hl : c0_.flatten.length = l0_.length := by rw [zmu h0_.2.1, h0_.1])
  have h1 : ∀ v ∈ c0_.flatten, v.oneCell' = true := fun v hv => by
    obtain ⟨c, hc, hv⟩ := List.mem_flatten.1 hv; obtain ⟨i, hi, rfl⟩ := List.mem_iff_getElem.1 hc; have := h0_.2.2 i (by have := h0_.1; omega); rw [eh hi] at this; exact (R_List_GChoice.one this).h v hv
  rw [← hl] at hk;refine (zny h1 hk).mono ?_; rintro e w' ⟨rfl, h2, h3⟩; rw [hl] at h2 h3;refine ⟨c0_.reverse, m0 h0_, rfl, FxM.one hF0 hO hA h2 ?_ fun g h => .inl (dg.2 (dg.1 h))⟩; unfold zdt; rw [List.length_reverse, zjK h0_.2.1]; exact h3
end Go.Proofs.YtogbggmckmnlfaaGreatDoor
namespace Go.Proofs.YtogbggmckmnlfaaGreatDoor
open Go.RowKit
structure GProof where
 Stations:List Int
 Lemmas:List (List GChoice)
deriving DecidableEq,Inhabited
def eF (F:Frz)(c:List Value)(x:GProof):Prop:=∃(v0:Value) (v1:Value) (cs1:List (List Value)),c=[v0,v1]∧SlC F v0 1 (x.Stations.map eI)∧SlD cP F v1 1 cs1 x.Lemmas
theorem GProof.mono {F G:Frz}{c:List Value}{x:GProof}(hle:F.Le G)(h:eF F c x):eF G c x:=by
 obtain ⟨v0,v1,cs1,h0,h1,h2⟩:=h;exact ⟨v0,v1,cs1,h0,h1.mono hle,SlD.mono (rep:=cP) (fun _ _ _ _=>R_List_GChoice.mono) h2 hle⟩
theorem GProof.len {F:Frz}{c:List Value}{x:GProof}(h:eF F c x):c.length=2:=by
 obtain ⟨v0,v1,cs1,h0,h1,h2⟩:=h;subst h0;rfl
theorem GProof.one {F:Frz}{c:List Value}{x:GProof}(h:eF F c x):OneCs c:=by
 obtain ⟨v0,v1,cs1,h0,h1,h2⟩:=h;subst h0;haveI:=h1.oneC;haveI:=h2.1.oneC
 infer_instance
theorem GProof.c0 {F:Frz}{c:List Value}{x:GProof}(h:eF F c x):c[0]?=some (cQ c 0)∧SlC F (cQ c 0) 1 (x.Stations.map eI):=by
 obtain ⟨v0,v1,cs1,h0,h1,h2⟩:=h;subst h0;exact ⟨rfl,h1⟩
theorem GProof.c1 {F:Frz}{c:List Value}{x:GProof}(h:eF F c x):c[1]?=some (cQ c 1)∧∃cs,SlD cP F (cQ c 1) 1 cs x.Lemmas:=by
 obtain ⟨v0,v1,cs1,h0,h1,h2⟩:=h;subst h0;exact ⟨rfl,cs1,h2⟩
theorem GProof.form {F:Frz}{c:List Value}{x:GProof}(h:eF F c x):(c.drop 0).take 2=[cQ c 0,cQ c 1]:=by
 obtain ⟨v0,v1,cs1,h0,h1,h2⟩:=h;subst h0;rfl
def zbZ (x_:GProof):Option Bool:=
 (zb5 [] x_.Stations).bind fun r14=>
 (bif decide (¬r14.2=0) then
  some false
  else
  (bif ((decide ((x_.Lemmas.length:Int)<1))||(decide (4096<(x_.Lemmas.length:Int)))) then
   some false
   else
   (zb6 x_.Stations).bind fun r32=>
   dN (fun (_:Unit)=>
    some true)
   (fun k4=>
    di (fun (i_6:Nat) (next5:Unit→Option Bool) (_:Unit)=>
     (bif ((!(kX (cQ x_.Lemmas i_6)))||(!((decide (((cQ x_.Lemmas i_6).length:Int)=0)) == (decide ((i_6:Int)=((x_.Lemmas.length:Int) - 1)))))) then
      some false
      else
      di (fun (i_11:Nat) (next10:Unit→Option Bool) (_:Unit)=>
       (lu r32.1 ((cQ (cQ x_.Lemmas i_6) i_11).Station)).bind fun r67=>
       (bif !r67 then
        some false
        else
        next10 ()))
      (fun (_:Unit)=>
       next5 ()) (((cQ x_.Lemmas i_6).length) - 0) 0 ()))
    (fun (_:Unit)=>
     k4 ()) (x_.Lemmas.length - 0) 0 ())))
theorem zdZ (F0:Frz)(w:World)(hF0:F0.At w)(x_:GProof)(vx__0:Value)(hx__0:SlC F0 vx__0 1 (x_.Stations.map eI))(vx__1:Value)(cx__1:List (List Value))(hx__1:SlD cP F0 vx__1 1 cx__1 x_.Lemmas)(r:Bool)(hr:zbZ x_=some r):Calls Tryz.prog 13 #[.agg [vx__0,vx__1].toArray] w fun e w'=>e= .returned (.bool r)∧Below w.heap.size w w':=by
 have hk:=hr;unfold zbZ at hk;haveI:=hx__0.oneC;haveI:=hx__1.1.oneC;obtain ⟨S0,F1,rfl,hS0,hp0⟩:=fE hF0;refine dy Tryz.func13 rfl rfl rfl hp0 ?_;refine kg ?_;rintro _ _ ⟨g1,rfl,rfl⟩;refine dp ?_;refine iZ ?_;have hq:=dV hk;clear hk;obtain ⟨r14,hr14,hk⟩:=hq; (try dsimp only at hk);refine q3S ?_;refine cX (eg 1 rfl rfl rfl rfl (fun w hw hF=>zgS _ w hF [] (.slice none 0 0) (SlC.nil _ 2) x_.Stations vx__0 hx__0 r14 hr14)) ?_;rintro _ _ ⟨v14_0_0,F2,le1_2,hf14_0_0,rfl,rfl⟩;haveI:=hf14_0_0.oneC;refine kb ?_;refine dR ?_;refine kz ?_;refine T.cond rfl (fun h1=>?_) (fun h1=>?_)
 ·have p1:=of_decide_eq_true h1;replace hk:=dC hk h1;refine hD ?_;obtain rfl:=Option.some.inj hk;exact eY
 ·have p1:=of_decide_eq_false h1;replace hk:=dD hk h1;refine q3m ?_;refine dk (ι:=Unit) (fun z=>[(1, .pointer (some ⟨g1,0,none⟩)),(28, .bool ((decide ((x_.Lemmas.length:Int)<1))||(decide (4096<(x_.Lemmas.length:Int)))))]) (fun z=>[.row g1 33 [vx__0,vx__1], .fr F2]) (fun z=>True) ?_ ?_
  ·refine q3S ?_;refine q0V ?_;have hm21:x_.Lemmas.length≤9223372036854775807:=(SlD.mono (rep:=cP) (fun _ _ _ _=>R_List_GChoice.mono) hx__1 le1_2).2.1▸(SlD.mono (rep:=cP) (fun _ _ _ _=>R_List_GChoice.mono) hx__1 le1_2).1.max;refine ez ?_;refine dO rfl rfl rfl (fun h2=>?_) (fun h2=>?_)
   ·have p2:=of_decide_eq_true h2;refine mi ?_;exact c4 () trivial (.c (.b (jA h2).symm .nil)) (List.Sublist.refl _)
   ·have p2:=of_decide_eq_false h2;refine eX ?_;refine q0V ?_;refine q1W ?_;exact c4 () trivial (.c (.b (iC h2) .nil)) (List.Sublist.refl _)
  ·rintro _ _;refine T.cond rfl (fun h3=>?_) (fun h3=>?_)
   ·replace hk:=dC hk h3;refine hD ?_;obtain rfl:=Option.some.inj hk;exact eY
   ·have p3:=h3; (try simp only [c7] at p3);replace hk:=dD hk h3;refine iK ?_;have hq:=dV hk;clear hk;obtain ⟨r32,hr32,hk⟩:=hq; (try dsimp only at hk);refine q3S ?_;refine cX (cS rfl rfl rfl (fun w hw=>zd8 _ w (hw.fr (i:=1) rfl) x_.Stations vx__0 (SlC.mono hx__0 le1_2) r32 hr32)) ?_;refine fb ?_;refine fF ?_;refine q1K ?_;rintro _ _ ⟨g5,rfl,rfl⟩;refine q1p ?_;refine i2 ?_;refine j5 ?_;refine q0V ?_;have hm37:x_.Lemmas.length≤9223372036854775807:=(SlD.mono (rep:=cP) (fun _ _ _ _=>R_List_GChoice.mono) hx__1 le1_2).2.1▸(SlD.mono (rep:=cP) (fun _ _ _ _=>R_List_GChoice.mono) hx__1 le1_2).1.max;refine dL ?_;have hq:=eN hk;clear hk;obtain ⟨k4,hk4,hk⟩:=hq; (try dsimp only at hk);refine dk (ι:=Unit) (fun z=>[]) (fun z=>[.fr F2]) (fun z=>k4 ()=some r) ?_ ?_
    ·have hq:=fS hk;clear hk;obtain ⟨f5,kk5,hf5,hkk5,hk⟩:=hq;refine fJ ?_;refine T.loop (ι:=Nat) (fun z=>[(1, .pointer (some ⟨g1,0,none⟩)),(5, .pointer (some ⟨g5,0,none⟩)),(36,vx__1),(37, .int .i64 (x_.Lemmas.length:Int)),(38, .int .i64 (z:Int))]) (fun z=>[.row g5 83 (r32.1.words.1.map U), .row g1 33 [vx__0,vx__1], .fr F2]) (fun z=>di f5 kk5 (x_.Lemmas.length - z) z ()=some r) (fun z=>x_.Lemmas.length - z) 0 ?_ ?_ ?_ ?_
     ·exact hk
     ·exact l9
     ·exact fx
     ·rintro i_6 hk;refine eR ?_;refine T.cond rfl (fun h7=>?_) (fun h7=>?_)
      ·have p7:=of_decide_eq_true h7;rw [fT a5] at hk;generalize hn5:di f5 kk5 (x_.Lemmas.length - (i_6+1)) (i_6+1)=next5 at hk;rw [←hf5] at hk; (try dsimp only at hk);refine fH ?_;refine dp ?_;refine cR (dH (i:=i_6) rfl rfl rfl (SlD.mono (rep:=cP) (fun _ _ _ _=>R_List_GChoice.mono) hx__1 le1_2).1 (SlD.mono (rep:=cP) (fun _ _ _ _=>R_List_GChoice.mono) hx__1 le1_2).2.1 rfl a5) ?_;refine cR (eo 2 (i:=i_6) (j:=0) rfl rfl rfl (SlD.mono (rep:=cP) (fun _ _ _ _=>R_List_GChoice.mono) hx__1 le1_2).1 (SlD.mono (rep:=cP) (fun _ _ _ _=>R_List_GChoice.mono) hx__1 le1_2).2.1 a5 rfl (R_List_GChoice.c0 ((SlD.mono (rep:=cP) (fun _ _ _ _=>R_List_GChoice.mono) hx__1 le1_2).2.2 i_6 a5)).1) ?_;have hd42_0:=(R_List_GChoice.c0 ((SlD.mono (rep:=cP) (fun _ _ _ _=>R_List_GChoice.mono) hx__1 le1_2).2.2 i_6 a5)).2;haveI:=hd42_0.oneC;refine ez ?_;refine iZ ?_;refine dk (ι:=Unit) (fun z=>[(1, .pointer (some ⟨g1,0,none⟩)),(5, .pointer (some ⟨g5,0,none⟩)),(8,(cQ (cQ cx__1 i_6) 0)),(36,vx__1),(37, .int .i64 (x_.Lemmas.length:Int)),(38, .int .i64 (i_6:Int)),(57, .bool ((!(kX (cQ x_.Lemmas i_6)))||(!((decide (((cQ x_.Lemmas i_6).length:Int)=0)) == (decide ((i_6:Int)=((x_.Lemmas.length:Int) - 1)))))))]) (fun z=>[.row g5 83 (r32.1.words.1.map U), .row g1 33 [vx__0,vx__1], .fr F2]) (fun z=>True) ?_ ?_
       ·refine fk ?_;refine cX (cS rfl rfl rfl (fun w hw=>zcl _ w (hw.fr (i:=2) rfl) (cQ x_.Lemmas i_6) (cQ (cQ cx__1 i_6) 0) hd42_0)) ?_;refine fb ?_;refine ez ?_;refine dO rfl rfl rfl (fun h8=>?_) (fun h8=>?_)
        ·refine TL.run 11 rfl ?_;refine TL.nil ?_;exact c4 () trivial (.c (.c (.c (.c (.c (.c (.b (jA h8).symm .nil))))))) (List.Sublist.refl _)
        ·refine dp ?_;refine cR (dA rfl rfl hd42_0 (List.length_map _)) ?_;have hm48:(cQ x_.Lemmas i_6).length≤9223372036854775807:=(List.length_map _)▸hd42_0.max;refine ez ?_;refine j5 ?_;refine q0V ?_;refine q15 ?_;refine dp ?_;refine cR (Yv.cA a7 rfl rfl rfl) ?_;refine dp ?_;refine TL.nil ?_;exact c4 () trivial (.c (.c (.c (.c (.c (.c (.b (iC h8) .nil))))))) (List.Sublist.refl _)
       ·rintro _ _;have hm48:(cQ x_.Lemmas i_6).length≤9223372036854775807:=(List.length_map _)▸hd42_0.max;refine T.cond rfl (fun h9=>?_) (fun h9=>?_)
        ·replace hk:=dC hk h9;refine gh ?_;refine ml ?_;obtain rfl:=Option.some.inj hk;exact eY
        ·replace hk:=dD hk h9;refine gW ?_;refine dp ?_;refine cR (dA rfl rfl hd42_0 (List.length_map _)) ?_;refine dL ?_;have hq:=fS hk;clear hk;obtain ⟨f10,kk10,hf10,hkk10,hk⟩:=hq;refine fJ ?_;refine T.loop (ι:=Nat) (fun z=>[(1, .pointer (some ⟨g1,0,none⟩)),(5, .pointer (some ⟨g5,0,none⟩)),(36,vx__1),(37, .int .i64 (x_.Lemmas.length:Int)),(38, .int .i64 (i_6:Int)),(58,(cQ (cQ cx__1 i_6) 0)),(59, .int .i64 ((cQ x_.Lemmas i_6).length:Int)),(60, .int .i64 (z:Int))]) (fun z=>[.row g5 83 (r32.1.words.1.map U), .row g1 33 [vx__0,vx__1], .fr F2]) (fun z=>di f10 kk10 (((cQ x_.Lemmas i_6).length) - z) z ()=some r) (fun z=>((cQ x_.Lemmas i_6).length) - z) 0 ?_ ?_ ?_ ?_
         ·exact hk
         ·exact (.c (.c (.c (.c (.c (.c (.c (.c .nil))))))))
         ·exact fx
         ·rintro i_11 hk;refine eR ?_;refine T.cond rfl (fun h12=>?_) (fun h12=>?_)
          ·have p12:=of_decide_eq_true h12;rw [fT a5] at hk;generalize hn10:di f10 kk10 (((cQ x_.Lemmas i_6).length) - (i_11+1)) (i_11+1)=next10 at hk;rw [←hf10] at hk; (try dsimp only at hk);refine fH ?_;refine cR (dH (i:=i_11) rfl rfl rfl hd42_0 (List.length_map _) rfl a5) ?_;refine cR (fV 2 (i:=i_11) rfl rfl rfl hd42_0 a5) ?_;refine gw ?_;rintro _ _ ⟨g10,rfl,rfl⟩;refine iW ?_;refine gU ?_;have hq:=dV hk;clear hk;obtain ⟨r67,hr67,hk⟩:=hq; (try dsimp only at hk);refine fg ?_;refine cR (dY 1 rfl rfl rfl Vec.len) ?_;refine eX ?_;refine cX (cS rfl rfl rfl (fun w hw=>zaE _ w (hw.fr (i:=3) rfl) r32.1 ((cQ (cQ x_.Lemmas i_6) i_11).Station) r67 hr67)) ?_;refine fb ?_;refine dL ?_;refine T.cond rfl (fun h13=>?_) (fun h13=>?_)
           ·replace hk:=dC hk h13;refine gh ?_;refine TL.ns (T.ret (ff (cV (cV (ff (ff (cV (cV (ff (cV ?_))))))))));obtain rfl:=Option.some.inj hk;exact eY
           ·replace hk:=dD hk h13;refine gZ ?_;rw [←hn10] at hk;refine q3l ?_;exact K.next (i_11+1) hk a5 (.c (.c (.c (.c (.c (.c (.c (.c .nil)))))))) (List.Sublist.refl _)
          ·have p12:=of_decide_eq_false h12;rw [fR a5,←hkk10] at hk; (try dsimp only at hk);refine q2N ?_;refine ka ?_;rw [←hn5] at hk;exact K.next (i_6+1) hk a5 (.c (.c (.c (.c (.c .nil))))) (List.Sublist.refl _)
      ·have p7:=of_decide_eq_false h7;rw [fR a5,←hkk5] at hk; (try dsimp only at hk);refine fi ?_;refine K.pick [2] rfl a6 ?_;exact lD
    ·rintro _ hk;rw [←hk4] at hk; (try dsimp only at hk);refine lC ?_;obtain rfl:=Option.some.inj hk;exact eY
def zc4 (fuel:Nat)(p:GProblem)(x_:GProof):Option (Option GStore×Int):=
 dN (fun (x_1:Bool)=>
  (bif x_1 then
   some (none,2)
   else
   (zcw p x_.Stations).bind fun r20=>
   (bif decide (¬r20.2=0) then
    some (none,r20.2)
    else
    (zeg fuel r20.1).bind fun r27=>
    (bif (r27.1).isSome then
     some (some (r27.1.getD default),r27.2)
     else
     some (none,r27.2)))))
 (fun k2=>
  (bif !(lE p) then
   k2 true
   else
   (zbZ x_).bind fun r13=>
   k2 (!r13)))
theorem zc3 (F0:Frz)(w:World)(hF0:F0.At w)(p:GProblem)(vp_0:Value)(cp_0:List (List Value))(hp_0:SlD cT F0 vp_0 2 cp_0 p.Domains)(vp_1:Value)(hp_1:SlC F0 vp_1 5 (p.Rules.Pairs.map dh))(vp_2:Value)(hp_2:SlC F0 vp_2 5 (p.Rules.Loads.map dl))(vp_3:Value)(hp_3:SlC F0 vp_3 4 (p.Rules.Caps.map dv))(x_:GProof)(vx__0:Value)(hx__0:SlC F0 vx__0 1 (x_.Stations.map eI))(vx__1:Value)(cx__1:List (List Value))(hx__1:SlD cP F0 vx__1 1 cx__1 x_.Lemmas)(htab:Tab w)(fuel:Nat)(hfu:100000≤fuel)(r:Option GStore×Int)(hr:zc4 fuel p x_=some r):Calls Tryz.prog 36 #[.agg [vp_0,vp_1,vp_2,vp_3].toArray, .agg [vx__0,vx__1].toArray] w fun e w'=>((r.1).isSome=true→∃(y:Nat×SK×Value×Ws×Value×List (List Value)) (G:Frz),(SI ((r.1.getD default).start).1 ((r.1.getD default).start).2 y.2.1 y.2.2.2.1∧TbF G y.2.1∧SzF G y.2.1 y.2.2.1 y.2.2.2.1 (!((r.1.getD default).start).2.2)∧OwnD cP G 1 y.2.2.2.2.2 ((r.1.getD default).list))∧e= .returned (.tuple #[.pointer (some ⟨y.1,0,none⟩), .int .i64 r.2])∧FxM F0 w (dj []) G [.row y.1 144 ((((r.1.getD default).domains).1.map U)++[.pointer (some ⟨y.2.1.sp,0,none⟩),y.2.2.2.2.1]), .sl y.2.2.2.2.1 50 1 ((r.1.getD default).list).length y.2.2.2.2.2.flatten] w')∧((r.1).isSome=false→∃(y:Unit) (G:Frz),(True)∧e= .returned (.tuple #[.pointer none, .int .i64 r.2])∧FxM F0 w (dj []) G [] w'):=by
 have hk:=hr;unfold zc4 at hk;haveI:=hp_0.1.oneC;haveI:=hp_1.oneC;haveI:=hp_2.oneC;haveI:=hp_3.oneC;haveI:=hx__0.oneC;haveI:=hx__1.1.oneC;obtain ⟨S0,F1,rfl,hS0,hp0⟩:=fE hF0;rw [zet];have hM0:¬(fun _:Nat=>False) 0:=fun h=>h;have htk:∀ {hs:HS} {w':World},Hp w (fun _=>False) hs w'→Tab w':=fun hw=>htab.keptF hw;refine dy Tryz.func36 rfl rfl rfl hp0 ?_;refine kg ?_;rintro _ _ ⟨g2,rfl,rfl⟩;refine q31 ?_;rintro _ _ ⟨g3,rfl,rfl⟩;refine ez ?_;refine iZ ?_; (try dsimp only at hk);have hq:=eN hk;clear hk;obtain ⟨k2,hk2,hk⟩:=hq; (try dsimp only at hk);refine dk (ι:=Bool) (fun z=>[(2, .pointer (some ⟨g2,0,none⟩)),(3, .pointer (some ⟨g3,0,none⟩)),(15, .bool z)]) (fun z=>[.row g3 33 [vx__0,vx__1], .row g2 29 [vp_0,vp_1,vp_2,vp_3], .fr F1]) (fun z=>k2 z=some r) ?_ ?_
 ·refine q3K ?_;refine dO rfl rfl rfl (fun h3=>?_) (fun h3=>?_)
  ·replace hk:=dC hk h3;refine lY ?_;exact q4D
  ·replace hk:=dD hk h3;refine iu ?_;have hq:=dV hk;clear hk;obtain ⟨r13,hr13,hk⟩:=hq;refine cX (cS rfl rfl rfl (fun w hw=>zdZ _ w (hw.fr (i:=2) rfl) x_ vx__0 hx__0 vx__1 cx__1 hx__1 r13 hr13)) ?_;refine mq ?_;exact c4 (!r13) hk (.c (.c (.c .nil))) (List.Sublist.refl _)
 ·rintro x_1 hk;rw [←hk2] at hk; (try dsimp only at hk);refine T.cond rfl (fun h4=>?_) (fun h4=>?_)
  ·replace hk:=dC hk h4;refine ld ?_;obtain rfl:=Option.some.inj hk;exact eC rfl rfl rfl (fun w' hw=>⟨fun h=>(by cases h),fun _=>⟨⟨⟩,F1.toFrz,trivial,rfl,dc (hw.pick (idx:=[2]) rfl a6) hS0 (Frz.Le.refl _)⟩⟩)
  ·replace hk:=dD hk h4;refine iK ?_;have hq:=dV hk;clear hk;obtain ⟨r20,hr20,hk⟩:=hq; (try dsimp only at hk);refine fg ?_;refine m2 ?_;refine eX ?_;refine cX (eg 2 rfl rfl rfl rfl (fun w hw hF=>zfj _ w hF p vp_0 cp_0 hp_0 vp_1 hp_1 vp_2 hp_2 vp_3 hp_3 x_.Stations vx__0 hx__0 r20 hr20)) ?_;rintro _ _ ⟨⟨v20_0_0,cs20_0_0,v20_0_1,v20_0_2,v20_0_3⟩,F2,le1_2,⟨hf20_0_0,hf20_0_1,hf20_0_2,hf20_0_3⟩,rfl,rfl⟩;dsimp only at hf20_0_0 hf20_0_1 hf20_0_2 hf20_0_3 ⊢;haveI:=hf20_0_0.1.oneC;haveI:=hf20_0_1.oneC;haveI:=hf20_0_2.oneC;haveI:=hf20_0_3.oneC;refine fF ?_;refine gw ?_;rintro _ _ ⟨g6,rfl,rfl⟩;refine iW ?_;refine i2 ?_;refine kz ?_;refine T.cond rfl (fun h5=>?_) (fun h5=>?_)
   ·have p5:=of_decide_eq_true h5;replace hk:=dC hk h5;refine dm ?_;refine fF ?_;refine kh ?_;obtain rfl:=Option.some.inj hk;exact eC rfl rfl rfl (fun w' hw=>⟨fun h=>(by cases h),fun _=>⟨⟨⟩,F2.toFrz,trivial,rfl,dc (hw.pick (idx:=[3]) rfl a6) hS0 le1_2⟩⟩)
   ·have p5:=of_decide_eq_false h5;replace hk:=dD hk h5;refine iK ?_;have hq:=dV hk;clear hk;obtain ⟨r27,hr27,hk⟩:=hq; (try dsimp only at hk);refine iH ((r27.1).isSome) (fun h6=>?_) (fun h6=>?_)
    ·replace hk:=dC hk h6;refine fg ?_;refine iu ?_;refine cX (ee [3,0,1,2] [] [.row g6 29 [v20_0_0,v20_0_1,v20_0_2,v20_0_3], .row g3 33 [vx__0,vx__1], .row g2 29 [vp_0,vp_1,vp_2,vp_3]] rfl rfl rfl rfl a6 (fun w hw hw2 hF=>(zfN _ w hF r20.1 v20_0_0 cs20_0_0 hf20_0_0 v20_0_1 hf20_0_1 v20_0_2 hf20_0_2 v20_0_3 hf20_0_3 (htk hw) fuel hfu r27 hr27).mono (fun e w' hp=>hp.1 h6))) ?_;rintro _ _ ⟨⟨g27_n,k27_n_512,v27_n_512,L27_n_512,v27_n_513,c27_n_513⟩,F3,le2_3,⟨hs27_n_512,tf27_n_512,zf27_n_512,ho27_n_513⟩,rfl,rfl⟩;refine eS ?_; (try dsimp only at hs27_n_512 tf27_n_512 zf27_n_512 ho27_n_513);have le1_3:=le1_2.trans le2_3;refine gF 1 rfl ?_;intro iv27_n_513 hmv27_n_513;refine TL.run 4 rfl ?_;refine fN ?_;obtain rfl:=Option.some.inj hk;exact eC rfl rfl rfl (fun w' hw=>⟨fun _=>⟨(g27_n,k27_n_512,v27_n_512,L27_n_512,v27_n_513,c27_n_513),F3.toFrz,⟨hs27_n_512,tf27_n_512,zf27_n_512,ho27_n_513⟩,rfl,dc (hw.pick (idx:=[0,1,2]) rfl a6) hS0 le1_3⟩,fun h=>(by cases h)⟩)
    ·replace hk:=dD hk h6;refine fg ?_;refine iu ?_;refine cX (ee [3,0,1,2] [] [.row g6 29 [v20_0_0,v20_0_1,v20_0_2,v20_0_3], .row g3 33 [vx__0,vx__1], .row g2 29 [vp_0,vp_1,vp_2,vp_3]] rfl rfl rfl rfl a6 (fun w hw hw2 hF=>(zfN _ w hF r20.1 v20_0_0 cs20_0_0 hf20_0_0 v20_0_1 hf20_0_1 v20_0_2 hf20_0_2 v20_0_3 hf20_0_3 (htk hw) fuel hfu r27 hr27).mono (fun e w' hp=>hp.2 h6))) ?_;rintro _ _ ⟨⟨⟩,F4,le2_4, -,rfl,rfl⟩;refine eS ?_;have le1_4:=le1_2.trans le2_4;refine TL.run 4 rfl ?_;refine fN ?_;obtain rfl:=Option.some.inj hk;exact eC rfl rfl rfl (fun w' hw=>⟨fun h=>(by cases h),fun _=>⟨⟨⟩,F4.toFrz,trivial,rfl,dc (hw.pick (idx:=[0]) rfl a6) hS0 le1_4⟩⟩)
def zb9 (fuel:Nat)(x0_:GStore)(lemmas:List (List GChoice)):Option (Int×List (List GChoice)):=
 dN (fun (c_1:List (List GChoice))=>
  some ((lemmas.length:Int),c_1))
 (fun k2=>
  di (fun (i_5:Nat) (next4:List (List GChoice)→Option (Int×List (List GChoice))) (c_3:List (List GChoice))=>
   (za8 fuel (GStore.mk x0_.domains (x0_.start.1,x0_.start.2) c_3) (cQ lemmas i_5)).bind fun r19=>
   (bif ((decide (¬r19.2=0))||(!r19.1)) then
    some ((i_5:Int),c_3)
    else
    dN (fun (s11:Bool×List (List GChoice))=>
     (bif s11.1 then
      some (((i_5:Int)+1),s11.2)
      else
      next4 s11.2))
    (fun k11=>
     (bif decide ((i_5:Int)<((lemmas.length:Int) - 1)) then
      (zaY (GStore.mk x0_.domains (x0_.start.1,x0_.start.2) c_3) (cQ lemmas i_5)).bind fun r37=>
      k11 (decide (¬r37.1=0),r37.2)
      else
      k11 (false,c_3)))))
  (fun (c_3:List (List GChoice))=>
   k2 c_3) (lemmas.length - 0) 0 x0_.list)
theorem zdn (F0:Frz)(w:World)(hF0:F0.At w)(x0_:GStore)(g0_:Nat)(k0_512:SK)(v0_512:Value)(L0_512:Ws)(hs0_512:SI x0_.start.1 x0_.start.2 k0_512 L0_512)(tf0_512:TbF F0 k0_512)(zf0_512:SzF F0 k0_512 v0_512 L0_512 (!x0_.start.2.2))(v0_513:Value)(c0_513:List (List Value))(h0_513:OwnD cP F0 1 c0_513 x0_.list)(lemmas:List (List GChoice))(vlemmas:Value)(clemmas:List (List Value))(hlemmas:SlD cP F0 vlemmas 1 clemmas lemmas)(htab:Tab w)(hO:Hp w (dj [.row g0_ 144 ((x0_.domains.1.map U)++[.pointer (some ⟨k0_512.sp,0,none⟩),v0_513]), .sl v0_513 50 1 x0_.list.length c0_513.flatten]) [.row g0_ 144 ((x0_.domains.1.map U)++[.pointer (some ⟨k0_512.sp,0,none⟩),v0_513]), .sl v0_513 50 1 x0_.list.length c0_513.flatten] w)(hA:∀g,dj [.row g0_ 144 ((x0_.domains.1.map U)++[.pointer (some ⟨k0_512.sp,0,none⟩),v0_513]), .sl v0_513 50 1 x0_.list.length c0_513.flatten] g→¬F0.S g)(hZ:¬dj [.row g0_ 144 ((x0_.domains.1.map U)++[.pointer (some ⟨k0_512.sp,0,none⟩),v0_513]), .sl v0_513 50 1 x0_.list.length c0_513.flatten] 0)(fuel:Nat)(hfu:100000≤fuel)(r:Int×List (List GChoice))(hr:zb9 fuel x0_ lemmas=some r):Calls Tryz.prog 37 #[.pointer (some ⟨g0_,0,none⟩),vlemmas] w fun e w'=>∃(y:Value×List (List Value)) (G:Frz),(OwnD cP G 1 y.2 r.2)∧e= .returned (.int .i64 r.1)∧FxM F0 w (dj [.row g0_ 144 ((x0_.domains.1.map U)++[.pointer (some ⟨k0_512.sp,0,none⟩),v0_513]), .sl v0_513 50 1 x0_.list.length c0_513.flatten]) G [.row g0_ 144 ((x0_.domains.1.map U)++[.pointer (some ⟨k0_512.sp,0,none⟩),y.1]), .sl y.1 50 1 r.2.length y.2.flatten] w':=by
 have hk:=hr;unfold zb9 at hk;haveI:=hlemmas.1.oneC;haveI:=iJ (hO.own (.sl v0_513 50 1 x0_.list.length c0_513.flatten) a8);have hmx0_513:=i3 (hO.own (.sl v0_513 50 1 x0_.list.length c0_513.flatten) a8);obtain ⟨S0,F1,rfl,hS0,hp0⟩:=ij hF0 hO hA;have hM0:=hZ;have htk:∀ {hs:HS} {w':World},Hp w (dj [.row g0_ 144 ((x0_.domains.1.map U)++[.pointer (some ⟨k0_512.sp,0,none⟩),v0_513]), .sl v0_513 50 1 x0_.list.length c0_513.flatten]) hs w'→Tab w':=fun hw=>htab.kept hw hZ;refine dy (hs:=[.row g0_ 144 ((x0_.domains.1.map U)++[.pointer (some ⟨k0_512.sp,0,none⟩),v0_513]), .sl v0_513 50 1 x0_.list.length c0_513.flatten, .fr F1]) Tryz.func37 rfl rfl rfl hp0 ?_;refine i5 ?_;refine cR (dA rfl rfl hlemmas.1 hlemmas.2.1) ?_;have hm10:lemmas.length≤9223372036854775807:=hlemmas.2.1▸hlemmas.1.max;refine dL ?_;have hq:=eN hk;clear hk;obtain ⟨k2,hk2,hk⟩:=hq; (try dsimp only at hk);refine dk (ι:=List (List GChoice)×Value×List (List Value)×FzB w (dj [.row g0_ 144 ((x0_.domains.1.map U)++[.pointer (some ⟨k0_512.sp,0,none⟩),v0_513]), .sl v0_513 50 1 x0_.list.length c0_513.flatten]) S0) (fun z=>[(1,vlemmas)]) (fun z=>[.sl z.2.1 50 1 z.1.length z.2.2.1.flatten, .row g0_ 144 ((x0_.domains.1.map U)++[.pointer (some ⟨k0_512.sp,0,none⟩),z.2.1]), .fr z.2.2.2]) (fun z=>k2 z.1=some r∧OwnD cP z.2.2.2.toFrz 1 z.2.2.1 z.1∧OneC z.2.1∧F1.toFrz.Le z.2.2.2.toFrz) ?_ ?_
 ·have hq:=fS hk;clear hk;obtain ⟨f4,kk4,hf4,hkk4,hk⟩:=hq;refine q3U ?_;refine T.loop (ι:=Nat×List (List GChoice)×Value×List (List Value)×FzB w (dj [.row g0_ 144 ((x0_.domains.1.map U)++[.pointer (some ⟨k0_512.sp,0,none⟩),v0_513]), .sl v0_513 50 1 x0_.list.length c0_513.flatten]) S0) (fun z=>[(0, .pointer (some ⟨g0_,0,none⟩)),(1,vlemmas),(9,vlemmas),(10, .int .i64 (lemmas.length:Int)),(11, .int .i64 (z.1:Int))]) (fun z=>[.sl z.2.2.1 50 1 z.2.1.length z.2.2.2.1.flatten, .row g0_ 144 ((x0_.domains.1.map U)++[.pointer (some ⟨k0_512.sp,0,none⟩),z.2.2.1]), .fr z.2.2.2.2]) (fun z=>di f4 kk4 (lemmas.length - z.1) z.1 z.2.1=some r∧OwnD cP z.2.2.2.2.toFrz 1 z.2.2.2.1 z.2.1∧OneC z.2.2.1∧F1.toFrz.Le z.2.2.2.2.toFrz) (fun z=>lemmas.length - z.1) (0,x0_.list,v0_513,c0_513,F1) ?_ ?_ ?_ ?_
  ·exact ⟨hk,h0_513,inferInstance,(Frz.Le.refl _)⟩
  ·exact l9
  ·exact fx
  ·rintro ⟨i_5,c_3,vc_3,cc_3,F3⟩ ⟨hk,hc_3,oc_3,le1_3⟩; (try dsimp only at *);refine eR ?_;refine T.cond rfl (fun h6=>?_) (fun h6=>?_)
   ·have p6:=of_decide_eq_true h6;rw [fT a5] at hk;generalize hn4:di f4 kk4 (lemmas.length - (i_5+1)) (i_5+1)=next4 at hk;rw [←hf4] at hk; (try dsimp only at hk);refine fH ?_;refine dp ?_;refine cR (dH (i:=i_5) rfl rfl rfl (SlD.mono (rep:=cP) (fun _ _ _ _=>R_List_GChoice.mono) hlemmas le1_3).1 (SlD.mono (rep:=cP) (fun _ _ _ _=>R_List_GChoice.mono) hlemmas le1_3).2.1 rfl a5) ?_;refine cR (eo 2 (i:=i_5) (j:=0) rfl rfl rfl (SlD.mono (rep:=cP) (fun _ _ _ _=>R_List_GChoice.mono) hlemmas le1_3).1 (SlD.mono (rep:=cP) (fun _ _ _ _=>R_List_GChoice.mono) hlemmas le1_3).2.1 a5 rfl (R_List_GChoice.c0 ((SlD.mono (rep:=cP) (fun _ _ _ _=>R_List_GChoice.mono) hlemmas le1_3).2.2 i_5 a5)).1) ?_;have hd15_0:=(R_List_GChoice.c0 ((SlD.mono (rep:=cP) (fun _ _ _ _=>R_List_GChoice.mono) hlemmas le1_3).2.2 i_5 a5)).2;haveI:=hd15_0.oneC;refine ez ?_;refine iZ ?_;have hq:=dV hk;clear hk;obtain ⟨r19,hr19,hk⟩:=hq; (try dsimp only at hk);refine gp ?_;refine cX (ee [1,0,2] [.row g0_ 144 ((x0_.domains.1.map U)++([.pointer (some ⟨k0_512.sp,0,none⟩),vc_3]:List Value)), .sl vc_3 50 1 c_3.length cc_3.flatten] [] rfl rfl rfl rfl a6 (fun w hw hw2 hF=>zcq _ w hF (GStore.mk x0_.domains (x0_.start.1,x0_.start.2) c_3) g0_ k0_512 v0_512 L0_512 hs0_512 (tf0_512.mono le1_3) (zf0_512.mono le1_3) vc_3 cc_3 hc_3 (cQ lemmas i_5) (cQ (cQ clemmas i_5) 0) hd15_0 (htk hw) hw2.takes.1 hw2.takes.2 (hw2.takes0 hM0 htab.pos) fuel hfu r19 hr19)) ?_;rintro _ _ ⟨⟨⟩,F4,le3_4, -,rfl,rfl⟩;refine eS ?_;have le1_4:=le1_3.trans le3_4;refine kb ?_;refine gU ?_;refine dk (ι:=Unit) (fun z=>[(0, .pointer (some ⟨g0_,0,none⟩)),(1,vlemmas),(5, .int .i64 (i_5:Int)),(6,(cQ (cQ clemmas i_5) 0)),(9,vlemmas),(10, .int .i64 (lemmas.length:Int)),(11, .int .i64 (i_5:Int)),(27, .bool ((decide (¬r19.2=0))||(!r19.1)))]) (fun z=>[.row g0_ 144 ((x0_.domains.1.map U)++[.pointer (some ⟨k0_512.sp,0,none⟩),vc_3]), .sl vc_3 50 1 c_3.length cc_3.flatten, .fr F4]) (fun z=>True) ?_ ?_
    ·refine lU ?_;refine dO rfl rfl rfl (fun h7=>?_) (fun h7=>?_)
     ·have p7:=of_decide_eq_true h7;refine kd ?_;exact c4 () trivial (.c (.c (.c (.c (.c (.c (.c (.b (jA h7).symm .nil)))))))) (List.Sublist.refl _)
     ·have p7:=of_decide_eq_false h7;refine kd ?_;exact c4 () trivial (.c (.c (.c (.c (.c (.c (.c (.b (iC h7) .nil)))))))) (List.Sublist.refl _)
    ·rintro _ _;refine T.cond rfl (fun h8=>?_) (fun h8=>?_)
     ·replace hk:=dC hk h8;refine iD ?_;refine ml ?_;obtain rfl:=Option.some.inj hk;exact c8 rfl rfl (fun w' hw=>⟨(vc_3,cc_3),F4.toFrz,(OwnD.mono (rep:=cP) (fun _ _ _ _=>R_List_GChoice.mono) hc_3 le3_4),rfl,dc (hw.pick (idx:=[0,1,2]) rfl a6) hS0 le1_4⟩)
     ·have p8:=h8; (try simp only [c7] at p8);replace hk:=dD hk h8;refine iK ?_; (try dsimp only at hk);have hq:=eN hk;clear hk;obtain ⟨k11,hk11,hk⟩:=hq; (try dsimp only at hk);refine dk (ι:=Bool×List (List GChoice)×Value×List (List Value)×FzB w (dj [.row g0_ 144 ((x0_.domains.1.map U)++[.pointer (some ⟨k0_512.sp,0,none⟩),v0_513]), .sl v0_513 50 1 x0_.list.length c0_513.flatten]) S0) (fun z=>[(0, .pointer (some ⟨g0_,0,none⟩)),(1,vlemmas),(5, .int .i64 (i_5:Int)),(9,vlemmas),(10, .int .i64 (lemmas.length:Int)),(11, .int .i64 (i_5:Int)),(39, .bool z.1)]) (fun z=>[.sl z.2.2.1 50 1 z.2.1.length z.2.2.2.1.flatten, .row g0_ 144 ((x0_.domains.1.map U)++[.pointer (some ⟨k0_512.sp,0,none⟩),z.2.2.1]), .fr z.2.2.2.2]) (fun z=>k11 (z.1,z.2.1)=some r∧OwnD cP z.2.2.2.2.toFrz 1 z.2.2.2.1 z.2.1∧OneC z.2.2.1∧F4.toFrz.Le z.2.2.2.2.toFrz) ?_ ?_
      ·refine gp ?_;refine cR (dA rfl rfl (SlD.mono (rep:=cP) (fun _ _ _ _=>R_List_GChoice.mono) hlemmas le1_4).1 (SlD.mono (rep:=cP) (fun _ _ _ _=>R_List_GChoice.mono) hlemmas le1_4).2.1) ?_;refine q15 ?_;refine ez ?_;refine dO rfl rfl rfl (fun h12=>?_) (fun h12=>?_)
       ·have p12:=of_decide_eq_true h12;replace hk:=dC hk h12;refine ez ?_;have hq:=dV hk;clear hk;obtain ⟨r37,hr37,hk⟩:=hq;refine cX (ee [0,1,2] [.row g0_ 144 ((x0_.domains.1.map U)++([.pointer (some ⟨k0_512.sp,0,none⟩),vc_3]:List Value)), .sl vc_3 50 1 c_3.length cc_3.flatten] [] rfl rfl rfl rfl a6 (fun w hw hw2 hF=>zbV _ w hF (GStore.mk x0_.domains (x0_.start.1,x0_.start.2) c_3) g0_ k0_512 v0_512 L0_512 hs0_512 (tf0_512.mono le1_4) (zf0_512.mono le1_4) vc_3 cc_3 (OwnD.mono (rep:=cP) (fun _ _ _ _=>R_List_GChoice.mono) hc_3 le3_4) (cQ lemmas i_5) (cQ (cQ clemmas i_5) 0) (SlC.mono hd15_0 le3_4) hw2.takes.1 hw2.takes.2 r37 hr37)) ?_;rintro _ _ ⟨⟨v37_1_513,c37_1_513⟩,F6,le4_6,ho37_1_513,rfl,rfl⟩;refine eS ?_; (try dsimp only at ho37_1_513);refine gF 1 rfl ?_;intro iv37_1_513 hmv37_1_513;refine q1W ?_;refine K.pick [1,0,2] rfl a6 ?_;exact c4 (decide (¬r37.1=0),r37.2,v37_1_513,c37_1_513,F6) ⟨hk,ho37_1_513,inferInstance,le4_6⟩ (.c (.c (.c (.c (.c (.c (.c .nil))))))) (List.Sublist.refl _)
       ·have p12:=of_decide_eq_false h12;replace hk:=dD hk h12;refine mi ?_;refine K.pick [1,0,2] rfl a6 ?_;exact c4 (false,c_3,vc_3,cc_3,F4) ⟨hk,(OwnD.mono (rep:=cP) (fun _ _ _ _=>R_List_GChoice.mono) hc_3 le3_4),inferInstance,(Frz.Le.refl _)⟩ (.c (.c (.c (.c (.c (.c (.c .nil))))))) (List.Sublist.refl _)
      ·rintro ⟨x_9,c_10,vc_10,cc_10,F5⟩ ⟨hk,hc_10,oc_10,le4_5⟩; (try dsimp only at *);rw [←hk11] at hk; (try dsimp only at hk);have le1_5:=le1_4.trans le4_5;refine T.cond rfl (fun h13=>?_) (fun h13=>?_)
       ·replace hk:=dC hk h13;refine gh ?_;refine mv ?_;refine dp ?_;refine q2X ?_;obtain rfl:=Option.some.inj hk;exact c8 rfl rfl (fun w' hw=>⟨(vc_10,cc_10),F5.toFrz,hc_10,rfl,dc (hw.pick (idx:=[1,0,2]) rfl a6) hS0 le1_5⟩)
       ·replace hk:=dD hk h13;refine gZ ?_;rw [←hn4] at hk;exact K.next ((i_5+1),c_10,vc_10,cc_10,F5) ⟨hk,hc_10,inferInstance,le1_5⟩ a9 (.c (.c (.c (.c (.c .nil))))) (List.Sublist.refl _)
   ·have p6:=of_decide_eq_false h6;rw [fR a5,←hkk4] at hk; (try dsimp only at hk);refine fi ?_;exact c4 (c_3,vc_3,cc_3,F3) ⟨hk,hc_3,inferInstance,le1_3⟩ (.c .nil) (List.Sublist.refl _)
 ·rintro ⟨c_1,vc_1,cc_1,F2⟩ ⟨hk,hc_1,oc_1,le1_2⟩; (try dsimp only at *);rw [←hk2] at hk; (try dsimp only at hk);refine gh ?_;refine cR (dA rfl rfl (SlD.mono (rep:=cP) (fun _ _ _ _=>R_List_GChoice.mono) hlemmas le1_2).1 (SlD.mono (rep:=cP) (fun _ _ _ _=>R_List_GChoice.mono) hlemmas le1_2).2.1) ?_;refine fm ?_;obtain rfl:=Option.some.inj hk;exact c8 rfl rfl (fun w' hw=>⟨(vc_1,cc_1),F2.toFrz,hc_1,rfl,dc (hw.pick (idx:=[1,0,2]) rfl a6) hS0 le1_2⟩)
def zc0 (fuel:Nat)(p:GProblem)(x_:GProof):Option (Int×Int):=
 (zc4 fuel p x_).bind fun r11=>
 (bif (r11.1).isSome then
  (bif decide (¬r11.2=0) then
   some (0,r11.2)
   else
   (zb9 fuel (r11.1.getD default) x_.Lemmas).bind fun r20=>
   some (r20.1,0))
  else
  (bif decide (¬r11.2=0) then
   some (0,r11.2)
   else
   none))
theorem zfm (F0:Frz)(w:World)(hF0:F0.At w)(p:GProblem)(vp_0:Value)(cp_0:List (List Value))(hp_0:SlD cT F0 vp_0 2 cp_0 p.Domains)(vp_1:Value)(hp_1:SlC F0 vp_1 5 (p.Rules.Pairs.map dh))(vp_2:Value)(hp_2:SlC F0 vp_2 5 (p.Rules.Loads.map dl))(vp_3:Value)(hp_3:SlC F0 vp_3 4 (p.Rules.Caps.map dv))(x_:GProof)(vx__0:Value)(hx__0:SlC F0 vx__0 1 (x_.Stations.map eI))(vx__1:Value)(cx__1:List (List Value))(hx__1:SlD cP F0 vx__1 1 cx__1 x_.Lemmas)(htab:Tab w)(fuel:Nat)(hfu:100000≤fuel)(r:Int×Int)(hr:zc0 fuel p x_=some r):Calls Tryz.prog 11 #[.agg [vp_0,vp_1,vp_2,vp_3].toArray, .agg [vx__0,vx__1].toArray] w fun e w'=>e= .returned (.tuple #[.int .i64 r.1, .int .i64 r.2])∧Below w.heap.size w w':=by
 have hk:=hr;unfold zc0 at hk;haveI:=hp_0.1.oneC;haveI:=hp_1.oneC;haveI:=hp_2.oneC;haveI:=hp_3.oneC;haveI:=hx__0.oneC;haveI:=hx__1.1.oneC;obtain ⟨S0,F1,rfl,hS0,hp0⟩:=fE hF0;have hM0:¬(fun _:Nat=>False) 0:=fun h=>h;have htk:∀ {hs:HS} {w':World},Hp w (fun _=>False) hs w'→Tab w':=fun hw=>htab.keptF hw;refine dy Tryz.func11 rfl rfl rfl hp0 ?_;refine kg ?_;rintro _ _ ⟨g2,rfl,rfl⟩;refine q31 ?_;rintro _ _ ⟨g3,rfl,rfl⟩;refine ez ?_;refine gU ?_;have hq:=dV hk;clear hk;obtain ⟨r11,hr11,hk⟩:=hq; (try dsimp only at hk);refine iH ((r11.1).isSome) (fun h1=>?_) (fun h1=>?_)
 ·replace hk:=dC hk h1;refine fg ?_;refine m2 ?_;refine iu ?_;refine cX (ee [2,0,1] [] [.row g3 33 [vx__0,vx__1], .row g2 29 [vp_0,vp_1,vp_2,vp_3]] rfl rfl rfl rfl a6 (fun w hw hw2 hF=>(zc3 _ w hF p vp_0 cp_0 hp_0 vp_1 hp_1 vp_2 hp_2 vp_3 hp_3 x_ vx__0 hx__0 vx__1 cx__1 hx__1 (htk hw) fuel hfu r11 hr11).mono (fun e w' hp=>hp.1 h1))) ?_;rintro _ _ ⟨⟨g11_n,k11_n_512,v11_n_512,L11_n_512,v11_n_513,c11_n_513⟩,F2,le1_2,⟨hs11_n_512,tf11_n_512,zf11_n_512,ho11_n_513⟩,rfl,rfl⟩;refine eS ?_; (try dsimp only at hs11_n_512 tf11_n_512 zf11_n_512 ho11_n_513);refine gF 1 rfl ?_;intro iv11_n_513 hmv11_n_513;refine q1l ?_;refine T.cond rfl (fun h2=>?_) (fun h2=>?_)
  ·have p2:=of_decide_eq_true h2;replace hk:=dC hk h2;refine dm ?_;refine fF ?_;refine kh ?_;obtain rfl:=Option.some.inj hk;exact q4E
  ·have p2:=of_decide_eq_false h2;replace hk:=dD hk h2;refine iK ?_;have hq:=dV hk;clear hk;obtain ⟨r20,hr20,hk⟩:=hq; (try dsimp only at hk);refine fk ?_;refine fy ?_;refine q2x ?_;refine cX (ee [0,1,2,3,4] [.row g11_n 144 ((((r11.1.getD default).domains).1.map U)++([.pointer (some ⟨k11_n_512.sp,0,none⟩),v11_n_513]:List Value)), .sl v11_n_513 50 1 ((r11.1.getD default).list).length c11_n_513.flatten] [.row g3 33 [vx__0,vx__1], .row g2 29 [vp_0,vp_1,vp_2,vp_3]] rfl rfl rfl rfl a6 (fun w hw hw2 hF=>zdn _ w hF (r11.1.getD default) g11_n k11_n_512 v11_n_512 L11_n_512 hs11_n_512 tf11_n_512 zf11_n_512 v11_n_513 c11_n_513 ho11_n_513 x_.Lemmas vx__1 cx__1 (SlD.mono (rep:=cP) (fun _ _ _ _=>R_List_GChoice.mono) hx__1 le1_2) (htk hw) hw2.takes.1 hw2.takes.2 (hw2.takes0 hM0 htab.pos) fuel hfu r20 hr20)) ?_;rintro _ _ ⟨⟨v20_1_513,c20_1_513⟩,F3,le2_3,ho20_1_513,rfl,rfl⟩;refine eS ?_; (try dsimp only at ho20_1_513);refine gF 1 rfl ?_;intro iv20_1_513 hmv20_1_513;refine jP ?_;obtain rfl:=Option.some.inj hk;exact q4E
 ·replace hk:=dD hk h1;refine fg ?_;refine m2 ?_;refine iu ?_;refine cX (ee [2,0,1] [] [.row g3 33 [vx__0,vx__1], .row g2 29 [vp_0,vp_1,vp_2,vp_3]] rfl rfl rfl rfl a6 (fun w hw hw2 hF=>(zc3 _ w hF p vp_0 cp_0 hp_0 vp_1 hp_1 vp_2 hp_2 vp_3 hp_3 x_ vx__0 hx__0 vx__1 cx__1 hx__1 (htk hw) fuel hfu r11 hr11).mono (fun e w' hp=>hp.2 h1))) ?_;rintro _ _ ⟨⟨⟩,F4,le1_4, -,rfl,rfl⟩;refine eS ?_;refine q1l ?_;refine T.cond rfl (fun h3=>?_) (fun h3=>?_)
  ·have p3:=of_decide_eq_true h3;replace hk:=dC hk h3;refine dm ?_;refine fF ?_;refine kh ?_;obtain rfl:=Option.some.inj hk;exact q4E
  ·have p3:=of_decide_eq_false h3;replace hk:=dD hk h3;refine iK ?_;cases hk
def zc1 (fuel:Nat)(p:GProblem)(x_:GProof):Option Int:=
 (zc0 fuel p x_).bind fun r10=>
 (bif ((decide (r10.2=0))&&(decide (r10.1<(x_.Lemmas.length:Int)))) then
  some 10
  else
  some r10.2)
theorem zfq (F0:Frz)(w:World)(hF0:F0.At w)(p:GProblem)(vp_0:Value)(cp_0:List (List Value))(hp_0:SlD cT F0 vp_0 2 cp_0 p.Domains)(vp_1:Value)(hp_1:SlC F0 vp_1 5 (p.Rules.Pairs.map dh))(vp_2:Value)(hp_2:SlC F0 vp_2 5 (p.Rules.Loads.map dl))(vp_3:Value)(hp_3:SlC F0 vp_3 4 (p.Rules.Caps.map dv))(x_:GProof)(vx__0:Value)(hx__0:SlC F0 vx__0 1 (x_.Stations.map eI))(vx__1:Value)(cx__1:List (List Value))(hx__1:SlD cP F0 vx__1 1 cx__1 x_.Lemmas)(htab:Tab w)(fuel:Nat)(hfu:100000≤fuel)(r:Int)(hr:zc1 fuel p x_=some r):Calls Tryz.prog 15 #[.agg [vp_0,vp_1,vp_2,vp_3].toArray, .agg [vx__0,vx__1].toArray] w fun e w'=>e= .returned (.int .i64 r)∧Below w.heap.size w w':=by
 have hk:=hr;unfold zc1 at hk;haveI:=hp_0.1.oneC;haveI:=hp_1.oneC;haveI:=hp_2.oneC;haveI:=hp_3.oneC;haveI:=hx__0.oneC;haveI:=hx__1.1.oneC;obtain ⟨S0,F1,rfl,hS0,hp0⟩:=fE hF0;have hM0:¬(fun _:Nat=>False) 0:=fun h=>h;have htk:∀ {hs:HS} {w':World},Hp w (fun _=>False) hs w'→Tab w':=fun hw=>htab.keptF hw;refine dy Tryz.func15 rfl rfl rfl hp0 ?_;refine kg ?_;rintro _ _ ⟨g2,rfl,rfl⟩;refine q31 ?_;rintro _ _ ⟨g3,rfl,rfl⟩;refine ki ?_;have hq:=dV hk;clear hk;obtain ⟨r10,hr10,hk⟩:=hq; (try dsimp only at hk);refine fg ?_;refine m2 ?_;refine iu ?_;refine cX (cS rfl rfl rfl (fun w hw=>zfm _ w (hw.fr (i:=2) rfl) p vp_0 cp_0 hp_0 vp_1 hp_1 vp_2 hp_2 vp_3 hp_3 x_ vx__0 hx__0 vx__1 cx__1 hx__1 (htab.keptF hw) fuel hfu r10 hr10)) ?_;refine fb ?_;refine kb ?_;refine iZ ?_;refine dk (ι:=Unit) (fun z=>[(6, .int .i64 r10.2),(21, .bool ((decide (r10.2=0))&&(decide (r10.1<(x_.Lemmas.length:Int)))))]) (fun z=>[.row g3 33 [vx__0,vx__1], .row g2 29 [vp_0,vp_1,vp_2,vp_3], .fr F1]) (fun z=>True) ?_ ?_
 ·refine lU ?_;refine dO rfl rfl rfl (fun h1=>?_) (fun h1=>?_)
  ·have p1:=of_decide_eq_true h1;refine dp ?_;refine eX ?_;refine q2z ?_;have hm19:x_.Lemmas.length≤9223372036854775807:=hx__1.2.1▸hx__1.1.max;refine q1W ?_;exact c4 () trivial (.c (.b (mH h1) .nil)) (List.Sublist.refl _)
  ·have p1:=of_decide_eq_false h1;refine TL.run 6 rfl ?_;refine TL.nil ?_;exact c4 () trivial (.c (.b (mE h1).symm .nil)) (List.Sublist.refl _)
 ·rintro _ _;have hm19:x_.Lemmas.length≤9223372036854775807:=hx__1.2.1▸hx__1.1.max;refine T.cond rfl (fun h2=>?_) (fun h2=>?_)
  ·have p2:=h2; (try simp only [c7] at p2);replace hk:=dC hk h2;refine hD ?_;obtain rfl:=Option.some.inj hk;exact eY
  ·replace hk:=dD hk h2;refine gW ?_;refine jP ?_;obtain rfl:=Option.some.inj hk;exact eY
def zeq (fuel:Nat)(p:GProblem)(x_:GProof):Option (GProof×Int):=
 (zc4 fuel p x_).bind fun r18=>
 (bif (r18.1).isSome then
  (bif decide (¬r18.2=0) then
   some ((GProof.mk [] []),r18.2)
   else
   (zaW (r18.1.getD default)).bind fun r26=>
   (bif (r26).isSome then
    (zb9 fuel (r26.getD default) x_.Lemmas).bind fun r29=>
    (bif decide (r29.1<(x_.Lemmas.length:Int)) then
     some ((GProof.mk [] []),10)
     else
     dN (fun (later_5:List (List GChoice))=>
      dU (dd x_.Stations.length 8) <|
      some ((GProof.mk x_.Stations (zdt later_5)),0))
     (fun k6=>
      dU (-1≤(((x_.Lemmas.length:Int) - 1) - 1)) <|
      mU (fun (i_9:Nat) (next8:List (List GChoice)→Option (GProof×Int)) (later_7:List (List GChoice))=>
       (zaW (r18.1.getD default)).bind fun r47=>
       (bif (r47).isSome then
        dN (fun (c_12:List (List GChoice))=>
         dU (dd later_7.length 24) <|
         (zb9 fuel (GStore.mk ((r47.getD default).domains) (((r47.getD default).start).1,((r47.getD default).start).2) c_12) (zdt later_7)).bind fun r67=>
         (bif decide (r67.1<((zdt later_7).length:Int)) then
          dU (dd ((cQ x_.Lemmas i_9).length) 16) <|
          dU (dd (later_7++[(cQ x_.Lemmas i_9)]).length 24) <|
          next8 (later_7++[(cQ x_.Lemmas i_9)])
          else
          next8 later_7))
        (fun k13=>
         di (fun (i_16:Nat) (next15:List (List GChoice)→Option (GProof×Int)) (c_14:List (List GChoice))=>
          (zaY (GStore.mk ((r47.getD default).domains) (((r47.getD default).start).1,((r47.getD default).start).2) c_14) (cQ (x_.Lemmas.take i_9) i_16)).bind fun r59=>
          next15 r59.2)
         (fun (c_14:List (List GChoice))=>
          k13 c_14) (((x_.Lemmas.take i_9).length) - 0) 0 ((r47.getD default).list))
        else
        dN (fun (_:Unit)=>
         dU (dd later_7.length 24) <|
         none)
        (fun k19=>
         di (fun (i_21:Nat) (next20:Unit→Option (GProof×Int)) (_:Unit)=>
          none)
         (fun (_:Unit)=>
          k19 ()) (((x_.Lemmas.take i_9).length) - 0) 0 ())))
      (fun (later_7:List (List GChoice))=>
       k6 later_7) (((((x_.Lemmas.length:Int) - 1) - 1)+1).toNat) ([[]]:List (List GChoice))))
    else
    none))
  else
  (bif decide (¬r18.2=0) then
   some ((GProof.mk [] []),r18.2)
   else
   none))
theorem zh6 (F0:Frz)(w:World)(hF0:F0.At w)(p:GProblem)(vp_0:Value)(cp_0:List (List Value))(hp_0:SlD cT F0 vp_0 2 cp_0 p.Domains)(vp_1:Value)(hp_1:SlC F0 vp_1 5 (p.Rules.Pairs.map dh))(vp_2:Value)(hp_2:SlC F0 vp_2 5 (p.Rules.Loads.map dl))(vp_3:Value)(hp_3:SlC F0 vp_3 4 (p.Rules.Caps.map dv))(x_:GProof)(vx__0:Value)(hx__0:SlC F0 vx__0 1 (x_.Stations.map eI))(vx__1:Value)(cx__1:List (List Value))(hx__1:SlD cP F0 vx__1 1 cx__1 x_.Lemmas)(htab:Tab w)(fuel:Nat)(hfu:100000≤fuel)(r:GProof×Int)(hr:zeq fuel p x_=some r):Calls Tryz.prog 18 #[.agg [vp_0,vp_1,vp_2,vp_3].toArray, .agg [vx__0,vx__1].toArray] w fun e w'=>∃(y:Value×Value×List (List Value)) (G:Frz),(SlC G y.1 1 (r.1.Stations.map eI)∧SlD cP G y.2.1 1 y.2.2 r.1.Lemmas)∧e= .returned (.tuple #[.agg [y.1,y.2.1].toArray, .int .i64 r.2])∧Fx F0 w G w':=by
 have hk:=hr;unfold zeq at hk;haveI:=hp_0.1.oneC;haveI:=hp_1.oneC;haveI:=hp_2.oneC;haveI:=hp_3.oneC;haveI:=hx__0.oneC;haveI:=hx__1.1.oneC;obtain ⟨S0,F1,rfl,hS0,hp0⟩:=fE hF0;have hM0:¬(fun _:Nat=>False) 0:=fun h=>h;have htk:∀ {hs:HS} {w':World},Hp w (fun _=>False) hs w'→Tab w':=fun hw=>htab.keptF hw;refine dy Tryz.func18 rfl rfl rfl hp0 ?_;refine kg ?_;rintro _ _ ⟨g2,rfl,rfl⟩;refine q31 ?_;rintro _ _ ⟨g3,rfl,rfl⟩;refine gw ?_;rintro _ _ ⟨g4,rfl,rfl⟩;refine ki ?_;have hq:=dV hk;clear hk;obtain ⟨r18,hr18,hk⟩:=hq; (try dsimp only at hk);refine iH ((r18.1).isSome) (fun h1=>?_) (fun h1=>?_)
 ·replace hk:=dC hk h1;refine fg ?_;refine cR (dY 2) ?_;refine m2 ?_;refine cX (ee [3,0,1,2] [] [.row g4 33 [(.slice none 0 0),(.slice none 0 0)], .row g3 33 [vx__0,vx__1], .row g2 29 [vp_0,vp_1,vp_2,vp_3]] rfl rfl rfl rfl a6 (fun w hw hw2 hF=>(zc3 _ w hF p vp_0 cp_0 hp_0 vp_1 hp_1 vp_2 hp_2 vp_3 hp_3 x_ vx__0 hx__0 vx__1 cx__1 hx__1 (htk hw) fuel hfu r18 hr18).mono (fun e w' hp=>hp.1 h1))) ?_;rintro _ _ ⟨⟨g18_n,k18_n_512,v18_n_512,L18_n_512,v18_n_513,c18_n_513⟩,F2,le1_2,⟨hs18_n_512,tf18_n_512,zf18_n_512,ho18_n_513⟩,rfl,rfl⟩;refine eS ?_; (try dsimp only at hs18_n_512 tf18_n_512 zf18_n_512 ho18_n_513);refine gF 1 rfl ?_;intro iv18_n_513 hmv18_n_513;refine q1l ?_;refine T.cond rfl (fun h2=>?_) (fun h2=>?_)
  ·have p2:=of_decide_eq_true h2;replace hk:=dC hk h2;refine dm ?_;refine jy ?_;refine dp ?_;refine eE (dF 3) ?_;refine mr ?_;refine kh ?_;obtain rfl:=Option.some.inj hk;exact fO 3 rfl rfl rfl rfl rfl (fun w' hw=>⟨((.slice none 0 0),(.slice none 0 0),[]),F2.toFrz,⟨(SlC.nil _ 1),(SlD.nil _ _ 1)⟩,rfl,eD hw (i:=2) rfl hS0 le1_2⟩)
  ·have p2:=of_decide_eq_false h2;replace hk:=dD hk h2;refine q3m ?_;have hq:=dV hk;clear hk;obtain ⟨r26,hr26,hk⟩:=hq; (try dsimp only at hk);refine iH ((r26).isSome) (fun h3=>?_) (fun h3=>?_)
   ·replace hk:=dC hk h3;have hq:=dV hk;clear hk;obtain ⟨r29,hr29,hk⟩:=hq; (try dsimp only at hk);refine d8 (.still 0 (sN 2 2 (sN 5 3 (.eff 1 (.eff 4 (.still 8 .done)))))) _ a7 (List.Sublist.refl _) ?_;refine gj ?_;refine iN ?_;refine cZ rfl (da 4) ?_;refine iN ?_;refine cZ rfl (da 4) ?_;refine cZ rfl (dA rfl rfl (SlD.mono (rep:=cP) (fun _ _ _ _=>R_List_GChoice.mono) hx__1 le1_2).1 (SlD.mono (rep:=cP) (fun _ _ _ _=>R_List_GChoice.mono) hx__1 le1_2).2.1) ?_;have hm32:x_.Lemmas.length≤9223372036854775807:=(SlD.mono (rep:=cP) (fun _ _ _ _=>R_List_GChoice.mono) hx__1 le1_2).2.1▸(SlD.mono (rep:=cP) (fun _ _ _ _=>R_List_GChoice.mono) hx__1 le1_2).1.max;refine dQ ?_;refine dx rfl (Wt.none) rfl rfl (ee [0,1,2,3,4,5] [.row g18_n 144 ((((r18.1.getD default).domains).1.map U)++([.pointer (some ⟨k18_n_512.sp,0,none⟩),v18_n_513]:List Value)), .sl v18_n_513 50 1 ((r18.1.getD default).list).length c18_n_513.flatten] [.row g4 33 [(.slice none 0 0),(.slice none 0 0)], .row g3 33 [vx__0,vx__1], .row g2 29 [vp_0,vp_1,vp_2,vp_3]] rfl rfl rfl rfl a6 (fun w hw hw2 hF=>(zbi _ w hF (r18.1.getD default) g18_n k18_n_512 v18_n_512 L18_n_512 hs18_n_512 tf18_n_512 zf18_n_512 v18_n_513 c18_n_513 ho18_n_513 (htk hw) hw2.takes.1 hw2.takes.2 (hw2.takes0 hM0 htab.pos) r26 hr26).mono (fun e w' hp=>hp.1 h3))) ?_;rintro _ _ ⟨⟨g26_n,k26_n_512,v26_n_512,L26_n_512,v26_n_513,c26_n_513⟩,F3,le2_3,⟨hs26_n_512,tf26_n_512,zf26_n_512,ho26_n_513⟩,rfl,rfl⟩;refine eS ?_; (try dsimp only at hs26_n_512 tf26_n_512 zf26_n_512 ho26_n_513);have le1_3:=le1_2.trans le2_3;refine ⟨(fun w hw=>(hw.frLe (i:=4) rfl le2_3).sub Sx),?_⟩;refine kr 3 rfl ?_;intro iv26_n_513 hmv26_n_513;refine dQ ?_;refine dx rfl (Wt.none) rfl rfl (ee [2,3,4,0,1,5,6,7] [.row g26_n 144 ((((r26.getD default).domains).1.map U)++([.pointer (some ⟨k26_n_512.sp,0,none⟩),v26_n_513]:List Value)), .sl v26_n_513 50 1 ((r26.getD default).list).length c26_n_513.flatten] [.row g18_n 144 ((((r18.1.getD default).domains).1.map U)++([.pointer (some ⟨k18_n_512.sp,0,none⟩),v18_n_513]:List Value)), .sl v18_n_513 50 1 ((r18.1.getD default).list).length c18_n_513.flatten, .row g4 33 [(.slice none 0 0),(.slice none 0 0)], .row g3 33 [vx__0,vx__1], .row g2 29 [vp_0,vp_1,vp_2,vp_3]] rfl rfl rfl rfl a6 (fun w hw hw2 hF=>zdn _ w hF (r26.getD default) g26_n k26_n_512 v26_n_512 L26_n_512 hs26_n_512 tf26_n_512 zf26_n_512 v26_n_513 c26_n_513 ho26_n_513 x_.Lemmas vx__1 cx__1 (SlD.mono (rep:=cP) (fun _ _ _ _=>R_List_GChoice.mono) hx__1 le1_3) (htk hw) hw2.takes.1 hw2.takes.2 (hw2.takes0 hM0 htab.pos) fuel hfu r29 hr29)) ?_;rintro _ _ ⟨⟨v29_1_513,c29_1_513⟩,F4,le3_4,ho29_1_513,rfl,rfl⟩;refine eS ?_; (try dsimp only at ho29_1_513);have le1_4:=le1_3.trans le3_4;have le2_4:=le2_3.trans le3_4;refine ⟨(fun w hw=>(hw.frLe (i:=2) rfl le2_4).pick (idx:=[3,4,2,5,6,7]) rfl a6),?_⟩;refine kr 1 rfl ?_;intro iv29_1_513 hmv29_1_513;refine kQ ?_;refine T.cond rfl (fun h4=>?_) (fun h4=>?_)
    ·have p4:=of_decide_eq_true h4;replace hk:=dC hk h4;refine dm ?_;refine jy ?_;refine eE (dF 5) ?_;refine mr ?_;refine kh ?_;obtain rfl:=Option.some.inj hk;exact fO 5 rfl rfl rfl rfl rfl (fun w' hw=>⟨((.slice none 0 0),(.slice none 0 0),[]),F4.toFrz,⟨(SlC.nil _ 1),(SlD.nil _ _ 1)⟩,rfl,eD hw (i:=2) rfl hS0 le1_4⟩)
    ·have p4:=of_decide_eq_false h4;replace hk:=dD hk h4;refine gW ?_;refine fy ?_;refine cR (da 6) ?_;refine cR (dA rfl rfl (SlD.mono (rep:=cP) (fun _ _ _ _=>R_List_GChoice.mono) hx__1 le1_4).1 (SlD.mono (rep:=cP) (fun _ _ _ _=>R_List_GChoice.mono) hx__1 le1_4).2.1) ?_;refine q15 ?_;refine gz ?_;refine jj ?_;rintro _ _ ⟨g39,rfl,rfl⟩;have hl39:OwnD cP F4.toFrz 1 [[(.slice none 0 0)]] ([[]]:List (List GChoice)):=(dn (OwnD.nil _ _ 1) ⟨_,rfl,(SlC.nil _ 2)⟩);refine TL.litO 0 (m:=1) (size:=1) (k:=([[]]:List (List GChoice)).length) (l2:=[[(.slice none 0 0)]].flatten) rfl rfl rfl rfl a6 ?_;dsimp only [List.set];refine l5 ?_;refine q15 ?_;refine dL ?_;have hq:=eN hk;clear hk;obtain ⟨k6,hk6,hk⟩:=hq; (try dsimp only at hk);refine dk (ι:=List (List GChoice)×Value×List (List Value)×FzB w (fun _=>False) S0) (fun z=>[(3, .pointer (some ⟨g3,0,none⟩)),(4, .pointer (some ⟨g4,0,none⟩)),(9,z.2.1)]) (fun z=>[.sl z.2.1 50 1 z.1.length z.2.2.1.flatten, .row g4 33 [(.slice none 0 0),(.slice none 0 0)], .row g3 33 [vx__0,vx__1], .fr z.2.2.2]) (fun z=>k6 z.1=some r∧OwnD cP z.2.2.2.toFrz 1 z.2.2.1 z.1∧OneC z.2.1∧F4.toFrz.Le z.2.2.2.toFrz) ?_ ?_
     ·have hq:(-1≤(((x_.Lemmas.length:Int) - 1) - 1))∧_:=eW hk;clear hk;obtain ⟨gl8,hk⟩:=hq; (try dsimp only at hk);have hq:=zj1 hk;clear hk;obtain ⟨f8,kk8,hf8,hkk8,hk⟩:=hq;refine fJ ?_;refine T.pick [0,4,5,6,7,3] rfl a6 ?_;refine T.loop (ι:=Nat×List (List GChoice)×Value×List (List Value)×FzB w (fun _=>False) S0) (fun z=>[(3, .pointer (some ⟨g3,0,none⟩)),(4, .pointer (some ⟨g4,0,none⟩)),(6, .pointer (some ⟨g18_n,0,none⟩)),(9,z.2.2.1),(10, .int .i64 ((z.1:Int) - 1))]) (fun z=>[.sl z.2.2.1 50 1 z.2.1.length z.2.2.2.1.flatten, .row g18_n 144 ((((r18.1.getD default).domains).1.map U)++[.pointer (some ⟨k18_n_512.sp,0,none⟩),v18_n_513]), .sl v18_n_513 50 1 ((r18.1.getD default).list).length c18_n_513.flatten, .row g4 33 [(.slice none 0 0),(.slice none 0 0)], .row g3 33 [vx__0,vx__1], .fr z.2.2.2.2]) (fun z=>mU f8 kk8 z.1 z.2.1=some r∧z.1≤((((x_.Lemmas.length:Int) - 1) - 1)+1).toNat∧OwnD cP z.2.2.2.2.toFrz 1 z.2.2.2.1 z.2.1∧OneC z.2.2.1∧F4.toFrz.Le z.2.2.2.2.toFrz) (fun z=>z.1) (((((x_.Lemmas.length:Int) - 1) - 1)+1).toNat,([[]]:List (List GChoice)),(.slice (some ⟨g39,0,none⟩) 1 1),[[(.slice none 0 0)]],F4) ?_ ?_ ?_ ?_
      ·exact ⟨hk,(Nat.le_refl _),hl39,inferInstance,(Frz.Le.refl _)⟩
      ·exact (.c (.c (.c (.c (.i (a:=(((x_.Lemmas.length:Int) - 1) - 1)) (by first|omega|(dsimp only;omega)) .nil)))))
      ·exact fx
      ·rintro ⟨i_9,later_7,vlater_7,clater_7,F6⟩ ⟨hk,hle8,hlater_7,olater_7,le4_6⟩; (try dsimp only at *);have le1_6:=le1_4.trans le4_6;have le2_6:=le2_4.trans le4_6;have le3_6:=le3_4.trans le4_6;refine jS ?_;refine TL.ns ?_;refine T.cond rfl (fun h10=>?_) (fun h10=>?_)
       ·have p10:=of_decide_eq_true h10;obtain ⟨i_9',rfl⟩:∃q,i_9=q+1:=⟨i_9 - 1,by omega⟩;replace hk:f8 i_9' (mU f8 kk8 i_9') later_7=some r:=hk;generalize hn8:mU f8 kk8 i_9'=next8 at hk;rw [←hf8] at hk; (try dsimp only at hk);refine mR (gs:=[(3, .pointer (some ⟨g3,0,none⟩)),(4, .pointer (some ⟨g4,0,none⟩)),(6, .pointer (some ⟨g18_n,0,none⟩)),(9,vlater_7),(10, .int .i64 (i_9':Int))]) (by repeat (first|exact Sub.nil|refine Sub.cons rfl ?_|refine fc rfl a5 ?_|refine jQ rfl cK ?_)) (List.Sublist.refl _) ?_;refine kq ?_;have hq:=dV hk;clear hk;obtain ⟨r47,hr47,hk⟩:=hq; (try dsimp only at hk);refine iH ((r47).isSome) (fun h11=>?_) (fun h11=>?_)
        ·replace hk:=dC hk h11;refine fk ?_;refine cX (ee [1,2,5,0,3,4] [.row g18_n 144 ((((r18.1.getD default).domains).1.map U)++([.pointer (some ⟨k18_n_512.sp,0,none⟩),v18_n_513]:List Value)), .sl v18_n_513 50 1 ((r18.1.getD default).list).length c18_n_513.flatten] [.sl vlater_7 50 1 later_7.length clater_7.flatten, .row g4 33 [(.slice none 0 0),(.slice none 0 0)], .row g3 33 [vx__0,vx__1]] rfl rfl rfl rfl a6 (fun w hw hw2 hF=>(zbi _ w hF (r18.1.getD default) g18_n k18_n_512 v18_n_512 L18_n_512 hs18_n_512 (tf18_n_512.mono le2_6) (zf18_n_512.mono le2_6) v18_n_513 c18_n_513 (OwnD.mono (rep:=cP) (fun _ _ _ _=>R_List_GChoice.mono) ho18_n_513 le2_6) (htk hw) hw2.takes.1 hw2.takes.2 (hw2.takes0 hM0 htab.pos) r47 hr47).mono (fun e w' hp=>hp.1 h11))) ?_;rintro _ _ ⟨⟨g47_n,k47_n_512,v47_n_512,L47_n_512,v47_n_513,c47_n_513⟩,F7,le6_7,⟨hs47_n_512,tf47_n_512,zf47_n_512,ho47_n_513⟩,rfl,rfl⟩;refine eS ?_; (try dsimp only at hs47_n_512 tf47_n_512 zf47_n_512 ho47_n_513);have le1_7:=le1_6.trans le6_7;have le2_7:=le2_6.trans le6_7;have le3_7:=le3_6.trans le6_7;have le4_7:=le4_6.trans le6_7;refine gF 3 rfl ?_;intro iv47_n_513 hmv47_n_513;refine i2 ?_;refine q2E ?_;refine dp ?_;refine cR (Yv.co (i:=i_9') rfl rfl rfl (SlD.mono (rep:=cP) (fun _ _ _ _=>R_List_GChoice.mono) hx__1 le1_7).1 (SlD.mono (rep:=cP) (fun _ _ _ _=>R_List_GChoice.mono) hx__1 le1_7).2.1 rfl a5) ?_;have hs51_:SlD cP F1.toFrz (kR vx__1 0 i_9' 1) 1 (cx__1.take i_9') (x_.Lemmas.take i_9'):=hx__1.sliceh (i:=i_9') a5;haveI:=hs51_.1.oneC;refine cR (dA rfl rfl (SlD.mono (rep:=cP) (fun _ _ _ _=>R_List_GChoice.mono) hs51_ le1_7).1 (SlD.mono (rep:=cP) (fun _ _ _ _=>R_List_GChoice.mono) hs51_ le1_7).2.1) ?_;have hm52:(x_.Lemmas.take i_9').length≤9223372036854775807:=(SlD.mono (rep:=cP) (fun _ _ _ _=>R_List_GChoice.mono) hs51_ le1_7).2.1▸(SlD.mono (rep:=cP) (fun _ _ _ _=>R_List_GChoice.mono) hs51_ le1_7).1.max;refine dL ?_;have hq:=eN hk;clear hk;obtain ⟨k13,hk13,hk⟩:=hq; (try dsimp only at hk);refine dk (ι:=List (List GChoice)×Value×List (List Value)×FzB w (fun _=>False) S0) (fun z=>[(3, .pointer (some ⟨g3,0,none⟩)),(4, .pointer (some ⟨g4,0,none⟩)),(6, .pointer (some ⟨g18_n,0,none⟩)),(9,vlater_7),(10, .int .i64 (i_9':Int)),(11, .pointer (some ⟨g47_n,0,none⟩))]) (fun z=>[.sl z.2.1 50 1 z.1.length z.2.2.1.flatten, .row g47_n 144 ((((r47.getD default).domains).1.map U)++[.pointer (some ⟨k47_n_512.sp,0,none⟩),z.2.1]), .row g18_n 144 ((((r18.1.getD default).domains).1.map U)++[.pointer (some ⟨k18_n_512.sp,0,none⟩),v18_n_513]), .sl v18_n_513 50 1 ((r18.1.getD default).list).length c18_n_513.flatten, .sl vlater_7 50 1 later_7.length clater_7.flatten, .row g4 33 [(.slice none 0 0),(.slice none 0 0)], .row g3 33 [vx__0,vx__1], .fr z.2.2.2]) (fun z=>k13 z.1=some r∧OwnD cP z.2.2.2.toFrz 1 z.2.2.1 z.1∧OneC z.2.1∧F7.toFrz.Le z.2.2.2.toFrz) ?_ ?_
         ·have hq:=fS hk;clear hk;obtain ⟨f15,kk15,hf15,hkk15,hk⟩:=hq;refine fJ ?_;refine T.pick [3,2,0,1,5,6,7,4] rfl a6 ?_;refine T.loop (ι:=Nat×List (List GChoice)×Value×List (List Value)×FzB w (fun _=>False) S0) (fun z=>[(3, .pointer (some ⟨g3,0,none⟩)),(4, .pointer (some ⟨g4,0,none⟩)),(6, .pointer (some ⟨g18_n,0,none⟩)),(9,vlater_7),(10, .int .i64 (i_9':Int)),(11, .pointer (some ⟨g47_n,0,none⟩)),(51,(kR vx__1 0 i_9' 1)),(52, .int .i64 ((x_.Lemmas.take i_9').length:Int)),(53, .int .i64 (z.1:Int))]) (fun z=>[.sl z.2.2.1 50 1 z.2.1.length z.2.2.2.1.flatten, .row g47_n 144 ((((r47.getD default).domains).1.map U)++[.pointer (some ⟨k47_n_512.sp,0,none⟩),z.2.2.1]), .row g18_n 144 ((((r18.1.getD default).domains).1.map U)++[.pointer (some ⟨k18_n_512.sp,0,none⟩),v18_n_513]), .sl v18_n_513 50 1 ((r18.1.getD default).list).length c18_n_513.flatten, .sl vlater_7 50 1 later_7.length clater_7.flatten, .row g4 33 [(.slice none 0 0),(.slice none 0 0)], .row g3 33 [vx__0,vx__1], .fr z.2.2.2.2]) (fun z=>di f15 kk15 (((x_.Lemmas.take i_9').length) - z.1) z.1 z.2.1=some r∧OwnD cP z.2.2.2.2.toFrz 1 z.2.2.2.1 z.2.1∧OneC z.2.2.1∧F7.toFrz.Le z.2.2.2.2.toFrz) (fun z=>((x_.Lemmas.take i_9').length) - z.1) (0,(r47.getD default).list,v47_n_513,c47_n_513,F7) ?_ ?_ ?_ ?_
          ·exact ⟨hk,ho47_n_513,inferInstance,(Frz.Le.refl _)⟩
          ·exact q4s
          ·exact fx
          ·rintro ⟨i_16,c_14,vc_14,cc_14,F9⟩ ⟨hk,hc_14,oc_14,le7_9⟩; (try dsimp only at *);have le1_9:=le1_7.trans le7_9;refine eR ?_;refine T.cond rfl (fun h17=>?_) (fun h17=>?_)
           ·have p17:=of_decide_eq_true h17;rw [fT a5] at hk;generalize hn15:di f15 kk15 (((x_.Lemmas.take i_9').length) - (i_16+1)) (i_16+1)=next15 at hk;rw [←hf15] at hk; (try dsimp only at hk);refine fH ?_;refine cR (dH (i:=i_16) rfl rfl rfl (SlD.mono (rep:=cP) (fun _ _ _ _=>R_List_GChoice.mono) hs51_ le1_9).1 (SlD.mono (rep:=cP) (fun _ _ _ _=>R_List_GChoice.mono) hs51_ le1_9).2.1 rfl a5) ?_;refine cR (eo 7 (i:=i_16) (j:=0) rfl rfl rfl (SlD.mono (rep:=cP) (fun _ _ _ _=>R_List_GChoice.mono) hs51_ le1_9).1 (SlD.mono (rep:=cP) (fun _ _ _ _=>R_List_GChoice.mono) hs51_ le1_9).2.1 a5 rfl (R_List_GChoice.c0 ((SlD.mono (rep:=cP) (fun _ _ _ _=>R_List_GChoice.mono) hs51_ le1_9).2.2 i_16 a5)).1) ?_;have hd56_0:=(R_List_GChoice.c0 ((SlD.mono (rep:=cP) (fun _ _ _ _=>R_List_GChoice.mono) hs51_ le1_9).2.2 i_16 a5)).2;haveI:=hd56_0.oneC;refine dL ?_;have hq:=dV hk;clear hk;obtain ⟨r59,hr59,hk⟩:=hq; (try dsimp only at hk);refine gp ?_;refine cX (ee [1,0,7,2,3,4,5,6] [.row g47_n 144 ((((r47.getD default).domains).1.map U)++([.pointer (some ⟨k47_n_512.sp,0,none⟩),vc_14]:List Value)), .sl vc_14 50 1 c_14.length cc_14.flatten] [.row g18_n 144 ((((r18.1.getD default).domains).1.map U)++([.pointer (some ⟨k18_n_512.sp,0,none⟩),v18_n_513]:List Value)), .sl v18_n_513 50 1 ((r18.1.getD default).list).length c18_n_513.flatten, .sl vlater_7 50 1 later_7.length clater_7.flatten, .row g4 33 [(.slice none 0 0),(.slice none 0 0)], .row g3 33 [vx__0,vx__1]] rfl rfl rfl rfl a6 (fun w hw hw2 hF=>zbV _ w hF (GStore.mk ((r47.getD default).domains) (((r47.getD default).start).1,((r47.getD default).start).2) c_14) g47_n k47_n_512 v47_n_512 L47_n_512 hs47_n_512 (tf47_n_512.mono le7_9) (zf47_n_512.mono le7_9) vc_14 cc_14 hc_14 (cQ (x_.Lemmas.take i_9') i_16) (cQ (cQ (cx__1.take i_9') i_16) 0) hd56_0 hw2.takes.1 hw2.takes.2 r59 hr59)) ?_;rintro _ _ ⟨⟨v59_1_513,c59_1_513⟩,F10,le9_10,ho59_1_513,rfl,rfl⟩;refine eS ?_; (try dsimp only at ho59_1_513);have le7_10:=le7_9.trans le9_10;refine gF 1 rfl ?_;intro iv59_1_513 hmv59_1_513;refine l6 ?_;rw [←hn15] at hk;refine K.pick [1,0,3,4,5,6,7,2] rfl a6 ?_;exact K.next ((i_16+1),r59.2,v59_1_513,c59_1_513,F10) ⟨hk,ho59_1_513,inferInstance,le7_10⟩ a9 (.c (.c (.c (.c (.c (.c (.c (.c (.c .nil))))))))) (List.Sublist.refl _)
           ·have p17:=of_decide_eq_false h17;rw [fR a5,←hkk15] at hk; (try dsimp only at hk);refine fi ?_;exact c4 (c_14,vc_14,cc_14,F9) ⟨hk,hc_14,inferInstance,le7_9⟩ (.c (.c (.c (.c (.c (.c .nil)))))) (List.Sublist.refl _)
         ·rintro ⟨c_12,vc_12,cc_12,F8⟩ ⟨hk,hc_12,oc_12,le7_8⟩; (try dsimp only at *);rw [←hk13] at hk; (try dsimp only at hk);have le1_8:=le1_7.trans le7_8;have le2_8:=le2_7.trans le7_8;have le3_8:=le3_7.trans le7_8;have le4_8:=le4_7.trans le7_8;have le6_8:=le6_7.trans le7_8;refine T.seq ?_;have hq:(dd later_7.length 24)∧_:=eW hk;clear hk;obtain ⟨g62,hk⟩:=hq; (try dsimp only at hk);refine fk ?_;refine cX (jr rfl rfl rfl (fun w hw=>(hw.bor (i:=7) (j:=4) rfl rfl).elim fun F9 b=>have le8_11:=b.1.le;have le1_11:=le1_8.trans le8_11;have le2_11:=le2_8.trans le8_11;have le3_11:=le3_8.trans le8_11;have le4_11:=le4_8.trans le8_11;have le6_11:=le6_8.trans le8_11;have le7_11:=le7_8.trans le8_11;zfu F9 w b.1.at_ later_7 vlater_7 clater_7 (b.2.toD (OwnD.mono (rep:=cP) (fun _ _ _ _=>R_List_GChoice.mono) hlater_7 le6_11) rfl) g62)) ?_;rintro v62_ _ ⟨_,_,rfl,rfl⟩;refine q23 ?_;intro iv62_ hmv62_;refine kH ?_;refine cX (dI [0,8,1,2,3,4,5,6,7] [.sl v62_ 50 1 later_7.length clater_7.flatten] [.sl vc_12 50 1 c_12.length cc_12.flatten, .row g47_n 144 ((((r47.getD default).domains).1.map U)++([.pointer (some ⟨k47_n_512.sp,0,none⟩),vc_12]:List Value)), .row g18_n 144 ((((r18.1.getD default).domains).1.map U)++([.pointer (some ⟨k18_n_512.sp,0,none⟩),v18_n_513]:List Value)), .sl v18_n_513 50 1 ((r18.1.getD default).list).length c18_n_513.flatten, .sl vlater_7 50 1 later_7.length clater_7.flatten, .row g4 33 [(.slice none 0 0),(.slice none 0 0)], .row g3 33 [vx__0,vx__1]] rfl rfl rfl rfl a6 (fun w hw hw2 hF=>zhx _ w hF later_7 v62_ clater_7 (OwnD.mono (rep:=cP) (fun _ _ _ _=>R_List_GChoice.mono) hlater_7 le6_8) hw2.takes.1 hw2.takes.2)) ?_;rintro _ _ ⟨c64_0_l,ho64_0_l,rfl,rfl⟩;refine eS ?_;refine gU ?_;refine q3b ?_;rintro F12 ⟨le8_12,hz12⟩;refine gY ?_;have le1_12:=le1_8.trans le8_12;have le4_12:=le4_8.trans le8_12;have le6_12:=le6_8.trans le8_12;have le7_12:=le7_8.trans le8_12;have hf12:=hz12.toD (OwnD.mono (rep:=cP) (fun _ _ _ _=>R_List_GChoice.mono) ho64_0_l le8_12) rfl;haveI:=hf12.1.oneC;have hq:=dV hk;clear hk;obtain ⟨r67,hr67,hk⟩:=hq; (try dsimp only at hk);refine gp ?_;refine cX (ee [2,1,0,3,4,5,6,7] [.row g47_n 144 ((((r47.getD default).domains).1.map U)++([.pointer (some ⟨k47_n_512.sp,0,none⟩),vc_12]:List Value)), .sl vc_12 50 1 c_12.length cc_12.flatten] [.row g18_n 144 ((((r18.1.getD default).domains).1.map U)++([.pointer (some ⟨k18_n_512.sp,0,none⟩),v18_n_513]:List Value)), .sl v18_n_513 50 1 ((r18.1.getD default).list).length c18_n_513.flatten, .sl vlater_7 50 1 later_7.length clater_7.flatten, .row g4 33 [(.slice none 0 0),(.slice none 0 0)], .row g3 33 [vx__0,vx__1]] rfl rfl rfl rfl a6 (fun w hw hw2 hF=>zdn _ w hF (GStore.mk ((r47.getD default).domains) (((r47.getD default).start).1,((r47.getD default).start).2) c_12) g47_n k47_n_512 v47_n_512 L47_n_512 hs47_n_512 (tf47_n_512.mono le7_12) (zf47_n_512.mono le7_12) vc_12 cc_12 (OwnD.mono (rep:=cP) (fun _ _ _ _=>R_List_GChoice.mono) hc_12 le8_12) (zdt later_7) v62_ c64_0_l hf12 (htk hw) hw2.takes.1 hw2.takes.2 (hw2.takes0 hM0 htab.pos) fuel hfu r67 hr67)) ?_;rintro _ _ ⟨⟨v67_1_513,c67_1_513⟩,F13,le12_13,ho67_1_513,rfl,rfl⟩;refine eS ?_; (try dsimp only at ho67_1_513);have le1_13:=le1_12.trans le12_13;have le4_13:=le4_12.trans le12_13;have le6_13:=le6_12.trans le12_13;refine gF 1 rfl ?_;intro iv67_1_513 hmv67_1_513;refine dp ?_;refine cR (dA rfl rfl (SlD.mono (rep:=cP) (fun _ _ _ _=>R_List_GChoice.mono) hf12 le12_13).1 (SlD.mono (rep:=cP) (fun _ _ _ _=>R_List_GChoice.mono) hf12 le12_13).2.1) ?_;have hm69:(zdt later_7).length≤9223372036854775807:=(SlD.mono (rep:=cP) (fun _ _ _ _=>R_List_GChoice.mono) hf12 le12_13).2.1▸(SlD.mono (rep:=cP) (fun _ _ _ _=>R_List_GChoice.mono) hf12 le12_13).1.max;refine dL ?_;refine T.cond rfl (fun h18=>?_) (fun h18=>?_)
          ·have p18:=of_decide_eq_true h18;replace hk:=dC hk h18;have hq:(dd ((cQ x_.Lemmas i_9').length) 16)∧_:=eW hk;clear hk;obtain ⟨g77,hk⟩:=hq;have hq:(dd (later_7++[(cQ x_.Lemmas i_9')]).length 24)∧_:=eW hk;clear hk;obtain ⟨g79,hk⟩:=hq; (try dsimp only at hk);refine fk ?_;refine q2E ?_;refine dp ?_;refine cR (dH (i:=i_9') rfl rfl rfl (SlD.mono (rep:=cP) (fun _ _ _ _=>R_List_GChoice.mono) hx__1 le1_13).1 (SlD.mono (rep:=cP) (fun _ _ _ _=>R_List_GChoice.mono) hx__1 le1_13).2.1 rfl a5) ?_;refine cR (eo 2 (i:=i_9') (j:=0) rfl rfl rfl (SlD.mono (rep:=cP) (fun _ _ _ _=>R_List_GChoice.mono) hx__1 le1_13).1 (SlD.mono (rep:=cP) (fun _ _ _ _=>R_List_GChoice.mono) hx__1 le1_13).2.1 a5 rfl (R_List_GChoice.c0 ((SlD.mono (rep:=cP) (fun _ _ _ _=>R_List_GChoice.mono) hx__1 le1_13).2.2 i_9' a5)).1) ?_;have hd76_0:=(R_List_GChoice.c0 ((SlD.mono (rep:=cP) (fun _ _ _ _=>R_List_GChoice.mono) hx__1 le1_13).2.2 i_9' a5)).2;haveI:=hd76_0.oneC;refine cX (eg 2 rfl rfl rfl rfl (fun w hw hF=>zgi _ w hF (cQ x_.Lemmas i_9') (cQ (cQ cx__1 i_9') 0) hd76_0 g77)) ?_;rintro _ _ ⟨v77_,F14,le13_14,hf77,hq,rfl⟩;obtain rfl:=hq.symm;have le4_14:=le4_13.trans le13_14;have le6_14:=le6_13.trans le13_14;haveI:=hf77.oneC;refine jj ?_;rintro _ _ ⟨g78,rfl,rfl⟩;have hl78:OwnD cP F14.toFrz 1 [[v77_]] [(cQ x_.Lemmas i_9')]:=(dn (OwnD.nil _ _ 1) ⟨_,rfl,hf77⟩);refine cX (fj 6 0 rfl rfl rfl rfl rfl rfl (j2 (ys:=[(cQ x_.Lemmas i_9')])) (zb8 (cs:=clater_7) (ds:=[[v77_]])) g79 a6) ?_;rintro v79 _ ⟨hv79,rfl⟩;have ho79:OwnD cP F14.toFrz 1 (clater_7++[[v77_]]) (later_7++[(cQ x_.Lemmas i_9')]):=(dn (OwnD.mono (rep:=cP) (fun _ _ _ _=>R_List_GChoice.mono) hlater_7 le6_14) ⟨_,rfl,hf77⟩);refine dp ?_;refine TL.nil (fI (K.seq (T.region ?_)));refine dp ?_;refine q15 ?_;refine dp ?_;refine TL.nil ?_;rw [←hn8] at hk;refine K.pick [6,4,5,7,8,3] rfl a6 ?_;exact K.next (i_9',(later_7++[(cQ x_.Lemmas i_9')]),v79,(clater_7++[[v77_]]),F14) ⟨hk,a9,ho79,inferInstance,le4_14⟩ a9 (.c (.c (.c (.c (.c .nil))))) (List.Sublist.refl _)
          ·have p18:=of_decide_eq_false h18;replace hk:=dD hk h18;refine q0A ?_;refine dp ?_;refine q15 ?_;refine dp ?_;refine TL.nil ?_;rw [←hn8] at hk;refine K.pick [5,3,4,6,7,2] rfl a6 ?_;exact K.next (i_9',later_7,vlater_7,clater_7,F13) ⟨hk,a9,(OwnD.mono (rep:=cP) (fun _ _ _ _=>R_List_GChoice.mono) hlater_7 le6_13),inferInstance,le4_13⟩ a9 (.c (.c (.c (.c (.c .nil))))) (List.Sublist.refl _)
        ·replace hk:=dD hk h11;refine fk ?_;refine cX (ee [1,2,5,0,3,4] [.row g18_n 144 ((((r18.1.getD default).domains).1.map U)++([.pointer (some ⟨k18_n_512.sp,0,none⟩),v18_n_513]:List Value)), .sl v18_n_513 50 1 ((r18.1.getD default).list).length c18_n_513.flatten] [.sl vlater_7 50 1 later_7.length clater_7.flatten, .row g4 33 [(.slice none 0 0),(.slice none 0 0)], .row g3 33 [vx__0,vx__1]] rfl rfl rfl rfl a6 (fun w hw hw2 hF=>(zbi _ w hF (r18.1.getD default) g18_n k18_n_512 v18_n_512 L18_n_512 hs18_n_512 (tf18_n_512.mono le2_6) (zf18_n_512.mono le2_6) v18_n_513 c18_n_513 (OwnD.mono (rep:=cP) (fun _ _ _ _=>R_List_GChoice.mono) ho18_n_513 le2_6) (htk hw) hw2.takes.1 hw2.takes.2 (hw2.takes0 hM0 htab.pos) r47 hr47).mono (fun e w' hp=>hp.2 h11))) ?_;rintro _ _ ⟨⟨⟩,F15,le6_15, -,rfl,rfl⟩;refine eS ?_;have le1_15:=le1_6.trans le6_15;have le2_15:=le2_6.trans le6_15;have le3_15:=le3_6.trans le6_15;have le4_15:=le4_6.trans le6_15;refine i2 ?_;refine fy ?_;refine cR (da 5) ?_;refine dp ?_;refine cR (Yv.co (i:=i_9') rfl rfl rfl (SlD.mono (rep:=cP) (fun _ _ _ _=>R_List_GChoice.mono) hx__1 le1_15).1 (SlD.mono (rep:=cP) (fun _ _ _ _=>R_List_GChoice.mono) hx__1 le1_15).2.1 rfl a5) ?_;have hs51_:SlD cP F1.toFrz (kR vx__1 0 i_9' 1) 1 (cx__1.take i_9') (x_.Lemmas.take i_9'):=hx__1.sliceh (i:=i_9') a5;haveI:=hs51_.1.oneC;refine cR (dA rfl rfl (SlD.mono (rep:=cP) (fun _ _ _ _=>R_List_GChoice.mono) hs51_ le1_15).1 (SlD.mono (rep:=cP) (fun _ _ _ _=>R_List_GChoice.mono) hs51_ le1_15).2.1) ?_;have hm52:(x_.Lemmas.take i_9').length≤9223372036854775807:=(SlD.mono (rep:=cP) (fun _ _ _ _=>R_List_GChoice.mono) hs51_ le1_15).2.1▸(SlD.mono (rep:=cP) (fun _ _ _ _=>R_List_GChoice.mono) hs51_ le1_15).1.max;refine dL ?_;have hq:=eN hk;clear hk;obtain ⟨k19,hk19,hk⟩:=hq; (try dsimp only at hk);refine dk (ι:=FzB w (fun _=>False) S0) (fun z=>[(3, .pointer (some ⟨g3,0,none⟩)),(4, .pointer (some ⟨g4,0,none⟩)),(6, .pointer (some ⟨g18_n,0,none⟩)),(9,vlater_7),(10, .int .i64 (i_9':Int)),(11, .pointer none)]) (fun z=>[.row g18_n 144 ((((r18.1.getD default).domains).1.map U)++[.pointer (some ⟨k18_n_512.sp,0,none⟩),v18_n_513]), .sl v18_n_513 50 1 ((r18.1.getD default).list).length c18_n_513.flatten, .sl vlater_7 50 1 later_7.length clater_7.flatten, .row g4 33 [(.slice none 0 0),(.slice none 0 0)], .row g3 33 [vx__0,vx__1], .fr z]) (fun z=>k19 ()=some r∧F15.toFrz.Le z.toFrz) ?_ ?_
         ·have hq:=fS hk;clear hk;obtain ⟨f20,kk20,hf20,hkk20,hk⟩:=hq;refine fJ ?_;refine T.pick [0,1,3,4,5,2] rfl a6 ?_;refine T.loop (ι:=Nat×FzB w (fun _=>False) S0) (fun z=>[(3, .pointer (some ⟨g3,0,none⟩)),(4, .pointer (some ⟨g4,0,none⟩)),(6, .pointer (some ⟨g18_n,0,none⟩)),(9,vlater_7),(10, .int .i64 (i_9':Int)),(11, .pointer none),(51,(kR vx__1 0 i_9' 1)),(52, .int .i64 ((x_.Lemmas.take i_9').length:Int)),(53, .int .i64 (z.1:Int))]) (fun z=>[.row g18_n 144 ((((r18.1.getD default).domains).1.map U)++[.pointer (some ⟨k18_n_512.sp,0,none⟩),v18_n_513]), .sl v18_n_513 50 1 ((r18.1.getD default).list).length c18_n_513.flatten, .sl vlater_7 50 1 later_7.length clater_7.flatten, .row g4 33 [(.slice none 0 0),(.slice none 0 0)], .row g3 33 [vx__0,vx__1], .fr z.2]) (fun z=>di f20 kk20 (((x_.Lemmas.take i_9').length) - z.1) z.1 ()=some r∧F15.toFrz.Le z.2.toFrz) (fun z=>((x_.Lemmas.take i_9').length) - z.1) (0,F15) ?_ ?_ ?_ ?_
          ·exact ⟨hk,(Frz.Le.refl _)⟩
          ·exact q4s
          ·exact fx
          ·rintro ⟨i_21,F17⟩ ⟨hk,le15_17⟩; (try dsimp only at *);have le1_17:=le1_15.trans le15_17;refine eR ?_;refine T.cond rfl (fun h22=>?_) (fun h22=>?_)
           ·have p22:=of_decide_eq_true h22;rw [fT a5] at hk;generalize hn20:di f20 kk20 (((x_.Lemmas.take i_9').length) - (i_21+1)) (i_21+1)=next20 at hk;rw [←hf20] at hk; (try dsimp only at hk);refine fH ?_;refine cR (dH (i:=i_21) rfl rfl rfl (SlD.mono (rep:=cP) (fun _ _ _ _=>R_List_GChoice.mono) hs51_ le1_17).1 (SlD.mono (rep:=cP) (fun _ _ _ _=>R_List_GChoice.mono) hs51_ le1_17).2.1 rfl a5) ?_;refine cR (eo 5 (i:=i_21) (j:=0) rfl rfl rfl (SlD.mono (rep:=cP) (fun _ _ _ _=>R_List_GChoice.mono) hs51_ le1_17).1 (SlD.mono (rep:=cP) (fun _ _ _ _=>R_List_GChoice.mono) hs51_ le1_17).2.1 a5 rfl (R_List_GChoice.c0 ((SlD.mono (rep:=cP) (fun _ _ _ _=>R_List_GChoice.mono) hs51_ le1_17).2.2 i_21 a5)).1) ?_;have hd56_0:=(R_List_GChoice.c0 ((SlD.mono (rep:=cP) (fun _ _ _ _=>R_List_GChoice.mono) hs51_ le1_17).2.2 i_21 a5)).2;haveI:=hd56_0.oneC;refine dL ?_;cases hk
           ·have p22:=of_decide_eq_false h22;rw [fR a5,←hkk20] at hk; (try dsimp only at hk);refine fi ?_;exact c4 F17 ⟨hk,le15_17⟩ (.c (.c (.c (.c (.c (.c .nil)))))) (List.Sublist.refl _)
         ·rintro F16 ⟨hk,le15_16⟩;rw [←hk19] at hk; (try dsimp only at hk);have le1_16:=le1_15.trans le15_16;have le2_16:=le2_15.trans le15_16;have le3_16:=le3_15.trans le15_16;have le4_16:=le4_15.trans le15_16;have le6_16:=le6_15.trans le15_16;refine T.seq ?_;have hq:(dd later_7.length 24)∧_:=eW hk;clear hk;obtain ⟨g62,hk⟩:=hq; (try dsimp only at hk);refine fk ?_;refine cX (jr rfl rfl rfl (fun w hw=>(hw.bor (i:=5) (j:=2) rfl rfl).elim fun F9 b=>have le16_18:=b.1.le;have le1_18:=le1_16.trans le16_18;have le2_18:=le2_16.trans le16_18;have le3_18:=le3_16.trans le16_18;have le4_18:=le4_16.trans le16_18;have le6_18:=le6_16.trans le16_18;have le15_18:=le15_16.trans le16_18;zfu F9 w b.1.at_ later_7 vlater_7 clater_7 (b.2.toD (OwnD.mono (rep:=cP) (fun _ _ _ _=>R_List_GChoice.mono) hlater_7 le6_18) rfl) g62)) ?_;rintro v62_ _ ⟨_,_,rfl,rfl⟩;refine q23 ?_;intro iv62_ hmv62_;refine kH ?_;refine cX (dI [0,6,1,2,3,4,5] [.sl v62_ 50 1 later_7.length clater_7.flatten] [.row g18_n 144 ((((r18.1.getD default).domains).1.map U)++([.pointer (some ⟨k18_n_512.sp,0,none⟩),v18_n_513]:List Value)), .sl v18_n_513 50 1 ((r18.1.getD default).list).length c18_n_513.flatten, .sl vlater_7 50 1 later_7.length clater_7.flatten, .row g4 33 [(.slice none 0 0),(.slice none 0 0)], .row g3 33 [vx__0,vx__1]] rfl rfl rfl rfl a6 (fun w hw hw2 hF=>zhx _ w hF later_7 v62_ clater_7 (OwnD.mono (rep:=cP) (fun _ _ _ _=>R_List_GChoice.mono) hlater_7 le6_16) hw2.takes.1 hw2.takes.2)) ?_;rintro _ _ ⟨c64_0_l,ho64_0_l,rfl,rfl⟩;refine eS ?_;refine gU ?_;refine q3b ?_;rintro F19 ⟨le16_19,hz19⟩;refine gY ?_;have hf19:=hz19.toD (OwnD.mono (rep:=cP) (fun _ _ _ _=>R_List_GChoice.mono) ho64_0_l le16_19) rfl;haveI:=hf19.1.oneC;cases hk
       ·have p10:=of_decide_eq_false h10;obtain rfl:i_9=0:=a5;replace hk:kk8 later_7=some r:=hk;rw [←hkk8] at hk; (try dsimp only at hk);refine fi ?_;refine K.pick [0,3,4,5] rfl a6 ?_;exact c4 (later_7,vlater_7,clater_7,F6) ⟨hk,hlater_7,inferInstance,le4_6⟩ (.c (.c (.c .nil))) (List.Sublist.refl _)
     ·rintro ⟨later_5,vlater_5,clater_5,F5⟩ ⟨hk,hlater_5,olater_5,le4_5⟩; (try dsimp only at *);rw [←hk6] at hk; (try dsimp only at hk);have le1_5:=le1_4.trans le4_5;refine gh ?_;refine cX (dI [0,3,1,2] [.sl vlater_5 50 1 later_5.length clater_5.flatten] [.row g4 33 [(.slice none 0 0),(.slice none 0 0)], .row g3 33 [vx__0,vx__1]] rfl rfl rfl rfl a6 (fun w hw hw2 hF=>zhx _ w hF later_5 vlater_5 clater_5 hlater_5 hw2.takes.1 hw2.takes.2)) ?_;rintro _ _ ⟨c81_0_l,ho81_0_l,rfl,rfl⟩;refine eS ?_;refine gU ?_;have hq:(dd x_.Stations.length 8)∧_:=eW hk;clear hk;obtain ⟨g84,hk⟩:=hq; (try dsimp only at hk);refine fg ?_;refine fy ?_;refine q2x ?_;refine cX (eg 1 rfl rfl rfl rfl (fun w hw hF=>zfB _ w hF x_.Stations vx__0 (SlC.mono hx__0 le1_5) g84)) ?_;rintro _ _ ⟨v84_,F20,le5_20,hf84,hq,rfl⟩;obtain rfl:=hq.symm;have le1_20:=le1_5.trans le5_20;haveI:=hf84.oneC;refine dp ?_;refine jy ?_;refine eE (dF 2) ?_;refine fb ?_;refine fm ?_;refine q28 ?_;rintro F21 ⟨le20_21,hz21⟩;refine gY ?_;have le1_21:=le1_20.trans le20_21;have le5_21:=le5_20.trans le20_21;have hf21:=hz21.toD (OwnD.mono (rep:=cP) (fun _ _ _ _=>R_List_GChoice.mono) ho81_0_l le5_21) rfl;haveI:=hf21.1.oneC;obtain rfl:=Option.some.inj hk;exact fO 1 rfl rfl rfl rfl rfl (fun w' hw=>⟨(v84_,vlater_5,c81_0_l),F21.toFrz,⟨(SlC.mono hf84 le20_21),hf21⟩,rfl,eD hw (i:=0) rfl hS0 le1_21⟩)
   ·replace hk:=dD hk h3;cases hk
 ·replace hk:=dD hk h1;refine fg ?_;refine cR (dY 2) ?_;refine m2 ?_;refine cX (ee [3,0,1,2] [] [.row g4 33 [(.slice none 0 0),(.slice none 0 0)], .row g3 33 [vx__0,vx__1], .row g2 29 [vp_0,vp_1,vp_2,vp_3]] rfl rfl rfl rfl a6 (fun w hw hw2 hF=>(zc3 _ w hF p vp_0 cp_0 hp_0 vp_1 hp_1 vp_2 hp_2 vp_3 hp_3 x_ vx__0 hx__0 vx__1 cx__1 hx__1 (htk hw) fuel hfu r18 hr18).mono (fun e w' hp=>hp.2 h1))) ?_;rintro _ _ ⟨⟨⟩,F22,le1_22, -,rfl,rfl⟩;refine eS ?_;refine q1l ?_;refine T.cond rfl (fun h23=>?_) (fun h23=>?_)
  ·have p23:=of_decide_eq_true h23;replace hk:=dC hk h23;refine dm ?_;refine jy ?_;refine dp ?_;refine q1U ?_;refine dp ?_;refine kh ?_;obtain rfl:=Option.some.inj hk;exact fO 1 rfl rfl rfl rfl rfl (fun w' hw=>⟨((.slice none 0 0),(.slice none 0 0),[]),F22.toFrz,⟨(SlC.nil _ 1),(SlD.nil _ _ 1)⟩,rfl,eD hw (i:=0) rfl hS0 le1_22⟩)
  ·have p23:=of_decide_eq_false h23;replace hk:=dD hk h23;refine q3m ?_;cases hk
def zbv (fuel:Nat)(x_:GProof):Option (List Int×Int):=
 (zbZ x_).bind fun r12=>
 (bif !r12 then
  some ([],2)
  else
  (ms fuel (GWriter.mk (Gfault.mk 0) []) (x_.Stations.length:Int)).bind fun r17=>
  dN (fun (c_2:List Int)=>
   (ms fuel (GWriter.mk (Gfault.mk 0) c_2) (x_.Lemmas.length:Int)).bind fun r31=>
   dN (fun (c_8:List Int)=>
    (za2 (GWriter.mk (Gfault.mk 0) c_8)).bind fun r56=>
    some (r56.1,r56.2))
   (fun k9=>
    di (fun (i_12:Nat) (next11:List Int→Option (List Int×Int)) (c_10:List Int)=>
     (ms fuel (GWriter.mk (Gfault.mk 0) c_10) ((cQ x_.Lemmas i_12).length:Int)).bind fun r41=>
     di (fun (i_16:Nat) (next15:List Int→Option (List Int×Int)) (c_14:List Int)=>
      (ms fuel (GWriter.mk (Gfault.mk 0) c_14) ((cQ (cQ x_.Lemmas i_12) i_16).Station)).bind fun r50=>
      (ms fuel (GWriter.mk (Gfault.mk 0) r50) ((cQ (cQ x_.Lemmas i_12) i_16).Channel)).bind fun r53=>
      next15 r53)
     (fun (c_14:List Int)=>
      next11 c_14) (((cQ x_.Lemmas i_12).length) - 0) 0 r41)
    (fun (c_10:List Int)=>
     k9 c_10) (x_.Lemmas.length - 0) 0 r31))
  (fun k3=>
   di (fun (i_6:Nat) (next5:List Int→Option (List Int×Int)) (c_4:List Int)=>
    (ms fuel (GWriter.mk (Gfault.mk 0) c_4) (cQ x_.Stations i_6)).bind fun r26=>
    next5 r26)
   (fun (c_4:List Int)=>
    k3 c_4) (x_.Stations.length - 0) 0 r17))
theorem zeM (F0:Frz)(w:World)(hF0:F0.At w)(x_:GProof)(vx__0:Value)(hx__0:SlC F0 vx__0 1 (x_.Stations.map eI))(vx__1:Value)(cx__1:List (List Value))(hx__1:SlD cP F0 vx__1 1 cx__1 x_.Lemmas)(fuel:Nat)(r:List Int×Int)(hr:zbv fuel x_=some r):Calls Tryz.prog 30 #[.agg [vx__0,vx__1].toArray] w fun e w'=>∃(y:Value),(True)∧e= .returned (.tuple #[y, .int .i64 r.2])∧FxM F0 w (dj []) F0 [.sl y 5 1 r.1.length (r.1.flatMap (eK .u8))] w':=by
 have hk:=hr;unfold zbv at hk;haveI:=hx__0.oneC;haveI:=hx__1.1.oneC;obtain ⟨S0,F1,rfl,hS0,hp0⟩:=fE hF0;rw [zet];refine dy Tryz.func30 rfl rfl rfl hp0 ?_;refine kg ?_;rintro _ _ ⟨g1,rfl,rfl⟩;refine ez ?_;refine iZ ?_;have hq:=dV hk;clear hk;obtain ⟨r12,hr12,hk⟩:=hq; (try dsimp only at hk);refine fg ?_;refine iu ?_;refine cX (cS rfl rfl rfl (fun w hw=>zdZ _ w (hw.fr (i:=1) rfl) x_ vx__0 hx__0 vx__1 cx__1 hx__1 r12 hr12)) ?_;refine fb ?_;refine dL ?_;refine T.cond rfl (fun h1=>?_) (fun h1=>?_)
 ·replace hk:=dC hk h1;refine ld ?_;refine K.slNil 5 1 ?_;obtain rfl:=Option.some.inj hk;exact eC rfl rfl rfl (fun w' hw=>⟨(.slice none 0 0),trivial,rfl,dc (hw.pick (idx:=[0,2]) rfl a6) hS0 (Frz.Le.refl _)⟩)
 ·replace hk:=dD hk h1;refine gW ?_;refine gw ?_;rintro _ _ ⟨g4,rfl,rfl⟩;refine TL.slNil 5 1 ?_;refine gU ?_;have hq:=dV hk;clear hk;obtain ⟨r17,hr17,hk⟩:=hq; (try dsimp only at hk);refine fg ?_;refine mg ?_;refine q3P ?_;have hm16:x_.Stations.length≤9223372036854775807:=(List.length_map _)▸hx__0.max;refine cX (dI [1,0,3,2] [.row g4 128 [.int .i64 0,(.slice none 0 0)], .sl (.slice none 0 0) 5 1 ([]:List Int).length ([].flatMap (eK .u8))] [.row g1 33 [vx__0,vx__1]] rfl rfl rfl rfl a6 (fun w hw hw2 hF=>zaJ _ w hF (GWriter.mk (Gfault.mk 0) []) g4 (.slice none 0 0) (x_.Stations.length:Int) hw2.takes.1 hw2.takes.2 fuel r17 hr17)) ?_;rintro _ _ ⟨v17_0_1, -,rfl,rfl⟩;refine q3t ?_;intro iv17_0_1 hmv17_0_1;refine iM ?_;refine fy ?_;refine q2x ?_;refine q3P ?_;refine dL ?_;have hq:=eN hk;clear hk;obtain ⟨k3,hk3,hk⟩:=hq; (try dsimp only at hk);refine dk (ι:=List Int×Value) (fun z=>[(1, .pointer (some ⟨g1,0,none⟩)),(4, .pointer (some ⟨g4,0,none⟩))]) (fun z=>[.sl z.2 5 1 z.1.length (z.1.flatMap (eK .u8)), .row g4 128 [.int .i64 0,z.2], .row g1 33 [vx__0,vx__1], .fr F1]) (fun z=>k3 z.1=some r∧OneC z.2) ?_ ?_
  ·have hq:=fS hk;clear hk;obtain ⟨f5,kk5,hf5,hkk5,hk⟩:=hq;refine fJ ?_;refine T.pick [1,0,3,2] rfl a6 ?_;refine T.loop (ι:=Nat×List Int×Value) (fun z=>[(1, .pointer (some ⟨g1,0,none⟩)),(4, .pointer (some ⟨g4,0,none⟩)),(19,vx__0),(20, .int .i64 (x_.Stations.length:Int)),(21, .int .i64 (z.1:Int))]) (fun z=>[.sl z.2.2 5 1 z.2.1.length (z.2.1.flatMap (eK .u8)), .row g4 128 [.int .i64 0,z.2.2], .row g1 33 [vx__0,vx__1], .fr F1]) (fun z=>di f5 kk5 (x_.Stations.length - z.1) z.1 z.2.1=some r∧OneC z.2.2) (fun z=>x_.Stations.length - z.1) (0,r17,v17_0_1) ?_ ?_ ?_ ?_
   ·exact q4b
   ·exact l9
   ·exact fx
   ·rintro ⟨i_6,c_4,vc_4⟩ ⟨hk,oc_4⟩; (try dsimp only at *);refine eR ?_;refine T.cond rfl (fun h7=>?_) (fun h7=>?_)
    ·have p7:=of_decide_eq_true h7;rw [fT a5] at hk;generalize hn5:di f5 kk5 (x_.Stations.length - (i_6+1)) (i_6+1)=next5 at hk;rw [←hf5] at hk; (try dsimp only at hk);refine fH ?_;refine cR (dH (i:=i_6) rfl rfl rfl hx__0 (List.length_map _) rfl a5) ?_;refine cR (ft 3 (i:=i_6) (j:=0) rfl rfl rfl hx__0 a5) ?_;refine dL ?_;have hq:=dV hk;clear hk;obtain ⟨r26,hr26,hk⟩:=hq; (try dsimp only at hk);refine fk ?_;refine cX (dI [1,0,3,2] [.row g4 128 [.int .i64 0,vc_4], .sl vc_4 5 1 c_4.length (c_4.flatMap (eK .u8))] [.row g1 33 [vx__0,vx__1]] rfl rfl rfl rfl a6 (fun w hw hw2 hF=>zaJ _ w hF (GWriter.mk (Gfault.mk 0) c_4) g4 vc_4 (cQ x_.Stations i_6) hw2.takes.1 hw2.takes.2 fuel r26 hr26)) ?_;rintro _ _ ⟨v26_0_1, -,rfl,rfl⟩;refine q3t ?_;intro iv26_0_1 hmv26_0_1;refine l6 ?_;rw [←hn5] at hk;refine K.pick [1,0,3,2] rfl a6 ?_;exact K.next ((i_6+1),r26,v26_0_1) ⟨hk,inferInstance⟩ a9 (.c (.c (.c (.c (.c .nil))))) (List.Sublist.refl _)
    ·have p7:=of_decide_eq_false h7;rw [fR a5,←hkk5] at hk; (try dsimp only at hk);refine fi ?_;exact c4 (c_4,vc_4) ⟨hk,inferInstance⟩ (.c (.c .nil)) (List.Sublist.refl _)
  ·rintro ⟨c_2,vc_2⟩ ⟨hk,oc_2⟩; (try dsimp only at *);rw [←hk3] at hk; (try dsimp only at hk);refine T.seq ?_;have hq:=dV hk;clear hk;obtain ⟨r31,hr31,hk⟩:=hq; (try dsimp only at hk);refine fg ?_;refine mg ?_;refine q2z ?_;have hm30:x_.Lemmas.length≤9223372036854775807:=hx__1.2.1▸hx__1.1.max;refine cX (dI [1,0,3,2] [.row g4 128 [.int .i64 0,vc_2], .sl vc_2 5 1 c_2.length (c_2.flatMap (eK .u8))] [.row g1 33 [vx__0,vx__1]] rfl rfl rfl rfl a6 (fun w hw hw2 hF=>zaJ _ w hF (GWriter.mk (Gfault.mk 0) c_2) g4 vc_2 (x_.Lemmas.length:Int) hw2.takes.1 hw2.takes.2 fuel r31 hr31)) ?_;rintro _ _ ⟨v31_0_1, -,rfl,rfl⟩;refine q3t ?_;intro iv31_0_1 hmv31_0_1;refine iM ?_;refine fy ?_;refine q2x ?_;refine q2z ?_;refine dL ?_;have hq:=eN hk;clear hk;obtain ⟨k9,hk9,hk⟩:=hq; (try dsimp only at hk);refine dk (ι:=List Int×Value) (fun z=>[(4, .pointer (some ⟨g4,0,none⟩))]) (fun z=>[.sl z.2 5 1 z.1.length (z.1.flatMap (eK .u8)), .row g4 128 [.int .i64 0,z.2], .fr F1]) (fun z=>k9 z.1=some r∧OneC z.2) ?_ ?_
   ·have hq:=fS hk;clear hk;obtain ⟨f11,kk11,hf11,hkk11,hk⟩:=hq;refine q3U ?_;refine T.loop (ι:=Nat×List Int×Value) (fun z=>[(4, .pointer (some ⟨g4,0,none⟩)),(33,vx__1),(34, .int .i64 (x_.Lemmas.length:Int)),(35, .int .i64 (z.1:Int))]) (fun z=>[.sl z.2.2 5 1 z.2.1.length (z.2.1.flatMap (eK .u8)), .row g4 128 [.int .i64 0,z.2.2], .fr F1]) (fun z=>di f11 kk11 (x_.Lemmas.length - z.1) z.1 z.2.1=some r∧OneC z.2.2) (fun z=>x_.Lemmas.length - z.1) (0,r31,v31_0_1) ?_ ?_ ?_ ?_
    ·exact q4b
    ·exact q4a
    ·exact fx
    ·rintro ⟨i_12,c_10,vc_10⟩ ⟨hk,oc_10⟩; (try dsimp only at *);refine eR ?_;refine T.cond rfl (fun h13=>?_) (fun h13=>?_)
     ·have p13:=of_decide_eq_true h13;rw [fT a5] at hk;generalize hn11:di f11 kk11 (x_.Lemmas.length - (i_12+1)) (i_12+1)=next11 at hk;rw [←hf11] at hk; (try dsimp only at hk);refine fH ?_;refine cR (dH (i:=i_12) rfl rfl rfl hx__1.1 hx__1.2.1 rfl a5) ?_;refine cR (eo 2 (i:=i_12) (j:=0) rfl rfl rfl hx__1.1 hx__1.2.1 a5 rfl (R_List_GChoice.c0 (hx__1.2.2 i_12 a5)).1) ?_;have hd38_0:=(R_List_GChoice.c0 (hx__1.2.2 i_12 a5)).2;haveI:=hd38_0.oneC;refine ki ?_;have hq:=dV hk;clear hk;obtain ⟨r41,hr41,hk⟩:=hq; (try dsimp only at hk);refine fk ?_;refine cR (dA rfl rfl hd38_0 (List.length_map _)) ?_;have hm40:(cQ x_.Lemmas i_12).length≤9223372036854775807:=(List.length_map _)▸hd38_0.max;refine cX (dI [1,0,2] [.row g4 128 [.int .i64 0,vc_10], .sl vc_10 5 1 c_10.length (c_10.flatMap (eK .u8))] [] rfl rfl rfl rfl a6 (fun w hw hw2 hF=>zaJ _ w hF (GWriter.mk (Gfault.mk 0) c_10) g4 vc_10 ((cQ x_.Lemmas i_12).length:Int) hw2.takes.1 hw2.takes.2 fuel r41 hr41)) ?_;rintro _ _ ⟨v41_0_1, -,rfl,rfl⟩;refine q3t ?_;intro iv41_0_1 hmv41_0_1;refine l7 ?_;refine cR (dA rfl rfl hd38_0 (List.length_map _)) ?_;refine dL ?_;have hq:=fS hk;clear hk;obtain ⟨f15,kk15,hf15,hkk15,hk⟩:=hq;refine q3U ?_;refine T.loop (ι:=Nat×List Int×Value) (fun z=>[(4, .pointer (some ⟨g4,0,none⟩)),(33,vx__1),(34, .int .i64 (x_.Lemmas.length:Int)),(35, .int .i64 (i_12:Int)),(42,(cQ (cQ cx__1 i_12) 0)),(43, .int .i64 ((cQ x_.Lemmas i_12).length:Int)),(44, .int .i64 (z.1:Int))]) (fun z=>[.sl z.2.2 5 1 z.2.1.length (z.2.1.flatMap (eK .u8)), .row g4 128 [.int .i64 0,z.2.2], .fr F1]) (fun z=>di f15 kk15 (((cQ x_.Lemmas i_12).length) - z.1) z.1 z.2.1=some r∧OneC z.2.2) (fun z=>((cQ x_.Lemmas i_12).length) - z.1) (0,r41,v41_0_1) ?_ ?_ ?_ ?_
      ·exact q4b
      ·exact q4q
      ·exact fx
      ·rintro ⟨i_16,c_14,vc_14⟩ ⟨hk,oc_14⟩; (try dsimp only at *);refine eR ?_;refine T.cond rfl (fun h17=>?_) (fun h17=>?_)
       ·have p17:=of_decide_eq_true h17;rw [fT a5] at hk;generalize hn15:di f15 kk15 (((cQ x_.Lemmas i_12).length) - (i_16+1)) (i_16+1)=next15 at hk;rw [←hf15] at hk; (try dsimp only at hk);refine fH ?_;refine cR (dH (i:=i_16) rfl rfl rfl hd38_0 (List.length_map _) rfl a5) ?_;refine cR (fV 2 (i:=i_16) rfl rfl rfl hd38_0 a5) ?_;refine gw ?_;rintro _ _ ⟨g10,rfl,rfl⟩;refine iW ?_;refine gU ?_;have hq:=dV hk;clear hk;obtain ⟨r50,hr50,hk⟩:=hq; (try dsimp only at hk);refine q3S ?_;refine cX (dI [2,1,3,0] [.row g4 128 [.int .i64 0,vc_14], .sl vc_14 5 1 c_14.length (c_14.flatMap (eK .u8))] [.row g10 68 [.int .i64 ((cQ (cQ x_.Lemmas i_12) i_16).Station), .int .i64 ((cQ (cQ x_.Lemmas i_12) i_16).Channel)]] rfl rfl rfl rfl a6 (fun w hw hw2 hF=>zaJ _ w hF (GWriter.mk (Gfault.mk 0) c_14) g4 vc_14 ((cQ (cQ x_.Lemmas i_12) i_16).Station) hw2.takes.1 hw2.takes.2 fuel r50 hr50)) ?_;rintro _ _ ⟨v50_0_1, -,rfl,rfl⟩;refine q3t ?_;intro iv50_0_1 hmv50_0_1;refine TL.ns ?_;have hq:=dV hk;clear hk;obtain ⟨r53,hr53,hk⟩:=hq; (try dsimp only at hk);refine fg ?_;refine fy ?_;refine q2x ?_;refine cX (dI [0,1,2,3] [.row g4 128 [.int .i64 0,v50_0_1], .sl v50_0_1 5 1 r50.length (r50.flatMap (eK .u8))] [.row g10 68 [.int .i64 ((cQ (cQ x_.Lemmas i_12) i_16).Station), .int .i64 ((cQ (cQ x_.Lemmas i_12) i_16).Channel)]] rfl rfl rfl rfl a6 (fun w hw hw2 hF=>zaJ _ w hF (GWriter.mk (Gfault.mk 0) r50) g4 v50_0_1 ((cQ (cQ x_.Lemmas i_12) i_16).Channel) hw2.takes.1 hw2.takes.2 fuel r53 hr53)) ?_;rintro _ _ ⟨v53_0_1, -,rfl,rfl⟩;refine q3t ?_;intro iv53_0_1 hmv53_0_1;refine l6 ?_;rw [←hn15] at hk;refine K.pick [1,0,2] rfl a6 ?_;exact K.next ((i_16+1),r53,v53_0_1) ⟨hk,inferInstance⟩ a9 (.c (.c (.c (.c (.c (.c (.c .nil))))))) (List.Sublist.refl _)
       ·have p17:=of_decide_eq_false h17;rw [fR a5,←hkk15] at hk; (try dsimp only at hk);refine q2N ?_;refine ka ?_;rw [←hn11] at hk;exact K.next ((i_12+1),c_14,vc_14) ⟨hk,inferInstance⟩ a9 (.c (.c (.c (.c .nil)))) (List.Sublist.refl _)
     ·have p13:=of_decide_eq_false h13;rw [fR a5,←hkk11] at hk; (try dsimp only at hk);refine fi ?_;exact c4 (c_10,vc_10) ⟨hk,inferInstance⟩ (.c .nil) (List.Sublist.refl _)
   ·rintro ⟨c_8,vc_8⟩ ⟨hk,oc_8⟩; (try dsimp only at *);rw [←hk9] at hk; (try dsimp only at hk);refine T.seq ?_;have hq:=dV hk;clear hk;obtain ⟨r56,hr56,hk⟩:=hq; (try dsimp only at hk);refine fg ?_;refine cX (dI [1,0,2] [.row g4 128 [.int .i64 0,vc_8], .sl vc_8 5 1 c_8.length (c_8.flatMap (eK .u8))] [] rfl rfl rfl rfl a6 (fun w hw hw2 hF=>zcU _ w hF (GWriter.mk (Gfault.mk 0) c_8) g4 vc_8 hw2.takes.1 hw2.takes.2 r56 hr56)) ?_;rintro _ _ ⟨v56_0_0, -,rfl,rfl⟩;refine eS ?_;refine gF 2 rfl ?_;intro iv56_0_0 hmv56_0_0;refine TL.run 4 rfl ?_;refine fN ?_;obtain rfl:=Option.some.inj hk;exact eC rfl rfl rfl (fun w' hw=>⟨v56_0_0,trivial,rfl,dc (hw.pick (idx:=[2,3]) rfl a6) hS0 (Frz.Le.refl _)⟩)
end Go.Proofs.YtogbggmckmnlfaaGreatDoor
