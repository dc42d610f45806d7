/- Yk Yl W8 Y5 Wk Kl: shortened and put together by squeeze.py. -/
import Derived.Test.YtogbggmckmnlfaaGreatDoorQ11
set_option maxRecDepth 100000
set_option maxHeartbeats 4000000
set_option linter.unusedVariables false
set_option linter.unusedSectionVars false
set_option linter.unusedSimpArgs false
namespace Go.Proofs.YtogbggmckmnlfaaGreatDoor
open Go.RowKit
def lU (x0_:GReader):Int:=
 (bif !(zaE x0_) then
  1
  else
  x0_.fault.first)
theorem zbq (F0:Frz)(w:World)(hF0:F0.At w)(x0_:GReader)(g0_:Nat)(v0_2:Value)(hO:Hp w (cZ [.row g0_ 155 [.int .i64 x0_.fault.first, .bool x0_.made,v0_2, .int .i64 x0_.at_], .sl v0_2 5 1 x0_.in_.length (x0_.in_.flatMap (eK .u8))]) [.row g0_ 155 [.int .i64 x0_.fault.first, .bool x0_.made,v0_2, .int .i64 x0_.at_], .sl v0_2 5 1 x0_.in_.length (x0_.in_.flatMap (eK .u8))] w)(hA:∀g,cZ [.row g0_ 155 [.int .i64 x0_.fault.first, .bool x0_.made,v0_2, .int .i64 x0_.at_], .sl v0_2 5 1 x0_.in_.length (x0_.in_.flatMap (eK .u8))] g→¬F0.S g):Calls Tryz.prog 94 #[.pointer (some ⟨g0_,0,none⟩)] w fun e w'=>∃(y:Unit),(True)∧e= .returned (.int .i64 (lU x0_))∧FxM F0 w (cZ [.row g0_ 155 [.int .i64 x0_.fault.first, .bool x0_.made,v0_2, .int .i64 x0_.at_], .sl v0_2 5 1 x0_.in_.length (x0_.in_.flatMap (eK .u8))]) F0 [.row g0_ 155 [.int .i64 x0_.fault.first, .bool x0_.made,v0_2, .int .i64 x0_.at_], .sl v0_2 5 1 x0_.in_.length (x0_.in_.flatMap (eK .u8))] w':=by
 obtain ⟨r,hk⟩:∃r,lU x0_=r:=⟨_,rfl⟩;rw [hk];unfold lU at hk;haveI:=gN (hO.own (.sl v0_2 5 1 x0_.in_.length (x0_.in_.flatMap (eK .u8))) a7);have hmx0_2:=gW (hO.own (.sl v0_2 5 1 x0_.in_.length (x0_.in_.flatMap (eK .u8))) a7);obtain ⟨S0,F1,rfl,hS0,hp0⟩:=ga hF0 hO hA;refine dq (hs:=[.row g0_ 155 [.int .i64 x0_.fault.first, .bool x0_.made,v0_2, .int .i64 x0_.at_], .sl v0_2 5 1 x0_.in_.length (x0_.in_.flatMap (eK .u8)), .fr F1]) Tryz.func94 rfl rfl rfl hp0 ?_;refine q17 ?_;rintro _ _ ⟨⟨⟩, -,rfl,rfl⟩;refine lC ?_;refine T.cond rfl (fun h1=>?_) (fun h1=>?_)
 ·replace hk:=dy hk h1;refine gF ?_;subst hk;exact mj
 ·replace hk:=dz hk h1;refine gV ?_;refine d5 ?_;refine eZ ?_;refine eu ?_;refine eU ?_;subst hk;exact mj
def zaO (x0_:GReader):Int:=
 (bif !(zaE x0_) then
  1
  else
  (bif ((decide (x0_.fault.first=0))&&(decide (x0_.at_<(x0_.in_.length:Int)))) then
   5
   else
   x0_.fault.first))
theorem zcE (F0:Frz)(w:World)(hF0:F0.At w)(x0_:GReader)(g0_:Nat)(v0_2:Value)(hO:Hp w (cZ [.row g0_ 155 [.int .i64 x0_.fault.first, .bool x0_.made,v0_2, .int .i64 x0_.at_], .sl v0_2 5 1 x0_.in_.length (x0_.in_.flatMap (eK .u8))]) [.row g0_ 155 [.int .i64 x0_.fault.first, .bool x0_.made,v0_2, .int .i64 x0_.at_], .sl v0_2 5 1 x0_.in_.length (x0_.in_.flatMap (eK .u8))] w)(hA:∀g,cZ [.row g0_ 155 [.int .i64 x0_.fault.first, .bool x0_.made,v0_2, .int .i64 x0_.at_], .sl v0_2 5 1 x0_.in_.length (x0_.in_.flatMap (eK .u8))] g→¬F0.S g):Calls Tryz.prog 65 #[.pointer (some ⟨g0_,0,none⟩)] w fun e w'=>∃(y:Unit),(True)∧e= .returned (.int .i64 (zaO x0_))∧FxM F0 w (cZ [.row g0_ 155 [.int .i64 x0_.fault.first, .bool x0_.made,v0_2, .int .i64 x0_.at_], .sl v0_2 5 1 x0_.in_.length (x0_.in_.flatMap (eK .u8))]) F0 [.row g0_ 155 [.int .i64 x0_.fault.first, .bool x0_.made,v0_2, .int .i64 x0_.at_], .sl v0_2 5 1 x0_.in_.length (x0_.in_.flatMap (eK .u8))] w':=by
 obtain ⟨r,hk⟩:∃r,zaO x0_=r:=⟨_,rfl⟩;rw [hk];unfold zaO at hk;haveI:=gN (hO.own (.sl v0_2 5 1 x0_.in_.length (x0_.in_.flatMap (eK .u8))) a7);have hmx0_2:=gW (hO.own (.sl v0_2 5 1 x0_.in_.length (x0_.in_.flatMap (eK .u8))) a7);obtain ⟨S0,F1,rfl,hS0,hp0⟩:=ga hF0 hO hA;refine dq (hs:=[.row g0_ 155 [.int .i64 x0_.fault.first, .bool x0_.made,v0_2, .int .i64 x0_.at_], .sl v0_2 5 1 x0_.in_.length (x0_.in_.flatMap (eK .u8)), .fr F1]) Tryz.func65 rfl rfl rfl hp0 ?_;refine q17 ?_;rintro _ _ ⟨⟨⟩, -,rfl,rfl⟩;refine lC ?_;refine T.cond rfl (fun h1=>?_) (fun h1=>?_)
 ·replace hk:=dy hk h1;refine gF ?_;subst hk;exact mj
 ·replace hk:=dz hk h1;refine q3h ?_;refine dj (ι:=Unit) (fun z=>[(0, .pointer (some ⟨g0_,0,none⟩)),(23, .bool ((decide (x0_.fault.first=0))&&(decide (x0_.at_<(x0_.in_.length:Int)))))]) (fun z=>[.row g0_ 155 [.int .i64 x0_.fault.first, .bool x0_.made,v0_2, .int .i64 x0_.at_], .sl v0_2 5 1 x0_.in_.length (x0_.in_.flatMap (eK .u8)), .fr F1]) (fun z=>True) ?_ ?_
  ·refine dT (sN 0 17 (.still 17 .done)) _ a8 (List.Sublist.refl _) ?_;refine i1 ?_;refine fY ?_;refine iQ ?_;refine jz rfl rfl rfl rfl (fun h2=>?_) (fun h2=>?_)
   ·have p2:=of_decide_eq_true h2;refine iQ ?_;refine fY ?_;refine iQ ?_;refine fY ?_;refine cR rfl (jk 1 rfl rfl rfl) ?_;refine iQ ?_;refine TS.done ?_;exact c4 () trivial (.c (.b (zgb h2) .nil)) (List.Sublist.refl _)
   ·have p2:=of_decide_eq_false h2;refine TS.run 11 rfl ?_;refine TS.done ?_;exact c4 () trivial (.c (.b (zef h2).symm .nil)) (List.Sublist.refl _)
  ·rintro _ _;refine T.cond rfl (fun h3=>?_) (fun h3=>?_)
   ·have p3:=h3; (try simp only [cV] at p3);replace hk:=dy hk h3;refine gF ?_;subst hk;exact mj
   ·replace hk:=dz hk h3;refine gV ?_;refine d5 ?_;refine eZ ?_;refine eu ?_;refine eU ?_;subst hk;exact mj
def zcU (b:List Int):Option (Option GReader):=
 d4 (db ([]++b).length 1) <|
 some (some (GReader.mk (Gfault.mk 0) true ([]++b) 0))
theorem zfK (F0:Frz)(w:World)(hF0:F0.At w)(b:List Int)(vb:Value)(hb:SlC F0 vb 1 (b.map (eK .u8)))(r:Option GReader)(hr:zcU b=some r):Calls Tryz.prog 58 #[vb] w fun e w'=>((r).isSome=true→∃(y:Nat×Value) (G:Frz),(True)∧e= .returned (.pointer (some ⟨y.1,0,none⟩))∧FxM F0 w (cZ []) G [.row y.1 155 [.int .i64 ((r.getD default).fault.first), .bool ((r.getD default).made),y.2, .int .i64 ((r.getD default).at_)], .sl y.2 5 1 ((r.getD default).in_).length (((r.getD default).in_).flatMap (eK .u8))] w')∧((r).isSome=false→∃(y:Unit) (G:Frz),(True)∧e= .returned (.pointer none)∧FxM F0 w (cZ []) G [] w'):=by
 have hk:=hr;unfold zcU at hk;haveI:=hb.oneC;obtain ⟨S0,F1,rfl,hS0,hp0⟩:=fK hF0;rw [zem];refine dq Tryz.func58 rfl rfl rfl hp0 ?_;refine ei ?_;have hq:(db ([]++b).length 1)∧_:=eQ hk;clear hk;obtain ⟨g4,hk⟩:=hq; (try dsimp only at hk);refine fo ?_;refine TL.slNil 5 1 ?_;refine cN (jr 0 1 (zg2 (fun _=>inferInstance)) rfl rfl rfl rfl rfl hb (zlc (xs:=([]:List Int))) (zj2 (xs:=([]:List Int))) g4 a6) ?_;rintro v4 _ ⟨hv4,rfl⟩;refine iX ?_;refine q3Z ?_;rintro _ _ ⟨g6,rfl,rfl⟩;refine eU ?_;obtain rfl:=Option.some.inj hk;exact cU rfl rfl (fun w' hw=>⟨fun _=>⟨(g6,v4),F1.toFrz,trivial,rfl,cX (hw.pick (idx:=[0,1,2]) rfl a6) hS0 (Frz.Le.refl _)⟩,fun h=>(by cases h)⟩)
def zbo (x0_:GReader):Option (GChoice×(Int×Int)):=
 (zaj x0_).bind fun r5=>
 (zaj (GReader.mk (Gfault.mk r5.2.1) x0_.made x0_.in_ r5.2.2)).bind fun r8=>
 some ((GChoice.mk r5.1 r8.1),(r8.2.1,r8.2.2))
theorem zey (F0:Frz)(w:World)(hF0:F0.At w)(x0_:GReader)(g0_:Nat)(v0_2:Value)(hO:Hp w (cZ [.row g0_ 155 [.int .i64 x0_.fault.first, .bool x0_.made,v0_2, .int .i64 x0_.at_], .sl v0_2 5 1 x0_.in_.length (x0_.in_.flatMap (eK .u8))]) [.row g0_ 155 [.int .i64 x0_.fault.first, .bool x0_.made,v0_2, .int .i64 x0_.at_], .sl v0_2 5 1 x0_.in_.length (x0_.in_.flatMap (eK .u8))] w)(hA:∀g,cZ [.row g0_ 155 [.int .i64 x0_.fault.first, .bool x0_.made,v0_2, .int .i64 x0_.at_], .sl v0_2 5 1 x0_.in_.length (x0_.in_.flatMap (eK .u8))] g→¬F0.S g)(r:GChoice×(Int×Int))(hr:zbo x0_=some r):Calls Tryz.prog 64 #[.pointer (some ⟨g0_,0,none⟩)] w fun e w'=>∃(y:Unit),(True)∧e= .returned (.agg [.int .i64 r.1.Station, .int .i64 r.1.Channel].toArray)∧FxM F0 w (cZ [.row g0_ 155 [.int .i64 x0_.fault.first, .bool x0_.made,v0_2, .int .i64 x0_.at_], .sl v0_2 5 1 x0_.in_.length (x0_.in_.flatMap (eK .u8))]) F0 [.row g0_ 155 [.int .i64 r.2.1, .bool x0_.made,v0_2, .int .i64 r.2.2], .sl v0_2 5 1 x0_.in_.length (x0_.in_.flatMap (eK .u8))] w':=by
 have hk:=hr;unfold zbo at hk;haveI:=gN (hO.own (.sl v0_2 5 1 x0_.in_.length (x0_.in_.flatMap (eK .u8))) a7);have hmx0_2:=gW (hO.own (.sl v0_2 5 1 x0_.in_.length (x0_.in_.flatMap (eK .u8))) a7);obtain ⟨S0,F1,rfl,hS0,hp0⟩:=ga hF0 hO hA;refine dq (hs:=[.row g0_ 155 [.int .i64 x0_.fault.first, .bool x0_.made,v0_2, .int .i64 x0_.at_], .sl v0_2 5 1 x0_.in_.length (x0_.in_.flatMap (eK .u8)), .fr F1]) Tryz.func64 rfl rfl rfl hp0 ?_;refine de ?_;refine fQ ?_;rintro _ _ ⟨g2,rfl,rfl⟩;refine dG ?_;refine fQ ?_;rintro _ _ ⟨g3,rfl,rfl⟩;refine i3 ?_;have hq:=dM hk;clear hk;obtain ⟨r5,hr5,hk⟩:=hq; (try dsimp only at hk);refine fo ?_;refine cN (dl [2,3,4,0,1] [.row g0_ 155 [.int .i64 x0_.fault.first, .bool x0_.made,v0_2, .int .i64 x0_.at_], .sl v0_2 5 1 x0_.in_.length (x0_.in_.flatMap (eK .u8))] [.row g3 68 [.int .i64 0, .int .i64 0], .row g2 68 [.int .i64 0, .int .i64 0]] rfl rfl rfl rfl a6 (fun w hw hw2 hF=>zbj _ w hF x0_ g0_ v0_2 hw2.takes.1 hw2.takes.2 r5 hr5)) ?_;rintro _ _ ⟨⟨⟩, -,rfl,rfl⟩;refine em ?_;refine q2H ?_;refine i3 ?_;have hq:=dM hk;clear hk;obtain ⟨r8,hr8,hk⟩:=hq; (try dsimp only at hk);refine fo ?_;refine cN (dl [0,1,2,3,4] [.row g0_ 155 [.int .i64 r5.2.1, .bool x0_.made,v0_2, .int .i64 r5.2.2], .sl v0_2 5 1 x0_.in_.length (x0_.in_.flatMap (eK .u8))] [.row g3 68 [.int .i64 r5.1, .int .i64 0], .row g2 68 [.int .i64 0, .int .i64 0]] rfl rfl rfl rfl a6 (fun w hw hw2 hF=>zbj _ w hF (GReader.mk (Gfault.mk r5.2.1) x0_.made x0_.in_ r5.2.2) g0_ v0_2 hw2.takes.1 hw2.takes.2 r8 hr8)) ?_;rintro _ _ ⟨⟨⟩, -,rfl,rfl⟩;refine em ?_;refine q2H ?_;refine dG ?_;refine cI (dJ 3) ?_;refine d7 (dr 4) ?_;refine ex ?_;refine fJ ?_;obtain rfl:=Option.some.inj hk;exact j1 4 rfl rfl rfl rfl (fun w' hw=>⟨⟨⟩,trivial,rfl,cX (hw.pick (idx:=[0,1,2]) rfl a6) hS0 (Frz.Le.refl _)⟩)
def zaJ (x0_:GReader)(limit:Int):Option (List GChoice×(Int×Int)):=
 (zar x0_ limit).bind fun r11=>
 dS (fun (s4:List GChoice×Int×Int)=>
  some (s4.1,(s4.2.1,s4.2.2)))
 (fun k4=>
  d4 (r11.1≤9223372036854775807) <|
  di (fun (i_9:Nat) (next8:(List GChoice×Int×Int)→Option (List GChoice×(Int×Int))) (s8:List GChoice×Int×Int)=>
   (zbo (GReader.mk (Gfault.mk s8.2.1) x0_.made x0_.in_ s8.2.2)).bind fun r16=>
   (bif decide (¬(lU (GReader.mk (Gfault.mk r16.2.1) x0_.made x0_.in_ r16.2.2))=0) then
    some ([],(r16.2.1,r16.2.2))
    else
    d4 (db (s8.1++[r16.1]).length 16) <|
    next8 ((s8.1++[r16.1]),r16.2.1,r16.2.2)))
  (fun (s8:List GChoice×Int×Int)=>
   k4 (s8.1,s8.2.1,s8.2.2)) (r11.1.toNat - 0) 0 ([],r11.2.1,r11.2.2))
theorem zb3 (F0:Frz)(w:World)(hF0:F0.At w)(x0_:GReader)(g0_:Nat)(v0_2:Value)(limit:Int)(hO:Hp w (cZ [.row g0_ 155 [.int .i64 x0_.fault.first, .bool x0_.made,v0_2, .int .i64 x0_.at_], .sl v0_2 5 1 x0_.in_.length (x0_.in_.flatMap (eK .u8))]) [.row g0_ 155 [.int .i64 x0_.fault.first, .bool x0_.made,v0_2, .int .i64 x0_.at_], .sl v0_2 5 1 x0_.in_.length (x0_.in_.flatMap (eK .u8))] w)(hA:∀g,cZ [.row g0_ 155 [.int .i64 x0_.fault.first, .bool x0_.made,v0_2, .int .i64 x0_.at_], .sl v0_2 5 1 x0_.in_.length (x0_.in_.flatMap (eK .u8))] g→¬F0.S g)(r:List GChoice×(Int×Int))(hr:zaJ x0_ limit=some r):Calls Tryz.prog 63 #[.pointer (some ⟨g0_,0,none⟩), .int .i64 limit, .func (.func 64) #[] #[]] w fun e w'=>∃(y:Value) (G:Frz),(SlC G y 2 (r.1.map cM))∧e= .returned (y)∧FxM F0 w (cZ [.row g0_ 155 [.int .i64 x0_.fault.first, .bool x0_.made,v0_2, .int .i64 x0_.at_], .sl v0_2 5 1 x0_.in_.length (x0_.in_.flatMap (eK .u8))]) G [.row g0_ 155 [.int .i64 r.2.1, .bool x0_.made,v0_2, .int .i64 r.2.2], .sl v0_2 5 1 x0_.in_.length (x0_.in_.flatMap (eK .u8))] w':=by
 have hk:=hr;unfold zaJ at hk;haveI:=gN (hO.own (.sl v0_2 5 1 x0_.in_.length (x0_.in_.flatMap (eK .u8))) a7);have hmx0_2:=gW (hO.own (.sl v0_2 5 1 x0_.in_.length (x0_.in_.flatMap (eK .u8))) a7);obtain ⟨S0,F1,rfl,hS0,hp0⟩:=ga hF0 hO hA;refine dq (hs:=[.row g0_ 155 [.int .i64 x0_.fault.first, .bool x0_.made,v0_2, .int .i64 x0_.at_], .sl v0_2 5 1 x0_.in_.length (x0_.in_.flatMap (eK .u8)), .fr F1]) Tryz.func63 rfl rfl rfl hp0 ?_;refine mh ?_;refine TL.slNil 68 2 ?_;refine jB ?_;have hq:=dM hk;clear hk;obtain ⟨r11,hr11,hk⟩:=hq; (try dsimp only at hk);refine gQ ?_;refine cN (dl [1,2,3,0] [.row g0_ 155 [.int .i64 x0_.fault.first, .bool x0_.made,v0_2, .int .i64 x0_.at_], .sl v0_2 5 1 x0_.in_.length (x0_.in_.flatMap (eK .u8))] [.sl (.slice none 0 0) 68 2 ([]:List GChoice).length ([].flatMap cM)] rfl rfl rfl rfl a6 (fun w hw hw2 hF=>zbe _ w hF x0_ g0_ v0_2 limit hw2.takes.1 hw2.takes.2 r11 hr11)) ?_;rintro _ _ ⟨⟨⟩, -,rfl,rfl⟩;refine lC ?_;have hq:=eP hk;clear hk;obtain ⟨k4,hk4,hk⟩:=hq; (try dsimp only at hk);refine dj (ι:=List GChoice×Value×Int×Int) (fun z=>[(7,z.2.1)]) (fun z=>[.sl z.2.1 68 2 z.1.length (z.1.flatMap cM), .row g0_ 155 [.int .i64 z.2.2.1, .bool x0_.made,v0_2, .int .i64 z.2.2.2], .sl v0_2 5 1 x0_.in_.length (x0_.in_.flatMap (eK .u8)), .fr F1]) (fun z=>k4 (z.1,z.2.2.1,z.2.2.2)=some r∧OneC z.2.1) ?_ ?_
 ·have hq:(r11.1≤9223372036854775807)∧_:=eQ hk;clear hk;obtain ⟨gl8,hk⟩:=hq; (try dsimp only at hk);have hq:=fS hk;clear hk;obtain ⟨f8,kk8,hf8,hkk8,hk⟩:=hq;refine gg ?_;refine T.pick [3,0,1,2] rfl a6 ?_;refine T.loop (ι:=Nat×List GChoice×Value×Int×Int) (fun z=>[(0, .pointer (some ⟨g0_,0,none⟩)),(2, .func (.func 64) #[] #[]),(7,z.2.2.1),(11, .int .i64 r11.1),(12, .int .i64 (z.1:Int))]) (fun z=>[.sl z.2.2.1 68 2 z.2.1.length (z.2.1.flatMap cM), .row g0_ 155 [.int .i64 z.2.2.2.1, .bool x0_.made,v0_2, .int .i64 z.2.2.2.2], .sl v0_2 5 1 x0_.in_.length (x0_.in_.flatMap (eK .u8)), .fr F1]) (fun z=>di f8 kk8 (r11.1.toNat - z.1) z.1 (z.2.1,z.2.2.2.1,z.2.2.2.2)=some r∧OneC z.2.2.1) (fun z=>r11.1.toNat - z.1) (0,[],(.slice none 0 0),r11.2.1,r11.2.2) ?_ ?_ ?_ ?_
  ·exact q39
  ·exact ld
  ·exact fv
  ·rintro ⟨i_9,l_5,vl_5,c_6,c_7⟩ ⟨hk,ol_5⟩; (try dsimp only at *);refine ei ?_;refine T.cond rfl (fun h10=>?_) (fun h10=>?_)
   ·have p10:=of_decide_eq_true h10;rw [fT a5] at hk;generalize hn8:di f8 kk8 (r11.1.toNat - (i_9+1)) (i_9+1)=next8 at hk;rw [←hf8] at hk; (try dsimp only at hk);refine q1S ?_;have hq:=dM hk;clear hk;obtain ⟨r16,hr16,hk⟩:=hq; (try dsimp only at hk);refine gQ ?_;refine cN (dl [1,2,3,0] [.row g0_ 155 [.int .i64 c_6, .bool x0_.made,v0_2, .int .i64 c_7], .sl v0_2 5 1 x0_.in_.length (x0_.in_.flatMap (eK .u8))] [.sl vl_5 68 2 l_5.length (l_5.flatMap cM)] rfl rfl rfl rfl a6 (fun w hw hw2 hF=>zey _ w hF (GReader.mk (Gfault.mk c_6) x0_.made x0_.in_ c_7) g0_ v0_2 hw2.takes.1 hw2.takes.2 r16 hr16)) ?_;rintro _ _ ⟨⟨⟩, -,rfl,rfl⟩;refine em ?_;refine fQ ?_;rintro _ _ ⟨g8,rfl,rfl⟩;refine kr ?_;refine gX ?_;refine dd ?_;refine cN (dl [1,2,3,0,4] [.row g0_ 155 [.int .i64 r16.2.1, .bool x0_.made,v0_2, .int .i64 r16.2.2], .sl v0_2 5 1 x0_.in_.length (x0_.in_.flatMap (eK .u8))] [.row g8 68 [.int .i64 r16.1.Station, .int .i64 r16.1.Channel], .sl vl_5 68 2 l_5.length (l_5.flatMap cM)] rfl rfl rfl rfl a6 (fun w hw hw2 hF=>zbq _ w hF (GReader.mk (Gfault.mk r16.2.1) x0_.made x0_.in_ r16.2.2) g0_ v0_2 hw2.takes.1 hw2.takes.2)) ?_;rintro _ _ ⟨⟨⟩, -,rfl,rfl⟩;refine lC ?_;refine T.cond rfl (fun h11=>?_) (fun h11=>?_)
    ·have p11:=of_decide_eq_true h11;replace hk:=dy hk h11;refine gy ?_;refine q1h ?_;obtain rfl:=Option.some.inj hk;exact cU rfl rfl (fun w' hw=>⟨(.slice none 0 0),F1.toFrz,(SlC.nil _ 2),rfl,cX (hw.pick (idx:=[0,1,2]) rfl a6) hS0 (Frz.Le.refl _)⟩)
    ·have p11:=of_decide_eq_false h11;replace hk:=dz hk h11;refine kl ?_;have hq:(db (l_5++[r16.1]).length 16)∧_:=eQ hk;clear hk;obtain ⟨g23,hk⟩:=hq; (try dsimp only at hk);refine fo ?_;refine cI (dJ 3) ?_;refine jg ?_;rintro _ _ ⟨g22,rfl,rfl⟩;refine cN (d8 5 0 rfl rfl rfl rfl rfl rfl (iC (ys:=[r16.1])) (zcu (enc:=cM) (xs:=l_5) (ys:=[r16.1])) g23 a6) ?_;rintro v23 _ ⟨hv23,rfl⟩;refine lA ?_;rw [←hn8] at hk;refine K.pick [5,1,2,3] rfl a6 ?_;exact q4T
   ·have p10:=of_decide_eq_false h10;rw [fR a5,←hkk8] at hk; (try dsimp only at hk);refine ff ?_;exact c4 (l_5,vl_5,c_6,c_7) ⟨hk,inferInstance⟩ (.c .nil) (List.Sublist.refl _)
 ·rintro ⟨l_1,vl_1,c_2,c_3⟩ ⟨hk,ol_1⟩; (try dsimp only at *);rw [←hk4] at hk; (try dsimp only at hk);refine iA ?_;refine fJ ?_;refine q28 ?_;rintro F2 ⟨le1_2,hz2⟩;refine gU ?_;have hf2:=hz2.toF rfl GChoice.len;haveI:=hf2.oneC;obtain rfl:=Option.some.inj hk;exact q4U
def zbA (x0_:GReader):Option (List GChoice×(Int×Int)):=
 (zaJ x0_ 512).bind fun r4=>
 some (r4.1,(r4.2.1,r4.2.2))
theorem zfp (F0:Frz)(w:World)(hF0:F0.At w)(x0_:GReader)(g0_:Nat)(v0_2:Value)(hO:Hp w (cZ [.row g0_ 155 [.int .i64 x0_.fault.first, .bool x0_.made,v0_2, .int .i64 x0_.at_], .sl v0_2 5 1 x0_.in_.length (x0_.in_.flatMap (eK .u8))]) [.row g0_ 155 [.int .i64 x0_.fault.first, .bool x0_.made,v0_2, .int .i64 x0_.at_], .sl v0_2 5 1 x0_.in_.length (x0_.in_.flatMap (eK .u8))] w)(hA:∀g,cZ [.row g0_ 155 [.int .i64 x0_.fault.first, .bool x0_.made,v0_2, .int .i64 x0_.at_], .sl v0_2 5 1 x0_.in_.length (x0_.in_.flatMap (eK .u8))] g→¬F0.S g)(r:List GChoice×(Int×Int))(hr:zbA x0_=some r):Calls Tryz.prog 62 #[.pointer (some ⟨g0_,0,none⟩)] w fun e w'=>∃(y:Value) (G:Frz),(SlC G y 2 (r.1.map cM))∧e= .returned (y)∧FxM F0 w (cZ [.row g0_ 155 [.int .i64 x0_.fault.first, .bool x0_.made,v0_2, .int .i64 x0_.at_], .sl v0_2 5 1 x0_.in_.length (x0_.in_.flatMap (eK .u8))]) G [.row g0_ 155 [.int .i64 r.2.1, .bool x0_.made,v0_2, .int .i64 r.2.2], .sl v0_2 5 1 x0_.in_.length (x0_.in_.flatMap (eK .u8))] w':=by
 have hk:=hr;unfold zbA at hk;haveI:=gN (hO.own (.sl v0_2 5 1 x0_.in_.length (x0_.in_.flatMap (eK .u8))) a7);have hmx0_2:=gW (hO.own (.sl v0_2 5 1 x0_.in_.length (x0_.in_.flatMap (eK .u8))) a7);obtain ⟨S0,F1,rfl,hS0,hp0⟩:=ga hF0 hO hA;refine dq (hs:=[.row g0_ 155 [.int .i64 x0_.fault.first, .bool x0_.made,v0_2, .int .i64 x0_.at_], .sl v0_2 5 1 x0_.in_.length (x0_.in_.flatMap (eK .u8)), .fr F1]) Tryz.func62 rfl rfl rfl hp0 ?_;refine ei ?_;have hq:=dM hk;clear hk;obtain ⟨r4,hr4,hk⟩:=hq; (try dsimp only at hk);refine fo ?_;refine cN (d3 [0,1,2] [.row g0_ 155 [.int .i64 x0_.fault.first, .bool x0_.made,v0_2, .int .i64 x0_.at_], .sl v0_2 5 1 x0_.in_.length (x0_.in_.flatMap (eK .u8))] [] rfl rfl rfl rfl a6 (fun w hw hw2 hF=>zb3 _ w hF x0_ g0_ v0_2 512 hw2.takes.1 hw2.takes.2 r4 hr4)) ?_;rintro _ _ ⟨v4_0_0,F2,le1_2,hf4_0_0,hq,rfl⟩;obtain rfl:=hq.symm;refine em ?_;haveI:=hf4_0_0.oneC;refine eU ?_;obtain rfl:=Option.some.inj hk;exact cU rfl rfl (fun w' hw=>⟨v4_0_0,F2.toFrz,hf4_0_0,rfl,cX (hw.pick (idx:=[0,1,2]) rfl a6) hS0 le1_2⟩)
def zbn (x0_:GReader)(limit:Int):Option (List Int×(Int×Int)):=
 (zar x0_ limit).bind fun r11=>
 dS (fun (s4:List Int×Int×Int)=>
  some (s4.1,(s4.2.1,s4.2.2)))
 (fun k4=>
  d4 (r11.1≤9223372036854775807) <|
  di (fun (i_9:Nat) (next8:(List Int×Int×Int)→Option (List Int×(Int×Int))) (s8:List Int×Int×Int)=>
   (zaj (GReader.mk (Gfault.mk s8.2.1) x0_.made x0_.in_ s8.2.2)).bind fun r16=>
   (bif decide (¬(lU (GReader.mk (Gfault.mk r16.2.1) x0_.made x0_.in_ r16.2.2))=0) then
    some ([],(r16.2.1,r16.2.2))
    else
    d4 (db (s8.1++[r16.1]).length 8) <|
    next8 ((s8.1++[r16.1]),r16.2.1,r16.2.2)))
  (fun (s8:List Int×Int×Int)=>
   k4 (s8.1,s8.2.1,s8.2.2)) (r11.1.toNat - 0) 0 ([],r11.2.1,r11.2.2))
theorem zdn (F0:Frz)(w:World)(hF0:F0.At w)(x0_:GReader)(g0_:Nat)(v0_2:Value)(limit:Int)(hO:Hp w (cZ [.row g0_ 155 [.int .i64 x0_.fault.first, .bool x0_.made,v0_2, .int .i64 x0_.at_], .sl v0_2 5 1 x0_.in_.length (x0_.in_.flatMap (eK .u8))]) [.row g0_ 155 [.int .i64 x0_.fault.first, .bool x0_.made,v0_2, .int .i64 x0_.at_], .sl v0_2 5 1 x0_.in_.length (x0_.in_.flatMap (eK .u8))] w)(hA:∀g,cZ [.row g0_ 155 [.int .i64 x0_.fault.first, .bool x0_.made,v0_2, .int .i64 x0_.at_], .sl v0_2 5 1 x0_.in_.length (x0_.in_.flatMap (eK .u8))] g→¬F0.S g)(r:List Int×(Int×Int))(hr:zbn x0_ limit=some r):Calls Tryz.prog 59 #[.pointer (some ⟨g0_,0,none⟩), .int .i64 limit, .func (.func 60) #[] #[]] w fun e w'=>∃(y:Value) (G:Frz),(SlC G y 1 (r.1.map eI))∧e= .returned (y)∧FxM F0 w (cZ [.row g0_ 155 [.int .i64 x0_.fault.first, .bool x0_.made,v0_2, .int .i64 x0_.at_], .sl v0_2 5 1 x0_.in_.length (x0_.in_.flatMap (eK .u8))]) G [.row g0_ 155 [.int .i64 r.2.1, .bool x0_.made,v0_2, .int .i64 r.2.2], .sl v0_2 5 1 x0_.in_.length (x0_.in_.flatMap (eK .u8))] w':=by
 have hk:=hr;unfold zbn at hk;haveI:=gN (hO.own (.sl v0_2 5 1 x0_.in_.length (x0_.in_.flatMap (eK .u8))) a7);have hmx0_2:=gW (hO.own (.sl v0_2 5 1 x0_.in_.length (x0_.in_.flatMap (eK .u8))) a7);obtain ⟨S0,F1,rfl,hS0,hp0⟩:=ga hF0 hO hA;refine dq (hs:=[.row g0_ 155 [.int .i64 x0_.fault.first, .bool x0_.made,v0_2, .int .i64 x0_.at_], .sl v0_2 5 1 x0_.in_.length (x0_.in_.flatMap (eK .u8)), .fr F1]) Tryz.func59 rfl rfl rfl hp0 ?_;refine mh ?_;refine TL.slNil 3 1 ?_;refine jB ?_;have hq:=dM hk;clear hk;obtain ⟨r11,hr11,hk⟩:=hq; (try dsimp only at hk);refine gQ ?_;refine cN (dl [1,2,3,0] [.row g0_ 155 [.int .i64 x0_.fault.first, .bool x0_.made,v0_2, .int .i64 x0_.at_], .sl v0_2 5 1 x0_.in_.length (x0_.in_.flatMap (eK .u8))] [.sl (.slice none 0 0) 3 1 ([]:List Int).length ([].flatMap eI)] rfl rfl rfl rfl a6 (fun w hw hw2 hF=>zbe _ w hF x0_ g0_ v0_2 limit hw2.takes.1 hw2.takes.2 r11 hr11)) ?_;rintro _ _ ⟨⟨⟩, -,rfl,rfl⟩;refine lC ?_;have hq:=eP hk;clear hk;obtain ⟨k4,hk4,hk⟩:=hq; (try dsimp only at hk);refine dj (ι:=List Int×Value×Int×Int) (fun z=>[(7,z.2.1)]) (fun z=>[.sl z.2.1 3 1 z.1.length (z.1.flatMap eI), .row g0_ 155 [.int .i64 z.2.2.1, .bool x0_.made,v0_2, .int .i64 z.2.2.2], .sl v0_2 5 1 x0_.in_.length (x0_.in_.flatMap (eK .u8)), .fr F1]) (fun z=>k4 (z.1,z.2.2.1,z.2.2.2)=some r∧OneC z.2.1) ?_ ?_
 ·have hq:(r11.1≤9223372036854775807)∧_:=eQ hk;clear hk;obtain ⟨gl8,hk⟩:=hq; (try dsimp only at hk);have hq:=fS hk;clear hk;obtain ⟨f8,kk8,hf8,hkk8,hk⟩:=hq;refine gg ?_;refine T.pick [3,0,1,2] rfl a6 ?_;refine T.loop (ι:=Nat×List Int×Value×Int×Int) (fun z=>[(0, .pointer (some ⟨g0_,0,none⟩)),(2, .func (.func 60) #[] #[]),(7,z.2.2.1),(11, .int .i64 r11.1),(12, .int .i64 (z.1:Int))]) (fun z=>[.sl z.2.2.1 3 1 z.2.1.length (z.2.1.flatMap eI), .row g0_ 155 [.int .i64 z.2.2.2.1, .bool x0_.made,v0_2, .int .i64 z.2.2.2.2], .sl v0_2 5 1 x0_.in_.length (x0_.in_.flatMap (eK .u8)), .fr F1]) (fun z=>di f8 kk8 (r11.1.toNat - z.1) z.1 (z.2.1,z.2.2.2.1,z.2.2.2.2)=some r∧OneC z.2.2.1) (fun z=>r11.1.toNat - z.1) (0,[],(.slice none 0 0),r11.2.1,r11.2.2) ?_ ?_ ?_ ?_
  ·exact q39
  ·exact ld
  ·exact fv
  ·rintro ⟨i_9,l_5,vl_5,c_6,c_7⟩ ⟨hk,ol_5⟩; (try dsimp only at *);refine ei ?_;refine T.cond rfl (fun h10=>?_) (fun h10=>?_)
   ·have p10:=of_decide_eq_true h10;rw [fT a5] at hk;generalize hn8:di f8 kk8 (r11.1.toNat - (i_9+1)) (i_9+1)=next8 at hk;rw [←hf8] at hk; (try dsimp only at hk);refine q1S ?_;have hq:=dM hk;clear hk;obtain ⟨r16,hr16,hk⟩:=hq; (try dsimp only at hk);refine gQ ?_;refine cN (dl [1,2,3,0] [.row g0_ 155 [.int .i64 c_6, .bool x0_.made,v0_2, .int .i64 c_7], .sl v0_2 5 1 x0_.in_.length (x0_.in_.flatMap (eK .u8))] [.sl vl_5 3 1 l_5.length (l_5.flatMap eI)] rfl rfl rfl rfl a6 (fun w hw hw2 hF=>zbj _ w hF (GReader.mk (Gfault.mk c_6) x0_.made x0_.in_ c_7) g0_ v0_2 hw2.takes.1 hw2.takes.2 r16 hr16)) ?_;rintro _ _ ⟨⟨⟩, -,rfl,rfl⟩;refine em ?_;refine kL ?_;refine cN (dl [0,1,2,3] [.row g0_ 155 [.int .i64 r16.2.1, .bool x0_.made,v0_2, .int .i64 r16.2.2], .sl v0_2 5 1 x0_.in_.length (x0_.in_.flatMap (eK .u8))] [.sl vl_5 3 1 l_5.length (l_5.flatMap eI)] rfl rfl rfl rfl a6 (fun w hw hw2 hF=>zbq _ w hF (GReader.mk (Gfault.mk r16.2.1) x0_.made x0_.in_ r16.2.2) g0_ v0_2 hw2.takes.1 hw2.takes.2)) ?_;rintro _ _ ⟨⟨⟩, -,rfl,rfl⟩;refine lC ?_;refine T.cond rfl (fun h11=>?_) (fun h11=>?_)
    ·have p11:=of_decide_eq_true h11;replace hk:=dy hk h11;refine gy ?_;refine q1h ?_;obtain rfl:=Option.some.inj hk;exact cU rfl rfl (fun w' hw=>⟨(.slice none 0 0),F1.toFrz,(SlC.nil _ 1),rfl,cX (hw.pick (idx:=[0,1,2]) rfl a6) hS0 (Frz.Le.refl _)⟩)
    ·have p11:=of_decide_eq_false h11;replace hk:=dz hk h11;refine kl ?_;have hq:(db (l_5++[r16.1]).length 8)∧_:=eQ hk;clear hk;obtain ⟨g23,hk⟩:=hq; (try dsimp only at hk);refine gQ ?_;refine jg ?_;rintro _ _ ⟨g22,rfl,rfl⟩;refine cN (d8 4 0 rfl rfl rfl rfl rfl rfl (iC (ys:=[r16.1])) (zcu (enc:=eI) (xs:=l_5) (ys:=[r16.1])) g23 a6) ?_;rintro v23 _ ⟨hv23,rfl⟩;refine lA ?_;rw [←hn8] at hk;refine K.pick [4,1,2,3] rfl a6 ?_;exact q4T
   ·have p10:=of_decide_eq_false h10;rw [fR a5,←hkk8] at hk; (try dsimp only at hk);refine ff ?_;exact c4 (l_5,vl_5,c_6,c_7) ⟨hk,inferInstance⟩ (.c .nil) (List.Sublist.refl _)
 ·rintro ⟨l_1,vl_1,c_2,c_3⟩ ⟨hk,ol_1⟩; (try dsimp only at *);rw [←hk4] at hk; (try dsimp only at hk);refine iA ?_;refine fJ ?_;refine q28 ?_;rintro F2 ⟨le1_2,hz2⟩;refine gU ?_;have hf2:=hz2.toF rfl (fun _=>rfl);haveI:=hf2.oneC;obtain rfl:=Option.some.inj hk;exact q4U
def zaz (x0_:GReader)(limit:Int):Option (List (List GChoice)×(Int×Int)):=
 (zar x0_ limit).bind fun r11=>
 dS (fun (s4:List (List GChoice)×Int×Int)=>
  some (s4.1,(s4.2.1,s4.2.2)))
 (fun k4=>
  d4 (r11.1≤9223372036854775807) <|
  di (fun (i_9:Nat) (next8:(List (List GChoice)×Int×Int)→Option (List (List GChoice)×(Int×Int))) (s8:List (List GChoice)×Int×Int)=>
   (zbA (GReader.mk (Gfault.mk s8.2.1) x0_.made x0_.in_ s8.2.2)).bind fun r16=>
   (bif decide (¬(lU (GReader.mk (Gfault.mk r16.2.1) x0_.made x0_.in_ r16.2.2))=0) then
    some ([],(r16.2.1,r16.2.2))
    else
    d4 (db (s8.1++[r16.1]).length 24) <|
    next8 ((s8.1++[r16.1]),r16.2.1,r16.2.2)))
  (fun (s8:List (List GChoice)×Int×Int)=>
   k4 (s8.1,s8.2.1,s8.2.2)) (r11.1.toNat - 0) 0 ([],r11.2.1,r11.2.2))
theorem zbY (F0:Frz)(w:World)(hF0:F0.At w)(x0_:GReader)(g0_:Nat)(v0_2:Value)(limit:Int)(hO:Hp w (cZ [.row g0_ 155 [.int .i64 x0_.fault.first, .bool x0_.made,v0_2, .int .i64 x0_.at_], .sl v0_2 5 1 x0_.in_.length (x0_.in_.flatMap (eK .u8))]) [.row g0_ 155 [.int .i64 x0_.fault.first, .bool x0_.made,v0_2, .int .i64 x0_.at_], .sl v0_2 5 1 x0_.in_.length (x0_.in_.flatMap (eK .u8))] w)(hA:∀g,cZ [.row g0_ 155 [.int .i64 x0_.fault.first, .bool x0_.made,v0_2, .int .i64 x0_.at_], .sl v0_2 5 1 x0_.in_.length (x0_.in_.flatMap (eK .u8))] g→¬F0.S g)(r:List (List GChoice)×(Int×Int))(hr:zaz x0_ limit=some r):Calls Tryz.prog 61 #[.pointer (some ⟨g0_,0,none⟩), .int .i64 limit, .func (.func 62) #[] #[]] w fun e w'=>∃(y:Value×List (List Value)) (G:Frz),(SlD cG G y.1 1 y.2 r.1)∧e= .returned (y.1)∧FxM F0 w (cZ [.row g0_ 155 [.int .i64 x0_.fault.first, .bool x0_.made,v0_2, .int .i64 x0_.at_], .sl v0_2 5 1 x0_.in_.length (x0_.in_.flatMap (eK .u8))]) G [.row g0_ 155 [.int .i64 r.2.1, .bool x0_.made,v0_2, .int .i64 r.2.2], .sl v0_2 5 1 x0_.in_.length (x0_.in_.flatMap (eK .u8))] w':=by
 have hk:=hr;unfold zaz at hk;haveI:=gN (hO.own (.sl v0_2 5 1 x0_.in_.length (x0_.in_.flatMap (eK .u8))) a7);have hmx0_2:=gW (hO.own (.sl v0_2 5 1 x0_.in_.length (x0_.in_.flatMap (eK .u8))) a7);obtain ⟨S0,F1,rfl,hS0,hp0⟩:=ga hF0 hO hA;refine dq (hs:=[.row g0_ 155 [.int .i64 x0_.fault.first, .bool x0_.made,v0_2, .int .i64 x0_.at_], .sl v0_2 5 1 x0_.in_.length (x0_.in_.flatMap (eK .u8)), .fr F1]) Tryz.func61 rfl rfl rfl hp0 ?_;refine mh ?_;refine TL.slNil 50 1 ?_;refine jB ?_;have hq:=dM hk;clear hk;obtain ⟨r11,hr11,hk⟩:=hq; (try dsimp only at hk);refine gQ ?_;refine cN (dl [1,2,3,0] [.row g0_ 155 [.int .i64 x0_.fault.first, .bool x0_.made,v0_2, .int .i64 x0_.at_], .sl v0_2 5 1 x0_.in_.length (x0_.in_.flatMap (eK .u8))] [.sl (.slice none 0 0) 50 1 ([]:List (List GChoice)).length ([]:List (List Value)).flatten] rfl rfl rfl rfl a6 (fun w hw hw2 hF=>zbe _ w hF x0_ g0_ v0_2 limit hw2.takes.1 hw2.takes.2 r11 hr11)) ?_;rintro _ _ ⟨⟨⟩, -,rfl,rfl⟩;refine lC ?_;have hq:=eP hk;clear hk;obtain ⟨k4,hk4,hk⟩:=hq; (try dsimp only at hk);refine dj (ι:=List (List GChoice)×Value×List (List Value)×Int×Int×FzB w (cZ [.row g0_ 155 [.int .i64 x0_.fault.first, .bool x0_.made,v0_2, .int .i64 x0_.at_], .sl v0_2 5 1 x0_.in_.length (x0_.in_.flatMap (eK .u8))]) S0) (fun z=>[(7,z.2.1)]) (fun z=>[.sl z.2.1 50 1 z.1.length z.2.2.1.flatten, .row g0_ 155 [.int .i64 z.2.2.2.1, .bool x0_.made,v0_2, .int .i64 z.2.2.2.2.1], .sl v0_2 5 1 x0_.in_.length (x0_.in_.flatMap (eK .u8)), .fr z.2.2.2.2.2]) (fun z=>k4 (z.1,z.2.2.2.1,z.2.2.2.2.1)=some r∧OwnD cG z.2.2.2.2.2.toFrz 1 z.2.2.1 z.1∧OneC z.2.1∧F1.toFrz.Le z.2.2.2.2.2.toFrz) ?_ ?_
 ·have hq:(r11.1≤9223372036854775807)∧_:=eQ hk;clear hk;obtain ⟨gl8,hk⟩:=hq; (try dsimp only at hk);have hq:=fS hk;clear hk;obtain ⟨f8,kk8,hf8,hkk8,hk⟩:=hq;refine gg ?_;refine T.pick [3,0,1,2] rfl a6 ?_;refine T.loop (ι:=Nat×List (List GChoice)×Value×List (List Value)×Int×Int×FzB w (cZ [.row g0_ 155 [.int .i64 x0_.fault.first, .bool x0_.made,v0_2, .int .i64 x0_.at_], .sl v0_2 5 1 x0_.in_.length (x0_.in_.flatMap (eK .u8))]) S0) (fun z=>[(0, .pointer (some ⟨g0_,0,none⟩)),(2, .func (.func 62) #[] #[]),(7,z.2.2.1),(11, .int .i64 r11.1),(12, .int .i64 (z.1:Int))]) (fun z=>[.sl z.2.2.1 50 1 z.2.1.length z.2.2.2.1.flatten, .row g0_ 155 [.int .i64 z.2.2.2.2.1, .bool x0_.made,v0_2, .int .i64 z.2.2.2.2.2.1], .sl v0_2 5 1 x0_.in_.length (x0_.in_.flatMap (eK .u8)), .fr z.2.2.2.2.2.2]) (fun z=>di f8 kk8 (r11.1.toNat - z.1) z.1 (z.2.1,z.2.2.2.2.1,z.2.2.2.2.2.1)=some r∧OwnD cG z.2.2.2.2.2.2.toFrz 1 z.2.2.2.1 z.2.1∧OneC z.2.2.1∧F1.toFrz.Le z.2.2.2.2.2.2.toFrz) (fun z=>r11.1.toNat - z.1) (0,[],(.slice none 0 0),[],r11.2.1,r11.2.2,F1) ?_ ?_ ?_ ?_
  ·exact ⟨hk,(OwnD.nil _ _ 1),inferInstance,(Frz.Le.refl _)⟩
  ·exact ld
  ·exact fv
  ·rintro ⟨i_9,l_5,vl_5,cl_5,c_6,c_7,F3⟩ ⟨hk,hl_5,ol_5,le1_3⟩; (try dsimp only at *);refine ei ?_;refine T.cond rfl (fun h10=>?_) (fun h10=>?_)
   ·have p10:=of_decide_eq_true h10;rw [fT a5] at hk;generalize hn8:di f8 kk8 (r11.1.toNat - (i_9+1)) (i_9+1)=next8 at hk;rw [←hf8] at hk; (try dsimp only at hk);refine q1S ?_;have hq:=dM hk;clear hk;obtain ⟨r16,hr16,hk⟩:=hq; (try dsimp only at hk);refine gQ ?_;refine cN (d3 [1,2,3,0] [.row g0_ 155 [.int .i64 c_6, .bool x0_.made,v0_2, .int .i64 c_7], .sl v0_2 5 1 x0_.in_.length (x0_.in_.flatMap (eK .u8))] [.sl vl_5 50 1 l_5.length cl_5.flatten] rfl rfl rfl rfl a6 (fun w hw hw2 hF=>zfp _ w hF (GReader.mk (Gfault.mk c_6) x0_.made x0_.in_ c_7) g0_ v0_2 hw2.takes.1 hw2.takes.2 r16 hr16)) ?_;rintro _ _ ⟨v16_0_0,F4,le3_4,hf16_0_0,hq,rfl⟩;obtain rfl:=hq.symm;refine em ?_;have le1_4:=le1_3.trans le3_4;haveI:=hf16_0_0.oneC;refine kL ?_;refine cN (dl [0,1,2,3] [.row g0_ 155 [.int .i64 r16.2.1, .bool x0_.made,v0_2, .int .i64 r16.2.2], .sl v0_2 5 1 x0_.in_.length (x0_.in_.flatMap (eK .u8))] [.sl vl_5 50 1 l_5.length cl_5.flatten] rfl rfl rfl rfl a6 (fun w hw hw2 hF=>zbq _ w hF (GReader.mk (Gfault.mk r16.2.1) x0_.made x0_.in_ r16.2.2) g0_ v0_2 hw2.takes.1 hw2.takes.2)) ?_;rintro _ _ ⟨⟨⟩, -,rfl,rfl⟩;refine lC ?_;refine T.cond rfl (fun h11=>?_) (fun h11=>?_)
    ·have p11:=of_decide_eq_true h11;replace hk:=dy hk h11;refine gy ?_;refine q1h ?_;obtain rfl:=Option.some.inj hk;exact cU rfl rfl (fun w' hw=>⟨((.slice none 0 0),[]),F4.toFrz,(SlD.nil _ _ 1),rfl,cX (hw.pick (idx:=[0,1,2]) rfl a6) hS0 le1_4⟩)
    ·have p11:=of_decide_eq_false h11;replace hk:=dz hk h11;refine kl ?_;have hq:(db (l_5++[r16.1]).length 24)∧_:=eQ hk;clear hk;obtain ⟨g23,hk⟩:=hq; (try dsimp only at hk);refine gQ ?_;refine jg ?_;rintro _ _ ⟨g22,rfl,rfl⟩;have hl22:OwnD cG F4.toFrz 1 [[v16_0_0]] [r16.1]:=(cP (OwnD.nil _ _ 1) ⟨_,rfl,hf16_0_0⟩);refine cN (d8 4 0 rfl rfl rfl rfl rfl rfl (iC (ys:=[r16.1])) (j4 (cs:=cl_5) (ds:=[[v16_0_0]])) g23 a6) ?_;rintro v23 _ ⟨hv23,rfl⟩;have ho23:OwnD cG F4.toFrz 1 (cl_5++[[v16_0_0]]) (l_5++[r16.1]):=(cP (OwnD.mono (rep:=cG) (fun _ _ _ _=>R_List_GChoice.mono) hl_5 le3_4) ⟨_,rfl,hf16_0_0⟩);refine lA ?_;rw [←hn8] at hk;refine K.pick [4,1,2,3] rfl a6 ?_;exact K.next ((i_9+1),(l_5++[r16.1]),v23,(cl_5++[[v16_0_0]]),r16.2.1,r16.2.2,F4) ⟨hk,ho23,inferInstance,le1_4⟩ a9 (.c (.c (.c (.c (.c .nil))))) (List.Sublist.refl _)
   ·have p10:=of_decide_eq_false h10;rw [fR a5,←hkk8] at hk; (try dsimp only at hk);refine ff ?_;exact c4 (l_5,vl_5,cl_5,c_6,c_7,F3) ⟨hk,hl_5,inferInstance,le1_3⟩ (.c .nil) (List.Sublist.refl _)
 ·rintro ⟨l_1,vl_1,cl_1,c_2,c_3,F2⟩ ⟨hk,hl_1,ol_1,le1_2⟩; (try dsimp only at *);rw [←hk4] at hk; (try dsimp only at hk);refine iA ?_;refine fJ ?_;refine q28 ?_;rintro F5 ⟨le2_5,hz5⟩;refine gU ?_;have le1_5:=le1_2.trans le2_5;have hf5:=hz5.toD (OwnD.mono (rep:=cG) (fun _ _ _ _=>R_List_GChoice.mono) hl_1 le2_5) rfl;haveI:=hf5.1.oneC;obtain rfl:=Option.some.inj hk;exact cU rfl rfl (fun w' hw=>⟨(vl_1,cl_1),F5.toFrz,hf5,rfl,cX (hw.pick (idx:=[0,1,2]) rfl a6) hS0 le1_5⟩)
def zbh (b:List Int):Option (GProof×Int):=
 (bif decide (65536<(b.length:Int)) then
  some ((GProof.mk [] []),5)
  else
  (zcU b).bind fun r11=>
  (bif (r11).isSome then
   (zbn (r11.getD default) 512).bind fun r13=>
   (zaz (GReader.mk (Gfault.mk r13.2.1) ((r11.getD default).made) ((r11.getD default).in_) r13.2.2) 4096).bind fun r16=>
   dS (fun (x_3:Bool)=>
    (bif x_3 then
     some ((GProof.mk [] []),6)
     else
     some ((GProof.mk r13.1 r16.1),0)))
   (fun k4=>
    (bif decide (¬(zaO (GReader.mk (Gfault.mk r16.2.1) ((r11.getD default).made) ((r11.getD default).in_) r16.2.2))=0) then
     k4 true
     else
     (l8 (GProof.mk r13.1 r16.1)).bind fun r23=>
     k4 (!r23)))
   else
   none))
theorem zeg (F0:Frz)(w:World)(hF0:F0.At w)(b:List Int)(vb:Value)(hb:SlC F0 vb 1 (b.map (eK .u8)))(r:GProof×Int)(hr:zbh b=some r):Calls Tryz.prog 28 #[vb] w fun e w'=>∃(y:Value×Value×List (List Value)) (G:Frz),(SlC G y.1 1 (r.1.Stations.map eI)∧SlD cG G y.2.1 1 y.2.2 r.1.Lemmas)∧e= .returned (.tuple #[.agg [y.1,y.2.1].toArray, .int .i64 r.2])∧Fx F0 w G w':=by
 have hk:=hr;unfold zbh at hk;haveI:=hb.oneC;obtain ⟨S0,F1,rfl,hS0,hp0⟩:=fK hF0;refine dq Tryz.func28 rfl rfl rfl hp0 ?_;refine de ?_;refine fQ ?_;rintro _ _ ⟨g2,rfl,rfl⟩;refine kL ?_;refine cI (dA rfl rfl hb (List.length_map _)) ?_;have hm7:b.length≤9223372036854775807:=(List.length_map _)▸hb.max;refine dP ?_;refine T.cond rfl (fun h1=>?_) (fun h1=>?_)
 ·have p1:=of_decide_eq_true h1;replace hk:=dy hk h1;refine de ?_;refine iX ?_;refine kr ?_;refine dd ?_;refine jK ?_;obtain rfl:=Option.some.inj hk;exact gz 0 rfl rfl rfl rfl rfl (fun w' hw=>⟨((.slice none 0 0),(.slice none 0 0),[]),F1.toFrz,⟨(SlC.nil _ 1),(SlD.nil _ _ 1)⟩,rfl,fC hw (i:=1) rfl hS0 (Frz.Le.refl _)⟩)
 ·have p1:=of_decide_eq_false h1;replace hk:=dz hk h1;refine iR ?_;have hq:=dM hk;clear hk;obtain ⟨r11,hr11,hk⟩:=hq; (try dsimp only at hk);refine iH ((r11).isSome) (fun h2=>?_) (fun h2=>?_)
  ·replace hk:=dy hk h2;refine fo ?_;refine cN (d3 [1,0] [] [.row g2 33 [(.slice none 0 0),(.slice none 0 0)]] rfl rfl rfl rfl a6 (fun w hw hw2 hF=>(zfK _ w hF b vb hb r11 hr11).mono (fun e w' hp=>hp.1 h2))) ?_;rintro _ _ ⟨⟨g11_n,v11_n_2⟩,F2,le1_2, -,rfl,rfl⟩;refine q3s ?_;intro iv11_n_2 hmv11_n_2;refine f9 ?_;refine fQ ?_;rintro _ _ ⟨g5,rfl,rfl⟩;refine i3 ?_;have hq:=dM hk;clear hk;obtain ⟨r13,hr13,hk⟩:=hq; (try dsimp only at hk);refine fo ?_;refine cN (d3 [1,2,3,0,4] [.row g11_n 155 [.int .i64 ((r11.getD default).fault.first), .bool ((r11.getD default).made),v11_n_2, .int .i64 ((r11.getD default).at_)], .sl v11_n_2 5 1 ((r11.getD default).in_).length (((r11.getD default).in_).flatMap (eK .u8))] [.row g5 33 [(.slice none 0 0),(.slice none 0 0)], .row g2 33 [(.slice none 0 0),(.slice none 0 0)]] rfl rfl rfl rfl a6 (fun w hw hw2 hF=>zdn _ w hF (r11.getD default) g11_n v11_n_2 512 hw2.takes.1 hw2.takes.2 r13 hr13)) ?_;rintro _ _ ⟨v13_0_0,F3,le2_3,hf13_0_0,hq,rfl⟩;obtain rfl:=hq.symm;refine em ?_;have le1_3:=le1_2.trans le2_3;haveI:=hf13_0_0.oneC;refine q2H ?_;refine i3 ?_;have hq:=dM hk;clear hk;obtain ⟨r16,hr16,hk⟩:=hq; (try dsimp only at hk);refine fo ?_;refine cN (d3 [0,1,2,3,4] [.row g11_n 155 [.int .i64 r13.2.1, .bool ((r11.getD default).made),v11_n_2, .int .i64 r13.2.2], .sl v11_n_2 5 1 ((r11.getD default).in_).length (((r11.getD default).in_).flatMap (eK .u8))] [.row g5 33 [v13_0_0,(.slice none 0 0)], .row g2 33 [(.slice none 0 0),(.slice none 0 0)]] rfl rfl rfl rfl a6 (fun w hw hw2 hF=>zbY _ w hF (GReader.mk (Gfault.mk r13.2.1) ((r11.getD default).made) ((r11.getD default).in_) r13.2.2) g11_n v11_n_2 4096 hw2.takes.1 hw2.takes.2 r16 hr16)) ?_;rintro _ _ ⟨⟨v16_0_0,cs16_0_0⟩,F4,le3_4,hf16_0_0,hq,rfl⟩;obtain rfl:=hq.symm;refine em ?_; (try dsimp only at hf16_0_0);have le1_4:=le1_3.trans le3_4;haveI:=hf16_0_0.1.oneC;refine q2H ?_;refine jB ?_; (try dsimp only at hk);have hq:=eP hk;clear hk;obtain ⟨k4,hk4,hk⟩:=hq; (try dsimp only at hk);refine dj (ι:=Bool) (fun z=>[(2, .pointer (some ⟨g2,0,none⟩)),(5, .pointer (some ⟨g5,0,none⟩)),(25, .bool z)]) (fun z=>[.row g5 33 [v13_0_0,v16_0_0], .row g2 33 [(.slice none 0 0),(.slice none 0 0)], .fr F4]) (fun z=>k4 z=some r) ?_ ?_
   ·refine fo ?_;refine cN (dl [0,1,2,3,4] [.row g11_n 155 [.int .i64 r16.2.1, .bool ((r11.getD default).made),v11_n_2, .int .i64 r16.2.2], .sl v11_n_2 5 1 ((r11.getD default).in_).length (((r11.getD default).in_).flatMap (eK .u8))] [.row g5 33 [v13_0_0,v16_0_0], .row g2 33 [(.slice none 0 0),(.slice none 0 0)]] rfl rfl rfl rfl a6 (fun w hw hw2 hF=>zcE _ w hF (GReader.mk (Gfault.mk r16.2.1) ((r11.getD default).made) ((r11.getD default).in_) r16.2.2) g11_n v11_n_2 hw2.takes.1 hw2.takes.2)) ?_;rintro _ _ ⟨⟨⟩, -,rfl,rfl⟩;refine em ?_;refine d5 ?_;refine dQ rfl rfl rfl (fun h5=>?_) (fun h5=>?_)
    ·have p5:=of_decide_eq_true h5;replace hk:=dy hk h5;refine q2R ?_;refine K.pick [3,4,2] rfl a6 ?_;exact q36
    ·have p5:=of_decide_eq_false h5;replace hk:=dz hk h5;refine cI (dJ 3) ?_;have hq:=dM hk;clear hk;obtain ⟨r23,hr23,hk⟩:=hq;refine cN (cL rfl rfl rfl (fun w hw=>zbQ _ w (hw.fr (i:=2) rfl) (GProof.mk r13.1 r16.1) v13_0_0 (SlC.mono hf13_0_0 le3_4) v16_0_0 cs16_0_0 hf16_0_0 r23 hr23)) ?_;refine lO ?_;refine K.pick [3,4,2] rfl a6 ?_;exact c4 (!r23) hk (.c (.c (.c .nil))) (List.Sublist.refl _)
   ·rintro x_3 hk;rw [←hk4] at hk; (try dsimp only at hk);refine T.cond rfl (fun h6=>?_) (fun h6=>?_)
    ·replace hk:=dy hk h6;refine de ?_;refine iX ?_;refine q2d ?_;refine dd ?_;refine jK ?_;obtain rfl:=Option.some.inj hk;exact gz 1 rfl rfl rfl rfl rfl (fun w' hw=>⟨((.slice none 0 0),(.slice none 0 0),[]),F4.toFrz,⟨(SlC.nil _ 1),(SlD.nil _ _ 1)⟩,rfl,fC hw (i:=2) rfl hS0 le1_4⟩)
    ·replace hk:=dz hk h6;refine gV ?_;refine gY ?_;refine q2d ?_;refine eU ?_;obtain rfl:=Option.some.inj hk;exact gz 1 rfl rfl rfl rfl rfl (fun w' hw=>⟨(v13_0_0,v16_0_0,cs16_0_0),F4.toFrz,⟨(SlC.mono hf13_0_0 le3_4),hf16_0_0⟩,rfl,fC hw (i:=2) rfl hS0 le1_4⟩)
  ·replace hk:=dz hk h2;refine fo ?_;refine cN (d3 [1,0] [] [.row g2 33 [(.slice none 0 0),(.slice none 0 0)]] rfl rfl rfl rfl a6 (fun w hw hw2 hF=>(zfK _ w hF b vb hb r11 hr11).mono (fun e w' hp=>hp.2 h2))) ?_;rintro _ _ ⟨⟨⟩,F5,le1_5, -,rfl,rfl⟩;refine em ?_;refine f9 ?_;refine fQ ?_;rintro _ _ ⟨g5,rfl,rfl⟩;refine i3 ?_;cases hk
def dw (n:Nat):List Int:=if h:n<128 then [(n:Int)] else ((n % 128+128:Nat):Int) :: dw (n / 128)
termination_by n
decreasing_by omega
theorem zfU {n:Nat}(h:n<128):dw n=[(n:Int)]:=by rw [dw];simp [h]
theorem zgU {n:Nat}(h:¬n<128):dw n=((n % 128+128:Nat):Int) :: dw (n / 128):=by rw [dw];simp [h]
theorem zg3 (n:Nat):0<(dw n).length:=by
 by_cases h:n<128
 ·rw [zfU h];simp
 ·rw [zgU h];simp
theorem zd5:∀(k n:Nat),n<2 ^ (7* (k+1))→(dw n).length≤k+1
 |0,n,h=>by rw [zfU (by simpa using h)];simp
 |k+1,n,h=>by
  by_cases h1:n<128
  ·rw [zfU h1];simp
  ·rw [zgU h1,List.length_cons]
   have:=zd5 k (n / 128) (by
    rw [Nat.div_lt_iff_lt_mul a6]
    calc n<2 ^ (7* (k+1+1)):=h
     _=2 ^ (7* (k+1)) *128:=by rw [show 7* (k+1+1)=7* (k+1)+7 by omega,Nat.pow_add])
   omega
theorem or128:∀k:Nat,k<256→orK .u8 (k:Int) 128=((k % 128+128:Nat):Int):=by
 (have h:∀k:_root_.Fin 256,orK .u8 ((k.1:Nat):Int) 128=((k.1 % 128+128:Nat):Int):=by decide);exact fun k hk=>h ⟨k,hk⟩
theorem and127:∀k:Nat,k<256→andK .u8 (k:Int) 127=((k % 128:Nat):Int):=by
 (have h:∀k:_root_.Fin 256,andK .u8 ((k.1:Nat):Int) 127=((k.1 % 128:Nat):Int):=by decide);exact fun k hk=>h ⟨k,hk⟩
theorem zm5 (n:Nat):IntKind.u8.wrap (n:Int)=((n % 256:Nat):Int):=by
 simp [IntKind.wrap,IntKind.signed,IntKind.bits]
theorem shr7 (n:BitVec 64):(n >>> 7).toNat=n.toNat / 128:=by rw [BitVec.toNat_ushiftRight,Nat.shiftRight_eq_div_pow]
theorem zlw {fuel:Nat}{l:List Int}{n:BitVec 64}(hf:20≤fuel)(hl:l.length≤100000):zbP fuel l n=some (l++dw n.toNat):=by
 unfold zbP;simp only [dS];have hb:∀m:BitVec 64,(dw m.toNat).length≤10:=fun m=>zd5 9 _ (Nat.lt_of_lt_of_le m.isLt a6);refine zeV (σ:=List Int×BitVec 64) (I:=fun s=>s.1++dw s.2.toNat=l++dw n.toNat) (μ:=fun s=>(dw s.2.toNat).length) (post:=fun o=>o=some (l++dw n.toNat)) rfl (by have:=hb n;show (dw n.toNat).length<fuel;omega) ?_;rintro ⟨a,m⟩ next hI hn;dsimp only at hI hn ⊢
 have hlen:a.length≤100010:=by
  have h1:=congrArg List.length hI;rw [List.length_append,List.length_append] at h1;have:=hb n;omega
 by_cases h:m.toNat<128
 ·rw [decide_eq_false (by show ¬(127:Int)<_;omega),cond_false,gG (by unfold db;simp;omega),zm5,Nat.mod_eq_of_lt a5,←zfU h,hI]
 ·rw [decide_eq_true (by show (127:Int)<_;omega),cond_true,gG (by unfold db;simp;omega),zm5,or128 _ (Nat.mod_lt _ a6),Nat.mod_mod_of_dvd _ a6];have h2:=zgU h;refine hn _ ?_ ?_
  ·show (a++[_])++dw (m >>> 7).toNat=_
   rw [shr7,List.append_assoc,List.singleton_append,←h2,hI]
  ·show (dw (m >>> 7).toNat).length<(dw m.toNat).length
   rw [shr7,h2,List.length_cons];omega
structure RdS (x:GReader) (rest:List Int):Prop where
 made:x.made=true
 ok:x.fault.first=0
 pos:0≤x.at_
 drop:x.in_.drop x.at_.toNat=rest
 len:x.at_.toNat+rest.length=x.in_.length
abbrev adv (x:GReader)(k:Nat):GReader:=⟨⟨0⟩,x.made,x.in_,x.at_+(k:Int)⟩
theorem RdS.adv {x:GReader}{a rest:List Int}(h:RdS x (a++rest)):RdS (adv x a.length) rest:=by
 have hl:=h.len;rw [List.length_append] at hl;have hp:=h.pos;refine ⟨h.made,rfl,by show 0≤x.at_+_;omega,?_,?_⟩
 ·show x.in_.drop (x.at_+(a.length:Int)).toNat=rest
  rw [show (x.at_+(a.length:Int)).toNat=x.at_.toNat+a.length by omega,←List.drop_drop,h.drop,List.drop_left]
 ·show (x.at_+(a.length:Int)).toNat+rest.length=x.in_.length
  omega
theorem zi1 {f:Int}{m:Bool}{l:List Int}{a b:Int}{rest:List Int}(hp:0≤a)(hd:l.drop a.toNat=b :: rest):zau ⟨⟨f⟩,m,l,a⟩=some (Dy.ok (b,a+1)):=by
 have hlt:a.toNat<l.length:=by
  rcases Nat.lt_or_ge a.toNat l.length with h|h
  ·exact h
  ·rw [List.drop_eq_nil_of_le h] at hd;cases hd
 have hb:cH l a.toNat=b:=by
  rw [List.drop_eq_getElem_cons hlt] at hd;rw [dW hlt];exact (List.cons.inj hd).1
 unfold zau;simp only [dS];rw [decide_eq_false a5,cond_false,gG ⟨hp,by omega⟩,hb]
theorem zna {lo p i:Nat}(hlo:lo<2 ^ (7*i))(hi:7*i<64)(hp:p<2 ^ 64)(hs:p*2 ^ (7*i)<2 ^ 64):(BitVec.ofNat 64 lo ||| (BitVec.ofNat 64 p <<< (7*i)))=BitVec.ofNat 64 (lo+p*2 ^ (7*i)):=by
 apply BitVec.eq_of_toNat_eq;have h1:lo<2 ^ 64:=Nat.lt_trans hlo (Nat.pow_lt_pow_right a6 hi);rw [BitVec.toNat_or,BitVec.toNat_shiftLeft,BitVec.toNat_ofNat,BitVec.toNat_ofNat,BitVec.toNat_ofNat,Nat.mod_eq_of_lt h1,Nat.mod_eq_of_lt hp,Nat.shiftLeft_eq,Nat.mod_eq_of_lt hs,Nat.or_comm];have h2:=Nat.shiftLeft_add_eq_or_of_lt hlo p;rw [Nat.shiftLeft_eq] at h2
 have h3:p*2 ^ (7*i)+lo<2 ^ 64:=by
  rw [h2];exact Nat.or_lt_two_pow hs h1
 rw [←h2,Nat.add_comm lo,Nat.mod_eq_of_lt h3]
theorem zh0 {x : GReader} {n most : Nat} {rest : List Int} (hm0 : 0 < most) (hm : most ≤ 10) (hn : n < 2 ^ 64) (hn2 : n < 2 ^ (7 * most)) (h : RdS x (dw n ++ rest)) : zas x (most : Int) = some (Dy.ok (BitVec.ofNat 64 n, x.at_ + ((dw n).length : Int))) := by
  unfold zas; rw [gG a5];simp only [dS]
  have key : ∀ (m i q lo : Nat) (a : Int) (z : BitVec 64), i + m = most → 0 ≤ a → x.in_.drop a.toNat = dw q ++ rest → n = lo + q * 2 ^ (7 * i) → lo < 2 ^ (7 * i) → (0 < i → 0 < q) → q < 2 ^ (7 * m) →
      di (fun (i_8 : Nat) (next7 : (BitVec 64 × BitVec 64 × Int) → Option (Dy (BitVec 64 × Int) (Int × Int))) (s7 : BitVec 64 × BitVec 64 × Int) =>
        (zau (GReader.mk (Gfault.mk x.fault.first) x.made x.in_ s7.2.2)).bind fun r14 =>
        (bif i2 r14 then
          (bif ((decide ((i_8 : Int) = 9)) && (decide (((1#64).toNat : Int) < ((BitVec.ofInt 64 (andK .u8 ((eD r14).1) 127)).toNat : Int)))) then
            some (Dy.er (6, ((eD r14).2)))
            else
            (bif decide ((eD r14).1 < 128) then
              (bif ((decide ((eD r14).1 = 0)) && (decide (0 < (i_8 : Int)))) then
                some (Dy.er (6, ((eD r14).2)))
                else
                some (Dy.ok ((s7.2.1 ||| ((BitVec.ofInt 64 (andK .u8 ((eD r14).1) 127)) <<< ((7 * (i_8 : Int)).toNat))), ((eD r14).2))))
              else
              next7 (s7.1, (s7.2.1 ||| ((BitVec.ofInt 64 (andK .u8 ((eD r14).1) 127)) <<< ((7 * (i_8 : Int)).toNat))), (eD r14).2)))
          else
          some (Dy.er ((jq r14).1, ((jq r14).2)))))
      (fun (s7 : BitVec 64 × BitVec 64 × Int) => some (Dy.er (6, s7.2.2))) m i (z, BitVec.ofNat 64 lo, a) = some (Dy.ok (BitVec.ofNat 64 n, a + ((dw q).length : Int))) := by
    intro m
    induction m with
    | zero =>
      intro i q lo a z e ha hd hnq hlo hq hq2; have := hq a5; simp at hq2; omega
    | succ m ih =>
      intro i q lo a z e ha hd hnq hlo hq hq2; (have hi7 : 7 * i < 64 := by omega); have hle : q % 128 * 2 ^ (7 * i) ≤ q * 2 ^ (7 * i) := Nat.mul_le_mul_right _ (Nat.mod_le _ _); have hacc : (BitVec.ofNat 64 lo ||| (BitVec.ofNat 64 (q % 128) <<< (7 * i))) = BitVec.ofNat 64 (lo + q % 128 * 2 ^ (7 * i)) := zna hlo hi7 (Nat.lt_trans (Nat.mod_lt _ a6) a6) a5
      have h9 : ¬ (i = 9 ∧ 1 < q % 128) := fun ⟨h1, h2⟩ => by
        subst h1; have : 2 * 2 ^ (7 * 9) ≤ q % 128 * 2 ^ (7 * 9) := Nat.mul_le_mul_right _ h2; omega
      have hbig : ((decide ((i : Int) = 9)) && (decide (((1#64).toNat : Int) < ((BitVec.ofNat 64 (q % 128)).toNat : Int)))) = false := by
        rw [Bool.and_eq_false_iff, decide_eq_false_iff_not, decide_eq_false_iff_not]; rw [show (BitVec.ofNat 64 (q % 128)).toNat = q % 128 from by rw [BitVec.toNat_ofNat]; exact Nat.mod_eq_of_lt a5]; rcases Nat.lt_or_ge 1 (q % 128) with h1 | h1
        · left; intro h2; exact h9 ⟨by omega, h1⟩
        · right; show ¬ (1 : Int) < _; omega
      by_cases h1 : q < 128
      · rw [zfU h1] at hd ⊢; have hx : q % 128 = q := Nat.mod_eq_of_lt h1
        show (Option.bind (zau _) _) = _
        rw [zi1 ha hd]
        show (bif (decide ((i : Int) = 9) && decide (((1#64).toNat : Int) < ((BitVec.ofInt 64 (andK .u8 (q : Int) 127)).toNat : Int))) then _ else bif decide ((q : Int) < 128) then (bif decide ((q : Int) = 0) && decide (0 < (i : Int)) then _ else some (Dy.ok ((BitVec.ofNat 64 lo ||| ((BitVec.ofInt 64 (andK .u8 (q : Int) 127)) <<< ((7 * (i : Int)).toNat))), a + 1))) else _) = _
        rw [show (7 * (i : Int)).toNat = 7 * i by omega, and127 q a5, BitVec.ofInt_natCast, hbig, cond_false, decide_eq_true a5, cond_true, show (decide ((q : Int) = 0) && decide (0 < (i : Int))) = false from by
          rw [Bool.and_eq_false_iff, decide_eq_false_iff_not, decide_eq_false_iff_not]; rcases Nat.eq_zero_or_pos i with h2 | h2
          · right; omega
          · left; have := hq h2; omega, cond_false, hacc, hx, ← hnq]
        rfl
      · rw [zgU h1] at hd ⊢
        show (Option.bind (zau _) _) = _
        rw [List.cons_append] at hd; rw [zi1 ha hd]
        show (bif (decide ((i : Int) = 9) && decide (((1#64).toNat : Int) < ((BitVec.ofInt 64 (andK .u8 ((q % 128 + 128 : Nat) : Int) 127)).toNat : Int))) then _ else bif decide (((q % 128 + 128 : Nat) : Int) < 128) then _ else di _ _ m (i + 1) (z, (BitVec.ofNat 64 lo ||| ((BitVec.ofInt 64 (andK .u8 ((q % 128 + 128 : Nat) : Int) 127)) <<< ((7 * (i : Int)).toNat))), a + 1)) = _
        (have hx : (q % 128 + 128) % 128 = q % 128 := by omega); rw [show (7 * (i : Int)).toNat = 7 * i by omega, and127 _ a5, BitVec.ofInt_natCast, hx, hbig, cond_false, decide_eq_false a5, cond_false, hacc]
        have hd2 : x.in_.drop (a + 1).toNat = dw (q / 128) ++ rest := by
          rw [show (a + 1).toNat = a.toNat + 1 by omega, ← List.drop_drop, hd]; rfl
        (have e7 : 2 ^ (7 * (i + 1)) = 2 ^ (7 * i) * 128 := by rw [show 7 * (i + 1) = 7 * i + 7 by omega, Nat.pow_add]); (have e8 : 2 ^ (7 * (m + 1)) = 2 ^ (7 * m) * 128 := by rw [show 7 * (m + 1) = 7 * m + 7 by omega, Nat.pow_add]); have hdm := Nat.div_add_mod q 128
        have := ih (i + 1) (q / 128) (lo + q % 128 * 2 ^ (7 * i)) (a + 1) z a5 a5 hd2 (by
          rw [e7, hnq]
          conv => lhs; rw [← hdm]
          rw [Nat.add_mul]; (have : 128 * (q / 128) * 2 ^ (7 * i) = q / 128 * (2 ^ (7 * i) * 128) := by rw [Nat.mul_comm 128, Nat.mul_assoc, Nat.mul_comm 128])
          omega) (by
          rw [e7]; have h3 : q % 128 * 2 ^ (7 * i) ≤ 127 * 2 ^ (7 * i) := Nat.mul_le_mul_right _ a5
          omega) (fun _ => by omega) (by rw [e8] at hq2; omega)
        rw [List.length_cons, show a + (((dw (q / 128)).length + 1 : Nat) : Int) = a + 1 + ((dw (q / 128)).length : Int) by omega]; exact this
  have hk := key most 0 n 0 x.at_ 0#64 a5 h.pos h.drop a5 a7 a5 (by simpa using hn2); rw [show ((most : Int)).toNat - 0 = most by omega]; exact hk
def fA (n:Int):List Int:=dw n.toNat
theorem zgP (k:Nat){n:Int}(h:n<2 ^ (7* (k+1))):(fA n).length≤k+1:=zd5 k _ (by
 have:(n.toNat:Int)<((2 ^ (7* (k+1)):Nat):Int):=by
  rw [Int.natCast_pow];rcases Int.lt_or_le n 0 with h0|h0
  ·rw [show n.toNat=0 by omega];exact Int.pow_pos a6
  ·rw [show (n.toNat:Int)=n by omega];exact h
 exact Int.ofNat_lt.1 this)
theorem ziB {α:Type}{l:List α}{g:α→List Int}{k:Nat}(h:∀x∈l,(g x).length≤k):(l.flatMap g).length≤k*l.length:=by
 induction l with
 |nil=>simp
 |cons x r ih=>
  rw [List.flatMap_cons,List.length_append,List.length_cons,Nat.mul_add];have:=h x (List.mem_cons_self ..);have:=ih fun y hy=>h y (List.mem_cons_of_mem _ hy);omega
theorem znb {x:GReader}{n:Nat}{rest:List Int}(hn:n<2 ^ 63)(h:RdS x (dw n++rest)):zaj x=some ((n:Int),(0,x.at_+((dw n).length:Int))):=by
 have hg:=zh0 (most:=9) a6 a6 a5 hn h;unfold zaj;rw [h.made,h.ok]
 show (zas x 9).bind _=_
 rw [show (9:Int)=((9:Nat):Int) from rfl,hg]
 show some (wI (((BitVec.ofNat 64 n).toNat:Nat):Int),((0:Int),_))=_
 rw [BitVec.toNat_ofNat,Nat.mod_eq_of_lt a5,zhG a5];rfl
theorem zmD {x:GReader}{n:Nat}{lim:Int}{rest:List Int}(hn:(n:Int)≤lim)(hl:lim≤1000000)(h:RdS x (dw n++rest)):zar x lim=some ((n:Int),(0,x.at_+((dw n).length:Int))):=by
 have hg:=zh0 (most:=9) a6 a6 a5 a5 h;unfold zar;rw [h.made,h.ok]
 show (zax x lim).bind _=_
 have hs:zax x lim=some (Dy.ok ((n:Int),x.at_+((dw n).length:Int))):=by
  unfold zax;rw [show (9:Int)=((9:Nat):Int) from rfl,hg]
  show (bif decide (lim<0) then _ else bif decide (lim<wI (((BitVec.ofNat 64 n).toNat:Nat):Int)) then _ else some (Dy.ok (wI (((BitVec.ofNat 64 n).toNat:Nat):Int),_)))=_
  rw [BitVec.toNat_ofNat,Nat.mod_eq_of_lt a5,zhG a5,decide_eq_false a5,cond_false,decide_eq_false a5,cond_false];rfl
 rw [hs]
 rfl
theorem zmg {x:GReader}{n:Int}{rest:List Int}(hn:0≤n∧n≤9223372036854775807)(h:RdS x (fA n++rest)):zaj x=some (n,(0,x.at_+((fA n).length:Int))):=by
 have:=znb (n:=n.toNat) a5 h;rw [show ((n.toNat:Nat):Int)=n by omega] at this;exact this
def chR (s:Nat):Nat→Int→List Int
 |0,_=>[]
 |m+1,c=>if s.testBit (c - 2).toNat then c :: chR s m (c+1) else chR s m (c+1)
theorem zis {α : Type} [Inhabited α] {read : GReader → Option (α × (Int × Int))} {enc : α → List Int} {l : List α} {x : GReader} {lim : Int} {sz : Nat} {rest : List Int} (hz : sz ≤ 100) (hr : ∀ v ∈ l, ∀ (x : GReader) (rest : List Int), RdS x (enc v ++ rest) → read x = some (v, (0, x.at_ + ((enc v).length : Int)))) (hl : (l.length : Int) ≤ lim) (hm : lim ≤ 5000) (h : RdS x (dw l.length ++ (l.flatMap enc ++ rest))) :
    ((zar x lim).bind fun r11 =>
      dS (fun (s4 : List α × Int × Int) => some (s4.1, (s4.2.1, s4.2.2)))
      (fun k4 =>
        d4 (r11.1 ≤ 9223372036854775807) <|
        di (fun (i_9 : Nat) (next8 : (List α × Int × Int) → Option (List α × (Int × Int))) (s8 : List α × Int × Int) =>
          (read (GReader.mk (Gfault.mk s8.2.1) x.made x.in_ s8.2.2)).bind fun r16 =>
          (bif decide (¬ (lU (GReader.mk (Gfault.mk r16.2.1) x.made x.in_ r16.2.2)) = 0) then
            some ([], (r16.2.1, r16.2.2))
            else
            d4 (db (s8.1 ++ [r16.1]).length sz) <|
            next8 ((s8.1 ++ [r16.1]), r16.2.1, r16.2.2)))
        (fun (s8 : List α × Int × Int) =>
          k4 (s8.1, s8.2.1, s8.2.2)) (r11.1.toNat - 0) 0 ([], r11.2.1, r11.2.2))) = some (l, (0, x.at_ + ((dw l.length ++ l.flatMap enc).length : Int))) := by
  rw [zmD hl a5 h]
  show d4 ((l.length : Int) ≤ 9223372036854775807) (di _ (fun s8 : List α × Int × Int => some (s8.1, (s8.2.1, s8.2.2))) (((l.length : Int)).toNat - 0) 0 ([], (0 : Int), x.at_ + ((dw l.length).length : Int))) = _
  rw [gG a5, show ((l.length : Int)).toNat - 0 = l.length by omega]
  have key : ∀ m i (a : Int), i + m = l.length → RdS ⟨⟨0⟩, x.made, x.in_, a⟩ ((l.drop i).flatMap enc ++ rest) →
      di (fun (i_9 : Nat) (next8 : (List α × Int × Int) → Option (List α × (Int × Int))) (s8 : List α × Int × Int) =>
          (read (GReader.mk (Gfault.mk s8.2.1) x.made x.in_ s8.2.2)).bind fun r16 =>
          (bif decide (¬ (lU (GReader.mk (Gfault.mk r16.2.1) x.made x.in_ r16.2.2)) = 0) then
            some ([], (r16.2.1, r16.2.2))
            else
            d4 (db (s8.1 ++ [r16.1]).length sz) <|
            next8 ((s8.1 ++ [r16.1]), r16.2.1, r16.2.2))) (fun s8 : List α × Int × Int => some (s8.1, (s8.2.1, s8.2.2))) m i (l.take i, 0, a) = some (l, (0, a + (((l.drop i).flatMap enc).length : Int))) := by
    intro m
    induction m with
    | zero =>
      intro i a e _; rw [List.drop_eq_nil_of_le a5, List.take_of_length_le a5]
      show some (l, ((0 : Int), a)) = some (l, ((0 : Int), a + 0))
      rw [Int.add_zero]
    | succ m ih =>
      intro i a e hR; (have hi : i < l.length := by omega); rw [List.drop_eq_getElem_cons hi, List.flatMap_cons, ← dW hi] at hR ⊢; rw [List.append_assoc] at hR; have h1 := hr _ (gp hi) _ _ hR
      show (read _).bind _ = _
      rw [h1]
      show (bif decide (¬ (lU ⟨⟨0⟩, x.made, x.in_, _⟩) = 0) then _ else d4 (db (l.take i ++ [cH l i]).length sz) (di _ _ m (i + 1) (l.take i ++ [cH l i], (0 : Int), a + ((enc (cH l i)).length : Int)))) = _
      have e1 : ∀ y : Int, lU ⟨⟨0⟩, x.made, x.in_, y⟩ = 0 := fun y => by
        unfold lU zaE; rw [h.made]; rfl
      rw [e1, decide_eq_false a7, cond_false, ← zjJ hi, gG (by
        rw [List.length_take]; unfold db; have : min (i + 1) l.length * sz ≤ 5000 * 100 := Nat.mul_le_mul a5 hz
        omega)]
      rw [ih (i + 1) (a + ((enc (cH l i)).length : Int)) a5 hR.adv, List.length_append]
      congr 3
      omega
  have := key l.length 0 (x.at_ + ((dw l.length).length : Int)) a5 (by rw [List.drop_zero]; exact h.adv); rw [List.drop_zero, List.take_zero] at this; rw [this, List.length_append]
  congr 3
  omega
def Byt (l:List Int):Prop:=∀x∈l,0≤x∧x≤255
structure RdO (x:GReader):Prop where
 made:x.made=true
 byt:Byt x.in_
 pos:0≤x.at_
 le:x.at_≤(x.in_.length:Int)
theorem RdO.to {x:GReader}(h:RdO x){k a:Int}(ha:0≤a∧a≤(x.in_.length:Int)):RdO ⟨⟨k⟩,x.made,x.in_,a⟩:=⟨h.made,h.byt,ha.1,ha.2⟩
def toD (l:List Int):GDomain:=⟨cH l 0,chR (cH l 1).toNat 56 2⟩
theorem map_id {α β:Type}{l:List α}{f:α→β}{g:β→α}(h:∀x∈l,g (f x)=x):(l.map f).map g=l:=by
 rw [List.map_map]
 conv=>rhs;rw [←List.map_id l]
 exact List.map_congr_left h
def kq (c:GChoice):List Int:=fA c.Station++fA c.Channel
def ft (g:List GChoice):List Int:=dw g.length++g.flatMap kq
def eL (x:GProof):List Int:=(dw x.Stations.length++x.Stations.flatMap fA)++(dw x.Lemmas.length++x.Lemmas.flatMap ft)
theorem zfH {g:List GChoice}(h:ValidL g):g.length≤512:=by
 have key:∀i,i<g.length→(i:Int)≤(cH g i).Station:=by
  intro i
  induction i with
  |zero=>intro hi;exact (h.good _ (gp hi)).1
  |succ i ih=>intro hi;have:=ih a5;have:=h.inc i (i+1) a5 hi;omega
 rcases Nat.eq_zero_or_pos g.length with h0|h0
 ·omega
 ·have a:=key (g.length - 1) a5;have b:=(h.good _ (gp (show g.length - 1<g.length by omega))).2.1;omega
theorem okS_n {l:List Int}(h:kT l=true):l.length≤512:=by
 have hp:=(zim (lt:=fun a b:Int=>decide (a<b)) (fun a b c x y=>by rw [decide_eq_true_eq] at *;omega)).1 (zgJ h);have hin:=zhX h
 have key:∀i,i<l.length→(i:Int)≤cH l i:=by
  intro i
  induction i with
  |zero=>intro hi;exact (hin _ (gp hi)).1
  |succ i ih=>
   intro hi;have h1:=ih a5
   have h2:cH l i<cH l (i+1):=by
    rw [dW (show i<l.length by omega),dW hi];exact of_decide_eq_true (List.pairwise_iff_getElem.1 hp i (i+1) a5 hi a5)
   omega
 rcases Nat.eq_zero_or_pos l.length with h0|h0
 ·omega
 ·have a:=key (l.length - 1) a5;have b:=(hin _ (gp (show l.length - 1<l.length by omega))).2;omega
structure InX (x:GProof):Prop where
 st:∀n∈x.Stations,0≤n∧n≤511
 ns:x.Stations.length≤512
 nl:x.Lemmas.length≤4096
 g:∀g∈x.Lemmas,ValidL g
theorem zka {x:GProof}(h:jV x=true):InX x:=by
 have hS:=okX_S h;refine ⟨fun n hn=>by have:=zhX hS n hn;omega,okS_n hS,okX_n h,fun g hg=>?_⟩;obtain ⟨i,hi,rfl⟩:=iS hg;unfold jV at h;have h3:=List.all_eq_true.1 (zgJ (zgJ h)) i (List.mem_range.2 hi);unfold okL at h3;have h4:=zgf (zgf h3);rw [zhI] at h4;exact ku.1 h4
theorem ch_n {c:GChoice}(h:0≤c.Station∧c.Station≤511∧2≤c.Channel∧c.Channel≤51):(kq c).length≤4:=by
 have h1:=zgP (n:=c.Station) 1 a5;have h2:=zgP (n:=c.Channel) 1 a5;unfold kq;rw [List.length_append];omega
theorem g_n {g:List GChoice}(h:ValidL g):(ft g).length≤2+4*g.length:=by
 have h1:=zfH h;have h2:=zd5 1 g.length a5;have h3:=ziB (l:=g) (g:=kq) (k:=4) fun c hc=>ch_n (h.good c hc);unfold ft;rw [List.length_append];omega
theorem x_n {x:GProof}(h:InX x){m:Nat}(hm:∀g∈x.Lemmas,g.length≤m):(eL x).length≤4+2*x.Stations.length+(2+4*m) *x.Lemmas.length:=by
 have a:=h.ns;have b:=h.nl;have h1:=zd5 1 x.Stations.length a5;have h2:=zd5 1 x.Lemmas.length a5;have h3:=ziB (l:=x.Stations) (g:=fA) (k:=2) fun n hn=>zgP 1 (by have:=h.st n hn;omega); (have h4:=ziB (l:=x.Lemmas) (g:=ft) (k:=2+4*m) fun g hg=>by have:=g_n (h.g g hg);have:=hm g hg;omega);unfold eL;simp only [List.length_append];omega
theorem ch_r {c:GChoice}(hc:0≤c.Station∧c.Station≤511∧2≤c.Channel∧c.Channel≤51)(x:GReader)(rest:List Int)(h:RdS x (kq c++rest)):zbo x=some (c,(0,x.at_+((kq c).length:Int))):=by
 unfold kq at h;rw [List.append_assoc] at h;have h1:=zmg a5 h;have h2:=zmg a5 h.adv;unfold zbo;rw [h1]
 show (zaj ⟨⟨0⟩,x.made,x.in_,_⟩).bind _=_
 rw [h2];unfold kq;rw [List.length_append]
 show some (c,((0:Int),x.at_+((fA c.Station).length:Int)+((fA c.Channel).length:Int)))=_
 congr 3
 omega
theorem g_r {g:List GChoice}(hg:ValidL g)(x:GReader)(rest:List Int)(h:RdS x (ft g++rest)):zbA x=some (g,(0,x.at_+((ft g).length:Int))):=by
 unfold ft at h;rw [List.append_assoc] at h;have h1:=zfH hg;have e:=zis (sz:=16) (read:=zbo) (enc:=kq) (lim:=512) a6 (fun c hc=>ch_r (hg.good c hc)) a5 a6 h;unfold zbA;have e:zaJ x 512=_:=e;rw [e];rfl
theorem zhc {x:GProof}(hok:jV x=true)(hl:(eL x).length≤65536):zbh (eL x)=some (x,0):=by
 have hx:=zka hok;have a:=hx.ns;have b:=hx.nl;unfold zbh;rw [decide_eq_false a5,cond_false]
 have hr:zcU (eL x)=some (some ⟨⟨0⟩,true,eL x,0⟩):=by
  unfold zcU;rw [List.nil_append,gG (by unfold db;omega)]
 rw [hr];simp only [Option.bind_some,Option.isSome_some,cond_true,Option.getD_some]
 have h:RdS ⟨⟨0⟩,true,eL x,0⟩ ((dw x.Stations.length++(x.Stations.flatMap fA++(dw x.Lemmas.length++(x.Lemmas.flatMap ft++[]))))):=by
  refine ⟨rfl,rfl,Int.le_refl _,?_,?_⟩
  ·show (eL x).drop 0=_
   unfold eL;simp only [List.drop_zero,List.append_assoc,List.append_nil]
  ·show 0+_=(eL x).length
   unfold eL;simp only [List.append_assoc,List.append_nil,Nat.zero_add]
 have e1:=zis (sz:=8) (read:=zaj) (enc:=fA) (lim:=512) a6 (fun n hn y rest hy=>zmg (by have:=hx.st n hn;omega) hy) a5 a6 h
 have h2:RdS ⟨⟨0⟩,true,eL x,0+((dw x.Stations.length++x.Stations.flatMap fA).length:Int)⟩ (dw x.Lemmas.length++(x.Lemmas.flatMap ft++[])):=by
  rw [←List.append_assoc] at h;exact h.adv
 have e2:=zis (sz:=24) (read:=zbA) (enc:=ft) (lim:=4096) a6 (fun g hg=>g_r (hx.g g hg)) a5 a6 h2;have e1:zbn ⟨⟨0⟩,true,eL x,0⟩ 512=_:=e1;have e2:zaz ⟨⟨0⟩,true,eL x,0+((dw x.Stations.length++x.Stations.flatMap fA).length:Int)⟩ 4096=_:=e2;rw [e1]
 show (zaz ⟨⟨0⟩,true,eL x,0+((dw x.Stations.length++x.Stations.flatMap fA).length:Int)⟩ 4096).bind _=_
 rw [e2]
 have he:zaO ⟨⟨0⟩,true,eL x,0+((dw x.Stations.length++x.Stations.flatMap fA).length:Int)+((dw x.Lemmas.length++x.Lemmas.flatMap ft).length:Int)⟩=0:=by
  have hn:(0:Int)+((dw x.Stations.length++x.Stations.flatMap fA).length:Int)+((dw x.Lemmas.length++x.Lemmas.flatMap ft).length:Int)=((eL x).length:Int):=by
   unfold eL;simp only [List.length_append];omega
  rw [hn]
  show (bif decide ((0:Int)=0)&&decide (((eL x).length:Int)<((eL x).length:Int)) then (5:Int) else 0)=0
  rw [decide_eq_false (show ¬((eL x).length:Int)<((eL x).length:Int) by omega)];rfl
 simp only [dS,Option.bind_some];rw [decide_eq_false (fun hn=>hn he),cond_false,zeQ,Option.bind_some,hok]
 rfl
def fl (g:List GChoice):List Int:=g.flatMap fun c=>[c.Station,c.Channel]
def Wok (s:GWriter)(y:Value×Value):Prop:=OneC y.1∧OneC y.2∧(s.fault.first=0→y.1=y.2)
abbrev hW (g:Nat)(s:GWriter)(y:Value×Value):HS:=[.row g 128 [.int .i64 s.fault.first,y.1], .sl y.2 5 1 s.out.length (s.out.flatMap (eK .u8))]
section
variable {Fe:Fence}[hFe:Calm Fe]{P:Program}{n:Nat}{B D:World}{M:Nat→Prop}{Q:Exit→Act→World→Prop}{fs:dH}{hs:HS}{ops:Array Oper}
theorem TS.litO {hs0:HS}{r:Ord}{g k m size:Nat}{t:TypeId}{l l2:List Value}(j:Nat)(hj:hs[j]?=some (.row g t l))(he:l2=l)(hk:k=m)(hl:l.length=m*size)(hn:m≤1000)(h:TS Fe P n B D M ops Q hs0 r fs (hs.set j (.sl (.slice (some ⟨g,0,none⟩) m m) t size k l2))):TS Fe P n B D M ops Q hs0 r fs hs:=
 lN (ι:=Unit) (φ:=fun _=>True) (hs':=fun _=>hs.set j (.sl (.slice (some ⟨g,0,none⟩) m m) t size k l2)) (fun w hw=>⟨(),trivial,hw.litO hj he hk hl hn⟩) (fun _ _=>h)
end
theorem zl7 (F0:Frz)(w:World)(hF0:F0.At w)(x0_:Gfault)(g0_:Nat)(e_:Int)(v:Value)(hO:Hp w (cZ [.row g0_ 128 [.int .i64 x0_.first,v]]) [.row g0_ 128 [.int .i64 x0_.first,v]] w)(hA:∀g,cZ [.row g0_ 128 [.int .i64 x0_.first,v]] g→¬F0.S g):Calls Tryz.prog 100 #[.pointer (some ⟨g0_,0,none⟩), .int .i64 e_] w fun e w'=>∃(y:Unit),(True)∧e= .returned (.tuple #[])∧FxM F0 w (cZ [.row g0_ 128 [.int .i64 x0_.first,v]]) F0 [.row g0_ 128 [.int .i64 ((zaN x0_ e_).first),v]] w':=by
 obtain ⟨r,hk⟩:∃r,zaN x0_ e_=r:=⟨_,rfl⟩;rw [hk];unfold zaN at hk;obtain ⟨S0,F1,rfl,hS0,hp0⟩:=ga hF0 hO hA;refine dq (hs:=[.row g0_ 128 [.int .i64 x0_.first,v], .fr F1]) Tryz.func100 rfl rfl rfl hp0 ?_;refine iA ?_;refine eu ?_;refine dP ?_;refine T.cond rfl (fun h1=>?_) (fun h1=>?_)
 ·have p1:=of_decide_eq_true h1;replace hk:=dy hk h1;refine ed ?_;refine q3E ?_;subst hk;exact q4V
 ·have p1:=of_decide_eq_false h1;replace hk:=dz hk h1;refine T.skip ?_;subst hk;exact q4V
theorem zlD (F0:Frz)(w:World)(hF0:F0.At w)(x0_:GWriter)(g0_:Nat)(v0_1 u0_1:Value)(hO:Hp w (cZ [.row g0_ 128 [.int .i64 x0_.fault.first,v0_1], .sl u0_1 5 1 x0_.out.length (x0_.out.flatMap (eK .u8))]) [.row g0_ 128 [.int .i64 x0_.fault.first,v0_1], .sl u0_1 5 1 x0_.out.length (x0_.out.flatMap (eK .u8))] w)(hA:∀g,cZ [.row g0_ 128 [.int .i64 x0_.fault.first,v0_1], .sl u0_1 5 1 x0_.out.length (x0_.out.flatMap (eK .u8))] g→¬F0.S g):Calls Tryz.prog 99 #[.pointer (some ⟨g0_,0,none⟩)] w fun e w'=>∃(y:Unit),(True)∧e= .returned (.bool (zam x0_))∧FxM F0 w (cZ [.row g0_ 128 [.int .i64 x0_.fault.first,v0_1], .sl u0_1 5 1 x0_.out.length (x0_.out.flatMap (eK .u8))]) F0 [.row g0_ 128 [.int .i64 x0_.fault.first,v0_1], .sl u0_1 5 1 x0_.out.length (x0_.out.flatMap (eK .u8))] w':=by
 obtain ⟨r,hk⟩:∃r,zam x0_=r:=⟨_,rfl⟩;rw [hk];unfold zam at hk;haveI:=gN (hO.own (.sl u0_1 5 1 x0_.out.length (x0_.out.flatMap (eK .u8))) a7);have hmx0_1:=gW (hO.own (.sl u0_1 5 1 x0_.out.length (x0_.out.flatMap (eK .u8))) a7);obtain ⟨S0,F1,rfl,hS0,hp0⟩:=ga hF0 hO hA;refine dq (hs:=[.row g0_ 128 [.int .i64 x0_.fault.first,v0_1], .sl u0_1 5 1 x0_.out.length (x0_.out.flatMap (eK .u8)), .fr F1]) Tryz.func99 rfl rfl rfl hp0 ?_;refine ei ?_;refine dj (ι:=Unit) (fun z=>[(2, .bool (decide (x0_.fault.first=0)))]) (fun z=>[.row g0_ 128 [.int .i64 x0_.fault.first,v0_1], .sl u0_1 5 1 x0_.out.length (x0_.out.flatMap (eK .u8)), .fr F1]) (fun z=>True) ?_ ?_
 ·refine fo ?_;refine cI (kR (e:=128) a8 rfl rfl rfl) ?_;refine eM ?_;refine eZ ?_;refine eu ?_;refine lZ ?_;exact q4m
 ·rintro _ _;refine T.ret ?_;subst hk;exact mj
def zjv (x0_:GWriter)(l1_:List Int):GWriter:=
 (bif decide (65536<(l1_.length:Int)) then
  ⟨zaN x0_.fault 7,[]⟩
  else
  ⟨x0_.fault,l1_⟩)
theorem zl5 (F0:Frz)(w:World)(hF0:F0.At w)(x0_:GWriter)(h0:x0_.fault.first=0)(g0_:Nat)(v0_1:Value)[iv0_1:OneC v0_1](l1_:List Int)(v1_:Value)(hO:Hp w (cZ [.row g0_ 128 [.int .i64 x0_.fault.first,v0_1], .sl v1_ 5 1 l1_.length (l1_.flatMap (eK .u8))]) [.row g0_ 128 [.int .i64 x0_.fault.first,v0_1], .sl v1_ 5 1 l1_.length (l1_.flatMap (eK .u8))] w)(hA:∀g,cZ [.row g0_ 128 [.int .i64 x0_.fault.first,v0_1], .sl v1_ 5 1 l1_.length (l1_.flatMap (eK .u8))] g→¬F0.S g):Calls Tryz.prog 101 #[.pointer (some ⟨g0_,0,none⟩),v1_] w fun e w'=>∃(y:Value×Value),Wok (zjv x0_ l1_) y∧e= .returned (.tuple #[])∧FxM F0 w (cZ [.row g0_ 128 [.int .i64 x0_.fault.first,v0_1], .sl v1_ 5 1 l1_.length (l1_.flatMap (eK .u8))]) F0 (hW g0_ (zjv x0_ l1_) y) w':=by
 obtain ⟨r,hk⟩:∃r,zjv x0_ l1_=r:=⟨_,rfl⟩;rw [hk];unfold zjv at hk;haveI:=gN (hO.own (.sl v1_ 5 1 l1_.length (l1_.flatMap (eK .u8))) a7);have hmx1_:=gW (hO.own (.sl v1_ 5 1 l1_.length (l1_.flatMap (eK .u8))) a7);obtain ⟨S0,F1,rfl,hS0,hp0⟩:=ga hF0 hO hA;refine q2u ?_;refine T.cond rfl (fun h1=>?_) (fun h1=>?_)
 ·have p1:=of_decide_eq_true h1;replace hk:=dy hk h1;refine iA ?_;refine eZ ?_;refine cN (dl [0,2,1] [.row g0_ 128 [.int .i64 x0_.fault.first,v0_1]] [.sl v1_ 5 1 l1_.length (l1_.flatMap (eK .u8))] rfl rfl rfl rfl a6 (fun w hw hw2 hF=>zl7 _ w hF x0_.fault g0_ 7 v0_1 hw2.takes.1 hw2.takes.2)) ?_;rintro _ _ ⟨⟨⟩, -,rfl,rfl⟩;refine em ?_;refine jK ?_;refine K.slNil 5 1 ?_;subst hk;exact iY rfl (fun w' hw=>⟨(v0_1, .slice none 0 0),⟨inferInstance,inferInstance,fun h=>(by unfold zaN at h;rw [decide_eq_true h0] at h;exact absurd (show (7:Int)=0 from h) a6)⟩,rfl,cX (hw.pick (idx:=[1,0,2]) rfl a6) hS0 (Frz.Le.refl _)⟩)
 ·have p1:=of_decide_eq_false h1;replace hk:=dz hk h1;refine T.skip (K.seq (T.region ?_));refine q3E ?_;subst hk;exact eX rfl (fun w' hw=>⟨(v1_,v1_),⟨inferInstance,inferInstance,fun _=>rfl⟩,rfl,cX (hw.pick (idx:=[0,1,2]) rfl a6) hS0 (Frz.Le.refl _)⟩)
def lG (fuel:Nat)(x0_:GWriter)(n:Int):Option GWriter:=
 (bif !(zam x0_) then
  some x0_
  else
  (bif decide (n<0) then
   none
   else
   (zbP fuel x0_.out (BitVec.ofInt 64 n)).bind fun r20=>
   some (zjv x0_ r20)))
theorem ze5 (F0:Frz)(w:World)(hF0:F0.At w)(x0_:GWriter)(g0_:Nat)(y0:Value×Value)(hy:Wok x0_ y0)(n:Int)(hO:Hp w (cZ (hW g0_ x0_ y0)) (hW g0_ x0_ y0) w)(hA:∀g,cZ (hW g0_ x0_ y0) g→¬F0.S g)(fuel:Nat)(r:GWriter)(hr:lG fuel x0_ n=some r):Calls Tryz.prog 68 #[.pointer (some ⟨g0_,0,none⟩), .int .i64 n] w fun e w'=>∃(y:Value×Value),Wok r y∧e= .returned (.tuple #[])∧FxM F0 w (cZ (hW g0_ x0_ y0)) F0 (hW g0_ r y) w':=by
 have hk:=hr;unfold lG at hk;obtain ⟨v0_1,u0_1⟩:=y0;haveI:OneC v0_1:=hy.1;haveI:OneC u0_1:=hy.2.1;have hmx0_1:=gW (hO.own (.sl u0_1 5 1 x0_.out.length (x0_.out.flatMap (eK .u8))) a7);obtain ⟨S0,F1,rfl,hS0,hp0⟩:=ga hF0 hO hA;refine dq (hs:=[.row g0_ 128 [.int .i64 x0_.fault.first,v0_1], .sl u0_1 5 1 x0_.out.length (x0_.out.flatMap (eK .u8)), .fr F1]) Tryz.func68 rfl rfl rfl hp0 ?_;refine iJ ?_;refine dd ?_;refine cN (dl [0,1,2] [.row g0_ 128 [.int .i64 x0_.fault.first,v0_1], .sl u0_1 5 1 x0_.out.length (x0_.out.flatMap (eK .u8))] [] rfl rfl rfl rfl a6 (fun w hw hw2 hF=>zlD _ w hF x0_ g0_ v0_1 u0_1 hw2.takes.1 hw2.takes.2)) ?_;rintro _ _ ⟨⟨⟩, -,rfl,rfl⟩;refine lC ?_;refine T.cond rfl (fun h1=>?_) (fun h1=>?_)
 ·replace hk:=dy hk h1;refine T.ret (cQ ?_);obtain rfl:=Option.some.inj hk;exact iY rfl (fun w' hw=>⟨(v0_1,u0_1),hy,rfl,cX (hw.pick (idx:=[0,1,2]) rfl a6) hS0 (Frz.Le.refl _)⟩)
 ·replace hk:=dz hk h1
  have h0:x0_.fault.first=0:=by
   (have h2:zam x0_=true:=by simpa using h1);exact of_decide_eq_true h2
  have hu:v0_1=u0_1:=hy.2.2 h0;subst hu;refine jR ?_;refine iK ?_;refine T.cond rfl (fun h2=>?_) (fun h2=>?_)
  ·have p2:=of_decide_eq_true h2;replace hk:=dy hk h2;refine T.seq ?_;cases hk
  ·have p2:=of_decide_eq_false h2;replace hk:=dz hk h2;refine kl ?_;have hq:=dM hk;clear hk;obtain ⟨r20,hr20,hk⟩:=hq; (try dsimp only at hk);refine q1P ?_;rintro v20_0_0 _ ⟨_, -,rfl,rfl⟩;refine q3H ?_;intro iv20_0_0 hmv20_0_0;refine cN (dl [2,0,1] [.row g0_ 128 [.int .i64 x0_.fault.first,v0_1], .sl v20_0_0 5 1 r20.length (r20.flatMap (eK .u8))] [] rfl rfl rfl rfl a6 (fun w hw hw2 hF=>zl5 _ w hF x0_ h0 g0_ v0_1 r20 v20_0_0 hw2.takes.1 hw2.takes.2)) ?_;rintro _ _ ⟨y9,hy9,rfl,rfl⟩;refine em ?_;refine TL.nil ?_;obtain rfl:=Option.some.inj hk;exact eX rfl (fun w' hw=>⟨y9,hy9,rfl,cX (hw.pick (idx:=[0,1,2]) rfl a6) hS0 (Frz.Le.refl _)⟩)
theorem znd (F0:Frz)(w:World)(hF0:F0.At w)(x0_:GWriter)(g0_:Nat)(y0:Value×Value)(hy:Wok x0_ y0)(hO:Hp w (cZ [.row g0_ 128 [.int .i64 x0_.fault.first,y0.1], .sl y0.2 5 1 x0_.out.length (x0_.out.flatMap (eK .u8))]) [.row g0_ 128 [.int .i64 x0_.fault.first,y0.1], .sl y0.2 5 1 x0_.out.length (x0_.out.flatMap (eK .u8))] w)(hA:∀g,cZ [.row g0_ 128 [.int .i64 x0_.fault.first,y0.1], .sl y0.2 5 1 x0_.out.length (x0_.out.flatMap (eK .u8))] g→¬F0.S g)(r:List Int×Int)(hr:zav x0_=some r):Calls Tryz.prog 69 #[.pointer (some ⟨g0_,0,none⟩)] w fun e w'=>∃(y:Value),(True)∧e= .returned (.tuple #[y, .int .i64 r.2])∧FxM F0 w (cZ [.row g0_ 128 [.int .i64 x0_.fault.first,y0.1], .sl y0.2 5 1 x0_.out.length (x0_.out.flatMap (eK .u8))]) F0 [.row g0_ 128 [.int .i64 x0_.fault.first,y0.1], .sl y0.2 5 1 x0_.out.length (x0_.out.flatMap (eK .u8)), .sl y 5 1 r.1.length (r.1.flatMap (eK .u8))] w':=by
 have hk:=hr;unfold zav at hk;obtain ⟨v0_1,u0_1⟩:=y0;haveI:OneC v0_1:=hy.1;haveI:=gN (hO.own (.sl u0_1 5 1 x0_.out.length (x0_.out.flatMap (eK .u8))) a7);have hmx0_1:=gW (hO.own (.sl u0_1 5 1 x0_.out.length (x0_.out.flatMap (eK .u8))) a7);obtain ⟨S0,F1,rfl,hS0,hp0⟩:=ga hF0 hO hA;refine dq (hs:=[.row g0_ 128 [.int .i64 x0_.fault.first,v0_1], .sl u0_1 5 1 x0_.out.length (x0_.out.flatMap (eK .u8)), .fr F1]) Tryz.func69 rfl rfl rfl hp0 ?_;refine q21 ?_;refine T.cond rfl (fun h1=>?_) (fun h1=>?_)
 ·have p1:=of_decide_eq_true h1;replace hk:=dy hk h1;refine q1X ?_;obtain rfl:=Option.some.inj hk;exact q4P
 ·have p1:=of_decide_eq_false h1;replace hk:=dz hk h1;have hu:v0_1=u0_1:=hy.2.2 (by simpa using p1);subst hu;refine iR ?_;have hq:(db ([]++x0_.out).length 1)∧_:=eQ hk;clear hk;obtain ⟨g21,hk⟩:=hq; (try dsimp only at hk);refine q2D ?_;rintro v21 _ ⟨hv21,rfl⟩;refine ji ?_;obtain rfl:=Option.some.inj hk;exact q4Q
def zds (fuel:Nat)(x_:GProof):Option (List Int×Int):=
 (l8 x_).bind fun r12=>
 (bif !r12 then
  some ([],2)
  else
  (lG fuel (GWriter.mk (Gfault.mk 0) []) (x_.Stations.length:Int)).bind fun r17=>
  dS (fun (c_2:GWriter)=>
   (lG fuel c_2 (x_.Lemmas.length:Int)).bind fun r31=>
   dS (fun (c_8:GWriter)=>
    (zav c_8).bind fun r56=>
    some (r56.1,r56.2))
   (fun k9=>
    di (fun (i_12:Nat) (next11:GWriter→Option (List Int×Int)) (c_10:GWriter)=>
     (lG fuel c_10 ((cH x_.Lemmas i_12).length:Int)).bind fun r41=>
     di (fun (i_16:Nat) (next15:GWriter→Option (List Int×Int)) (c_14:GWriter)=>
      (lG fuel c_14 ((cH (cH x_.Lemmas i_12) i_16).Station)).bind fun r50=>
      (lG fuel r50 ((cH (cH x_.Lemmas i_12) i_16).Channel)).bind fun r53=>
      next15 r53)
     (fun (c_14:GWriter)=>
      next11 c_14) (((cH x_.Lemmas i_12).length) - 0) 0 r41)
    (fun (c_10:GWriter)=>
     k9 c_10) (x_.Lemmas.length - 0) 0 r31))
  (fun k3=>
   di (fun (i_6:Nat) (next5:GWriter→Option (List Int×Int)) (c_4:GWriter)=>
    (lG fuel c_4 (cH x_.Stations i_6)).bind fun r26=>
    next5 r26)
   (fun (c_4:GWriter)=>
    k3 c_4) (x_.Stations.length - 0) 0 r17))
theorem zh4 (F0:Frz)(w:World)(hF0:F0.At w)(x_:GProof)(vx__0:Value)(hx__0:SlC F0 vx__0 1 (x_.Stations.map eI))(vx__1:Value)(cx__1:List (List Value))(hx__1:SlD cG F0 vx__1 1 cx__1 x_.Lemmas)(fuel:Nat)(r:List Int×Int)(hr:zds fuel x_=some r):Calls Tryz.prog 30 #[.agg [vx__0,vx__1].toArray] w fun e w'=>∃(y:Value),(True)∧e= .returned (.tuple #[y, .int .i64 r.2])∧FxM F0 w (cZ []) F0 [.sl y 5 1 r.1.length (r.1.flatMap (eK .u8))] w':=by
 have hk:=hr;unfold zds at hk;haveI:=hx__0.oneC;haveI:=hx__1.1.oneC;obtain ⟨S0,F1,rfl,hS0,hp0⟩:=fK hF0;rw [zem];refine dq Tryz.func30 rfl rfl rfl hp0 ?_;refine kA ?_;rintro _ _ ⟨g1,rfl,rfl⟩;refine d5 ?_;refine jB ?_;have hq:=dM hk;clear hk;obtain ⟨r12,hr12,hk⟩:=hq; (try dsimp only at hk);refine q3k ?_;refine T.cond rfl (fun h1=>?_) (fun h1=>?_)
 ·replace hk:=dy hk h1;refine ko ?_;refine K.slNil 5 1 ?_;obtain rfl:=Option.some.inj hk;exact q4R
 ·replace hk:=dz hk h1;refine gV ?_;refine fQ ?_;rintro _ _ ⟨g4,rfl,rfl⟩;refine TL.slNil 5 1 ?_;refine i3 ?_;have hq:=dM hk;clear hk;obtain ⟨r17,hr17,hk⟩:=hq; (try dsimp only at hk);refine ed ?_;refine kO ?_;refine q3L ?_;have hm16:x_.Stations.length≤9223372036854775807:=(List.length_map _)▸hx__0.max;refine cN (dl [1,0,3,2] [.row g4 128 [.int .i64 0,(.slice none 0 0)], .sl (.slice none 0 0) 5 1 ([]:List Int).length ([].flatMap (eK .u8))] [.row g1 33 [vx__0,vx__1]] rfl rfl rfl rfl a6 (fun w hw hw2 hF=>ze5 _ w hF (GWriter.mk (Gfault.mk 0) []) g4 (.slice none 0 0, .slice none 0 0) ⟨inferInstance,inferInstance,fun _=>rfl⟩ (x_.Stations.length:Int) hw2.takes.1 hw2.takes.2 fuel r17 hr17)) ?_;rintro _ _ ⟨v17_0_1,ov17_0_1,rfl,rfl⟩;refine em ?_;refine gX ?_;refine q1O ?_;refine q3L ?_;refine dP ?_;have hq:=eP hk;clear hk;obtain ⟨k3,hk3,hk⟩:=hq; (try dsimp only at hk);refine dj (ι:=GWriter×Value×Value) (fun z=>[(1, .pointer (some ⟨g1,0,none⟩)),(4, .pointer (some ⟨g4,0,none⟩))]) (fun z=>[.sl z.2.2 5 1 z.1.out.length (z.1.out.flatMap (eK .u8)), .row g4 128 [.int .i64 z.1.fault.first,z.2.1], .row g1 33 [vx__0,vx__1], .fr F1]) (fun z=>k3 z.1=some r∧Wok z.1 z.2) ?_ ?_
  ·have hq:=fS hk;clear hk;obtain ⟨f5,kk5,hf5,hkk5,hk⟩:=hq;refine gg ?_;refine T.pick [1,0,3,2] rfl a6 ?_;refine T.loop (ι:=Nat×GWriter×Value×Value) (fun z=>[(1, .pointer (some ⟨g1,0,none⟩)),(4, .pointer (some ⟨g4,0,none⟩)),(19,vx__0),(20, .int .i64 (x_.Stations.length:Int)),(21, .int .i64 (z.1:Int))]) (fun z=>[.sl z.2.2.2 5 1 z.2.1.out.length (z.2.1.out.flatMap (eK .u8)), .row g4 128 [.int .i64 z.2.1.fault.first,z.2.2.1], .row g1 33 [vx__0,vx__1], .fr F1]) (fun z=>di f5 kk5 (x_.Stations.length - z.1) z.1 z.2.1=some r∧Wok z.2.1 z.2.2) (fun z=>x_.Stations.length - z.1) (0,r17,v17_0_1) ?_ ?_ ?_ ?_
   ·exact ⟨hk,ov17_0_1⟩
   ·exact ld
   ·exact fv
   ·rintro ⟨i_6,c_4,vc_4⟩ ⟨hk,oc_4⟩; (try dsimp only at *);refine ei ?_;refine T.cond rfl (fun h7=>?_) (fun h7=>?_)
    ·have p7:=of_decide_eq_true h7;rw [fT a5] at hk;generalize hn5:di f5 kk5 (x_.Stations.length - (i_6+1)) (i_6+1)=next5 at hk;rw [←hf5] at hk; (try dsimp only at hk);refine q26 ?_;have hq:=dM hk;clear hk;obtain ⟨r26,hr26,hk⟩:=hq; (try dsimp only at hk);refine fo ?_;refine cN (dl [1,0,3,2] [.row g4 128 [.int .i64 c_4.fault.first,vc_4.1], .sl vc_4.2 5 1 c_4.out.length (c_4.out.flatMap (eK .u8))] [.row g1 33 [vx__0,vx__1]] rfl rfl rfl rfl a6 (fun w hw hw2 hF=>ze5 _ w hF c_4 g4 vc_4 oc_4 (cH x_.Stations i_6) hw2.takes.1 hw2.takes.2 fuel r26 hr26)) ?_;rintro _ _ ⟨v26_0_1,ov26_0_1,rfl,rfl⟩;refine em ?_;refine kC ?_;rw [←hn5] at hk;refine K.pick [1,0,3,2] rfl a6 ?_;exact K.next ((i_6+1),r26,v26_0_1) ⟨hk,ov26_0_1⟩ a9 (.c (.c (.c (.c (.c .nil))))) (List.Sublist.refl _)
    ·have p7:=of_decide_eq_false h7;rw [fR a5,←hkk5] at hk; (try dsimp only at hk);refine ff ?_;exact c4 (c_4,vc_4) ⟨hk,oc_4⟩ (.c (.c .nil)) (List.Sublist.refl _)
  ·rintro ⟨c_2,vc_2⟩ ⟨hk,oc_2⟩; (try dsimp only at *);rw [←hk3] at hk; (try dsimp only at hk);refine T.seq ?_;have hq:=dM hk;clear hk;obtain ⟨r31,hr31,hk⟩:=hq; (try dsimp only at hk);refine ed ?_;refine kO ?_;refine q3B ?_;have hm30:x_.Lemmas.length≤9223372036854775807:=hx__1.2.1▸hx__1.1.max;refine cN (dl [1,0,3,2] [.row g4 128 [.int .i64 c_2.fault.first,vc_2.1], .sl vc_2.2 5 1 c_2.out.length (c_2.out.flatMap (eK .u8))] [.row g1 33 [vx__0,vx__1]] rfl rfl rfl rfl a6 (fun w hw hw2 hF=>ze5 _ w hF c_2 g4 vc_2 oc_2 (x_.Lemmas.length:Int) hw2.takes.1 hw2.takes.2 fuel r31 hr31)) ?_;rintro _ _ ⟨v31_0_1,ov31_0_1,rfl,rfl⟩;refine em ?_;refine gX ?_;refine q1O ?_;refine q3B ?_;refine dP ?_;have hq:=eP hk;clear hk;obtain ⟨k9,hk9,hk⟩:=hq; (try dsimp only at hk);refine dj (ι:=GWriter×Value×Value) (fun z=>[(4, .pointer (some ⟨g4,0,none⟩))]) (fun z=>[.sl z.2.2 5 1 z.1.out.length (z.1.out.flatMap (eK .u8)), .row g4 128 [.int .i64 z.1.fault.first,z.2.1], .fr F1]) (fun z=>k9 z.1=some r∧Wok z.1 z.2) ?_ ?_
   ·have hq:=fS hk;clear hk;obtain ⟨f11,kk11,hf11,hkk11,hk⟩:=hq;refine q2l ?_;refine T.loop (ι:=Nat×GWriter×Value×Value) (fun z=>[(4, .pointer (some ⟨g4,0,none⟩)),(33,vx__1),(34, .int .i64 (x_.Lemmas.length:Int)),(35, .int .i64 (z.1:Int))]) (fun z=>[.sl z.2.2.2 5 1 z.2.1.out.length (z.2.1.out.flatMap (eK .u8)), .row g4 128 [.int .i64 z.2.1.fault.first,z.2.2.1], .fr F1]) (fun z=>di f11 kk11 (x_.Lemmas.length - z.1) z.1 z.2.1=some r∧Wok z.2.1 z.2.2) (fun z=>x_.Lemmas.length - z.1) (0,r31,v31_0_1) ?_ ?_ ?_ ?_
    ·exact ⟨hk,ov31_0_1⟩
    ·exact q37
    ·exact fv
    ·rintro ⟨i_12,c_10,vc_10⟩ ⟨hk,oc_10⟩; (try dsimp only at *);refine ei ?_;refine T.cond rfl (fun h13=>?_) (fun h13=>?_)
     ·have p13:=of_decide_eq_true h13;rw [fT a5] at hk;generalize hn11:di f11 kk11 (x_.Lemmas.length - (i_12+1)) (i_12+1)=next11 at hk;rw [←hf11] at hk; (try dsimp only at hk);refine q2q ?_;have hd38_0:=(R_List_GChoice.c0 (hx__1.2.2 i_12 a5)).2;haveI:=hd38_0.oneC;refine kx ?_;have hq:=dM hk;clear hk;obtain ⟨r41,hr41,hk⟩:=hq; (try dsimp only at hk);refine fo ?_;refine q3I ?_;have hm40:(cH x_.Lemmas i_12).length≤9223372036854775807:=(List.length_map _)▸hd38_0.max;refine cN (dl [1,0,2] [.row g4 128 [.int .i64 c_10.fault.first,vc_10.1], .sl vc_10.2 5 1 c_10.out.length (c_10.out.flatMap (eK .u8))] [] rfl rfl rfl rfl a6 (fun w hw hw2 hF=>ze5 _ w hF c_10 g4 vc_10 oc_10 ((cH x_.Lemmas i_12).length:Int) hw2.takes.1 hw2.takes.2 fuel r41 hr41)) ?_;rintro _ _ ⟨v41_0_1,ov41_0_1,rfl,rfl⟩;refine em ?_;refine lm ?_;refine q3I ?_;refine dP ?_;have hq:=fS hk;clear hk;obtain ⟨f15,kk15,hf15,hkk15,hk⟩:=hq;refine q2l ?_;refine T.loop (ι:=Nat×GWriter×Value×Value) (fun z=>[(4, .pointer (some ⟨g4,0,none⟩)),(33,vx__1),(34, .int .i64 (x_.Lemmas.length:Int)),(35, .int .i64 (i_12:Int)),(42,(cH (cH cx__1 i_12) 0)),(43, .int .i64 ((cH x_.Lemmas i_12).length:Int)),(44, .int .i64 (z.1:Int))]) (fun z=>[.sl z.2.2.2 5 1 z.2.1.out.length (z.2.1.out.flatMap (eK .u8)), .row g4 128 [.int .i64 z.2.1.fault.first,z.2.2.1], .fr F1]) (fun z=>di f15 kk15 (((cH x_.Lemmas i_12).length) - z.1) z.1 z.2.1=some r∧Wok z.2.1 z.2.2) (fun z=>((cH x_.Lemmas i_12).length) - z.1) (0,r41,v41_0_1) ?_ ?_ ?_ ?_
      ·exact ⟨hk,ov41_0_1⟩
      ·exact q4c
      ·exact fv
      ·rintro ⟨i_16,c_14,vc_14⟩ ⟨hk,oc_14⟩; (try dsimp only at *);refine ei ?_;refine T.cond rfl (fun h17=>?_) (fun h17=>?_)
       ·have p17:=of_decide_eq_true h17;rw [fT a5] at hk;generalize hn15:di f15 kk15 (((cH x_.Lemmas i_12).length) - (i_16+1)) (i_16+1)=next15 at hk;rw [←hf15] at hk; (try dsimp only at hk);refine q2X ?_;rintro _ _ ⟨g10,rfl,rfl⟩;refine q3P ?_;have hq:=dM hk;clear hk;obtain ⟨r50,hr50,hk⟩:=hq; (try dsimp only at hk);refine ed ?_;refine eu ?_;refine cN (dl [2,1,3,0] [.row g4 128 [.int .i64 c_14.fault.first,vc_14.1], .sl vc_14.2 5 1 c_14.out.length (c_14.out.flatMap (eK .u8))] [.row g10 68 [.int .i64 ((cH (cH x_.Lemmas i_12) i_16).Station), .int .i64 ((cH (cH x_.Lemmas i_12) i_16).Channel)]] rfl rfl rfl rfl a6 (fun w hw hw2 hF=>ze5 _ w hF c_14 g4 vc_14 oc_14 ((cH (cH x_.Lemmas i_12) i_16).Station) hw2.takes.1 hw2.takes.2 fuel r50 hr50)) ?_;rintro _ _ ⟨v50_0_1,ov50_0_1,rfl,rfl⟩;refine em ?_;refine TL.ns ?_;have hq:=dM hk;clear hk;obtain ⟨r53,hr53,hk⟩:=hq; (try dsimp only at hk);refine ed ?_;refine q1O ?_;refine cN (dl [0,1,2,3] [.row g4 128 [.int .i64 r50.fault.first,v50_0_1.1], .sl v50_0_1.2 5 1 r50.out.length (r50.out.flatMap (eK .u8))] [.row g10 68 [.int .i64 ((cH (cH x_.Lemmas i_12) i_16).Station), .int .i64 ((cH (cH x_.Lemmas i_12) i_16).Channel)]] rfl rfl rfl rfl a6 (fun w hw hw2 hF=>ze5 _ w hF r50 g4 v50_0_1 ov50_0_1 ((cH (cH x_.Lemmas i_12) i_16).Channel) hw2.takes.1 hw2.takes.2 fuel r53 hr53)) ?_;rintro _ _ ⟨v53_0_1,ov53_0_1,rfl,rfl⟩;refine em ?_;refine kC ?_;rw [←hn15] at hk;refine K.pick [1,0,2] rfl a6 ?_;exact K.next ((i_16+1),r53,v53_0_1) ⟨hk,ov53_0_1⟩ a9 (.c (.c (.c (.c (.c (.c (.c .nil))))))) (List.Sublist.refl _)
       ·have p17:=of_decide_eq_false h17;rw [fR a5,←hkk15] at hk; (try dsimp only at hk);refine q2K ?_;rw [←hn11] at hk;exact K.next ((i_12+1),c_14,vc_14) ⟨hk,oc_14⟩ a9 (.c (.c (.c (.c .nil)))) (List.Sublist.refl _)
     ·have p13:=of_decide_eq_false h13;rw [fR a5,←hkk11] at hk; (try dsimp only at hk);refine ff ?_;exact c4 (c_10,vc_10) ⟨hk,oc_10⟩ (.c .nil) (List.Sublist.refl _)
   ·rintro ⟨c_8,vc_8⟩ ⟨hk,oc_8⟩; (try dsimp only at *);rw [←hk9] at hk; (try dsimp only at hk);refine T.seq ?_;have hq:=dM hk;clear hk;obtain ⟨r56,hr56,hk⟩:=hq; (try dsimp only at hk);refine ed ?_;refine cN (dl [1,0,2] [.row g4 128 [.int .i64 c_8.fault.first,vc_8.1], .sl vc_8.2 5 1 c_8.out.length (c_8.out.flatMap (eK .u8))] [] rfl rfl rfl rfl a6 (fun w hw hw2 hF=>znd _ w hF c_8 g4 vc_8 oc_8 hw2.takes.1 hw2.takes.2 r56 hr56)) ?_;rintro _ _ ⟨v56_0_0, -,rfl,rfl⟩;refine em ?_;refine fB 2 rfl ?_;intro iv56_0_0 hmv56_0_0;refine TL.run 4 rfl ?_;refine fJ ?_;obtain rfl:=Option.some.inj hk;exact q4S
end Go.Proofs.YtogbggmckmnlfaaGreatDoor
